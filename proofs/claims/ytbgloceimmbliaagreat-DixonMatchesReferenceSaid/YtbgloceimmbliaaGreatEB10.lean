/-
  Theorems that the proofs of laws of this seat rest on.
  No condition.
-/
import Derived.Test.YtbgloceimmbliaaGreatEB9
set_option maxHeartbeats 20000000
set_option linter.unusedVariables false
set_option linter.unusedSimpArgs false
section
set_option linter.unusedSectionVars false
namespace Tor
open Go Go.RowKit
section
variable {P:Program} {E:Env} {D:List Deferred} {Γ:Ctx} {M:Mem} {ops:Array Oper}
theorem yD {a1 a2:Act} {w1 w2:World} {Γ2 Γk:Ctx} {t1 t2 p q m n:Nat} {T1 T2 T':TypeId} {L:Lay} {z:Value} {ψ:VT} (hS:St E D Γ M a1 w1) (hI:E.I = [])
  (hS2:St ⟨w1,E.O,aZ M ++ E.I,E.N,E.R⟩ D Γ2 (aX p T1 m [(0, .agg m, ψ)] :: aX q T2 1 [(0, .one,frS w1.heap.size T' L n z)] :: M) a2 w2) (hx:Ext w1 w2) (hk2 : ∀ t,(∀ j,dstOf ops j≠some t)→a2.tmps.getD t undef=a1.tmps.getD t undef) (hk:sW ops Γ Γk)
  (ht1:bT Γ2 t1=some (one (.pointer (some ⟨p,0,none⟩)))) (ht2:bT Γ2 t2=some (one (.pointer (some ⟨q,0,none⟩))))
  (hψ : ∀ v h b c, ψ.p v h→h b=some (c,T',(0,0))→(∀ i,i<n→bX L c (i*L.sz)=some z)→c.size=n*L.sz→ψ.p v (hid [b] h)) :
  ∃ b2,St E D ((t1,one (.pointer (some ⟨p,0,none⟩))) :: (t2,one (.pointer (some ⟨q,0,none⟩))) :: Γk) (aX p T1 m [(0, .agg m, ψ)] :: aX q T2 1 [(0, .one,one (slV (some b2) n n))] :: aH (some b2) T' L n n (fun _=>one z) :: M) a2 w2:=by
 obtain ⟨c,hc,hs,ha,hcs⟩:=hS2.base.mem _ (List.mem_cons_of_mem _ List.mem_cons_self)
 obtain ⟨d,hd,ds,da,dcs⟩:=hS2.base.mem _ List.mem_cons_self
 obtain ⟨v,hv1,b2,c2,g1,g2,g3,g4,g5,g6⟩:=hcs _ List.mem_cons_self
 obtain ⟨n1,n2⟩:=dx g3
 have lo : ∀ b,b ∈ [p,q]→w1.heap.size≤b∧b<w2.heap.size:=fun b hb=>by
  have hm:b∈aZ (aX p T1 m [(0, .agg m, ψ)] :: aX q T2 1 [(0, .one,frS w1.heap.size T' L n z)] :: M):=by
   simp [aX]; simp at hb;rcases hb with rfl | rfl
   ·exact .inl Y
   ·exact .inr (.inl Y)
  refine ⟨?_,hS2.base.ex b (List.mem_append.2 (.inr hm))⟩
  rcases hS2.base.lo b hm with h | h
  ·exact h
  ·exfalso
   rw [hI,List.append_nil] at h
   have hnd:=hS2.base.nd
   simp only [blks_cons,aX,List.cons_append,List.nil_append,List.nodup_cons,List.mem_cons] at hnd
   simp at hb
   rcases hb with rfl | rfl
   ·exact hnd.1 (.inr h)
   ·exact hnd.2.1 h
 have hpq:p≠q:=fun e=>by
  have hnd:=hS2.base.nd
  simp only [blks_cons,aX,List.cons_append,List.nil_append,List.nodup_cons,List.mem_cons] at hnd
  exact hnd.1 (.inl e)
 have hn:b2≠p∧b2≠q:=⟨fun e=>n1 (by simp [aX,e]),fun e=>n1 (by simp [aX,e])⟩
 refine ⟨b2,sU (N := [aX p T1 m [(0, .agg m, ψ)],aX q T2 1 [(0, .one,one (slV (some b2) n n))],aH (some b2) T' L n n (fun _=>one z)]) (Γn := [(t1,one (.pointer (some ⟨p,0,none⟩))),(t2,one (.pointer (some ⟨q,0,none⟩)))]) hS hx hS2.sz hS2.df (fun t φ h=>⟨(hk t φ h).1,hk2 t (hk t φ h).2⟩) ?_ ?_ ?_ ?_⟩
 ·intro o ho
  rcases List.mem_cons.1 ho with rfl | ho
  ·refine ⟨d,hd,ds,da,fun r hr => ?_⟩
   rcases List.mem_singleton.1 hr with rfl
   obtain ⟨y,hy1,hy2⟩:=dcs _ List.mem_cons_self
   refine ⟨y,hy1, ψ.mono (fun x u e => ?_) (hψ y _ b2 c2 hy2 g3 g6 g4)⟩
   obtain ⟨e1,e2⟩:=dx e
   obtain ⟨e3,e4⟩:=dx e2
   refine e9 (fun h => ?_) e4
   have h:x∈E.O ++ (p :: q :: b2 :: aZ M):=h
   have e3:x ∉ E.O ++ (p :: q :: aZ M):=e3
   simp only [List.mem_append,List.mem_cons,List.not_mem_nil,or_false] at h e1 e3
   rcases h with h | h | h | h | h
   ·exact e3 (.inl h)
   ·exact e3 (.inr (.inl h))
   ·exact e3 (.inr (.inr (.inl h)))
   ·exact e1 h
   ·exact e3 (.inr (.inr (.inr h)))
  ·rcases List.mem_cons.1 ho with rfl | ho
   ·refine ⟨c,hc,hs,ha,fun r hr => ?_⟩
    rcases List.mem_singleton.1 hr with rfl
    exact ⟨v,hv1,g2⟩
   ·have ho:=List.mem_singleton.1 ho
    subst ho
    refine ⟨Nat.le_refl _,g5,(fun h=>by cases h),fun b' hb' => ?_⟩
    cases hb'
    exact ⟨c2,n2,g4,fun i hi=>⟨z,g6 i hi,rfl⟩⟩
 ·simp [aZ,aX,aH]
  exact ⟨⟨hpq,fun e=>hn.1 e.symm⟩,fun e=>hn.2 e.symm⟩
 ·intro b' hb'
  simp [aZ,aX,aH] at hb'
  rcases hb' with rfl | rfl | rfl
  ·exact lo b' (by simp)
  ·exact lo b' (by simp)
  ·exact ⟨g1,eV n2⟩
 ·intro s φ hs
  rw [bA] at hs
  split at hs
  ·rename_i e;subst e;cases hs;exact hS2.tm _ _ ht1
  ·rw [bA] at hs
   split at hs
   ·rename_i e;subst e;cases hs;exact hS2.tm _ _ ht2
   ·cases hs
theorem yE {v:Value} {h:Hp} {b n:Nat} {c:Array Value} {T:TypeId} (hv:(aO 1).p v h) (hb:h b=some (c,T,(0,0))) (hz : ∀ i,i<n→bX (.agg 2) c (i*2)=some (.agg #[.bool false, .slice none 0 0])) (hs:c.size=n*2):(aO 1).p v (hid [b] h):=by
 obtain ⟨d,h1,h2,h3,h4⟩:=hv
 refine ⟨d,h1,h2,h3,fun r hr => ?_⟩
 obtain ⟨x,hx,hp⟩:=h4 r hr
 refine ⟨x,hx,?_⟩
 rcases List.mem_cons.1 hr with rfl | hr
 ·exact hp
 ·rcases List.mem_singleton.1 hr with rfl
  obtain ⟨a,cap,e1,e2,e3,e4⟩:=hp
  refine ⟨a,cap,e1,e2,e3,fun i hi => ?_⟩
  obtain ⟨b',o,c',T',f,y,g1,g2,g3,g4⟩:=e4 i hi
  refine ⟨b',o,c',T',f,y,g1,e9 (fun hm => ?_) g2,g3,g4⟩
  have hm:b'=b:=by simpa using hm
  subst hm
  rw [hb] at g2
  cases g2
  have g3:c[o+i*1]? = some y:=g3
  obtain ⟨k,hk⟩ : ∃ k,k=o+i*1:=⟨_,rfl⟩
  rw [← hk] at g3
  have hlt:k<c.size:=(Array.getElem?_eq_some_iff.1 g3).1
  have hzz:=hz (k / 2) X
  have hzz:(if k / 2*2+2≤c.size then some (Value.agg (c.extract (k / 2*2) (k / 2*2+2))) else none)=some (.agg #[.bool false, .slice none 0 0]):=hzz
  rw [if_pos X] at hzz
  have hzz:=Option.some.inj hzz
  have hzz:c.extract (k / 2*2) (k / 2*2+2) = #[.bool false, .slice none 0 0]:=by injection hzz
  have e5:(c.extract (k / 2*2) (k / 2*2+2))[k - k / 2*2]? = some y:=by
   rw [Array.getElem?_extract,if_pos X,show k / 2*2+(k - k / 2*2)=k by omega]
   exact g3
  rw [hzz] at e5
  have g4:y = .int .u32 ((((aL (Int.natAbs 1)).getD i 0:Nat)):Int):=g4
  rcases (show k - k / 2*2=0∨k - k / 2*2=1 by omega) with e | e
  ·rw [e] at e5;cases e5;cases g4
  ·rw [e] at e5;cases e5;cases g4
end
end Tor
end
section
namespace Tor
open Go Go.RowKit Go.Proofs
def vO (n:Nat) (Fx:Nat→Rat):VT:=slT (.agg 4) n (fun i=>cj (Fx i))
theorem w6 {Fx:Nat→Rat} : VT.le (one (.slice none 0 0)) (vO 0 Fx):=ey
theorem sx {p n:Nat} {F:Nat→Nat→Int} {b:Nat→Int} (hp:2≤p) : ∀ (k:Nat) (pre:List (Nat→Int)),pre.length=k→gQ p n F b pre → ∀ j,0≤smL p pre j∧smL p pre j<(p:Int)^k
 | 0, pre, hk, _, j => by
  have:pre = []:=List.length_eq_zero_iff.1 hk
  subst this
  exact ⟨Int.le_refl _,by show (0:Int)<(p:Int)^0;rw [Int.pow_zero]; decide⟩
 | k + 1, pre, hk, h, j => by
  obtain ⟨x,l,rfl⟩ : ∃ x l,pre=l ++ [x]:=by
   rcases List.eq_nil_or_concat pre with e | ⟨l,x,e⟩
   ·rw [e] at hk;cases hk
   ·exact ⟨x,l,by rw [e,List.concat_eq_append]⟩
  rw [List.length_append] at hk
  have hk:l.length=k:=by have : [x].length=1:=rfl;omega
  obtain ⟨h1,h2⟩:=sx hp k l hk h.init j
  obtain ⟨h3,h4⟩:=h.last hp j
  rw [pU,hk,Int.pow_succ]
  have h5:(0:Int)≤(p:Int)^k:=Int.le_trans h1 (Int.le_of_lt h2)
  have h6:0≤(p:Int)^k*x j:=Int.mul_nonneg h5 h3
  have h7:(p:Int)^k*x j≤(p:Int)^k*((p:Int) - 1):=Int.mul_le_mul_of_nonneg_left X h5
  rw [Int.mul_sub,Int.mul_one] at h7
  omega
theorem CS {b p:Nat} {T:TypeId} : Own.le (aX b T 2 [(0, .agg 2,aO 1)]) (aX b T 2 [(0, .agg 2,aO ((p:Int)^([]:List (Nat→Int)).length))]):=Own.le_refl _
theorem yF {p q:Nat} : VT.le (one (Value.agg #[Value.bool false,Value.slice none 0 0])) (aO (smL p [] q)):=jA
theorem lg {φ ψ:VT} (h:φ=ψ):VT.le φ ψ:=h▸VT.le_refl _
theorem w7 {b p k k':Nat} {T:TypeId} (h:k'=k+1):Own.le (aX b T 2 (ln [(0, .agg 2,aO ((p:Int)^k))] 0 (aO ((p:Int)^k*(p:Int))))) (aX b T 2 [(0, .agg 2,aO ((p:Int)^k'))]):=by
 subst h;rw [Int.pow_succ]; exact Own.le_refl _
theorem EE (m:Nat) : ∃ s,s*s≤m∧m<(s+1)*(s+1):=by
 induction m with
 | zero => exact ⟨0, Nat.le_refl _, by decide⟩
 | succ m ih =>
  obtain ⟨s,h1,h2⟩:=ih
  by_cases h:m+1<(s+1)*(s+1)
  ·exact ⟨s,Nat.le_succ_of_le h1,h⟩
  ·refine ⟨s+1,by omega,?_⟩
   have:(s+1)*(s+1)<(s+1+1)*(s+1+1):=Nat.mul_self_lt_mul_self (Nat.lt_succ_self _)
   omega
theorem vP {p k:Nat} (hp:2≤p):2^k≤p^k:=Nat.pow_le_pow_left hp k
theorem EF {p k m:Nat} (hp:2≤p) (h:p^k≤2^m):k<m+1:=by
 rcases Nat.lt_or_ge k (m+1) with h1 | h1
 ·exact h1
 ·have h2:2^(m+1)≤2^k:=Nat.pow_le_pow_right U h1
  have h3:2^m<2^(m+1):=Nat.pow_lt_pow_right U (Nat.lt_succ_self m)
  exact absurd (Nat.lt_of_lt_of_le h3 (Nat.le_trans h2 (Nat.le_trans (vP hp) h))) (Nat.lt_irrefl _)
theorem A5 {P L:Nat} {lim:Int} (h1:2*((L:Int)*(L:Int))=lim) (hL:L≤2^380) (h:(P:Int)≤lim+1):P≤2^762:=by
 have h2:P≤2*(L*L)+1:=by
  rw [← Int.natCast_mul] at h1
  clear hL
  omega
 exact Nat.le_trans h2 (Nat.le_trans (Nat.add_le_add_right (Nat.mul_le_mul_left 2 (Nat.mul_le_mul hL hL)) 1) H)
theorem CT {P p:Nat} (h:P≤2^762) (hp:p<2147483648):P*p≤2^800:=Nat.le_trans (Nat.mul_le_mul h (Nat.le_of_lt hp)) H
theorem EG {x y:Int} : 0<dt x y↔y<x:=by
 unfold dt
 split <;> (try split) <;> omega
theorem A6 {sv:Option Nat} {T:TypeId} {L:Lay} {cap n t:Nat} {G FA:Nat→VT} : Own.le (aH sv T L cap n (upd (fun q=>if q<t then G q else FA q) t (G t))) (aH sv T L cap n (fun q=>if q<t+1 then G q else FA q)):=a7 fun q _=>by
 unfold upd
 by_cases h:q=t
 ·subst h;rw [if_pos Y,if_pos (Nat.lt_succ_self q)]
 ·rw [if_neg h]
  dsimp only
  by_cases h2:q<t
  ·rw [if_pos h2,if_pos X]
  ·rw [if_neg h2,if_neg X]
attribute [local irreducible] J PJ aM one slT bW bH bj exT cn eP aX aH slV VT.le Ret bP xO
attribute [local irreducible] aO cj
theorem rd (r c m:Nat) (F:Nat→Nat→Int) (b:Nat→Int) (h : ¬ (r=c∧m=c)):Ok Tryz.prog 13 [bO r c F,bw m b] (bj [vO 0 (fun _=>0),one (.int .i64 50)]):=by
 have hf:=jT r c m F b
 rw [decide_eq_false h] at hf
 refine Ok.enterR Tryz.func13 Y Tryz.ntmps13 Y (fun w O => ?_)
 refine ae (ai ?_)
 refine aQ Y Y (ltN Y) (fun b2 => ?_)
 refine FJ Y (FJ Y (FL (aa (ae (ae (ai (FH (aI 0 Y Y) (FI Y ?_))))))))
 refine FH (am (hf) Y ⟨S,S,FM⟩) ?_
 refine FH (dk Y) (FL (aa (aD Y (ae (ai (FJ Y (FJ Y (FL (aa ?_)))))))))
 refine aG (aS (ie ?_))
 refine c9 Tryz.results13 (.tmp Y (w6)) (.tmp Y S)
theorem yG (n:Nat) (F:Nat→Nat→Int) (b:Nat→Int) (hdet:Ok Tryz.prog 50 [bO n n F] (bj [aO 0,one (.int .i64 0)])) :
  Ok Tryz.prog 13 [bO n n F,bw n b] (bj [vO 0 (fun _=>0),one (.int .i64 110)]):=by
 have hf:=jT n n n F b
 rw [decide_eq_true ⟨rfl,rfl⟩] at hf
 have hsg:=dg 0
 refine Ok.enterR Tryz.func13 Y Tryz.ntmps13 Y (fun w O => ?_)
 refine ae (ai ?_)
 refine aQ Y Y (ltN Y) (fun b2 => ?_)
 refine FJ Y (FJ Y (FL (aa (ae (ae (ai (FH (aI 0 Y Y) (FI Y ?_))))))))
 refine FH (am (hf) Y ⟨S,S,FM⟩) ?_
 refine FH (dk Y) (FL (aa (aA Y (aw (aa (ae (ai (FH (aI 0 Y Y) ?_))))))))
 refine FH (am (hdet) Y ⟨S,FM⟩) ?_
 refine FI Y (FH (an Y Y) (FH (an Y Y) ?_))
 refine aJ (T:=37) Y (ltN Y) (fun b6 => ?_)
 refine aB 0 Y Y Y Y Y (leN Y) Y (FJ Y (FL (aa (ae (ae (ai (FH (ak 0 Y Y Y) ?_)))))))
 refine FH (am (hsg) Y ⟨S,FM⟩) ?_
 refine FH (sT (rfl) (bV Y Y)) (FL (aa (aD Y (ae (ai (FJ Y (FJ Y (FL (aa ?_)))))))))
 refine aG (aS (ie ?_))
 refine c9 Tryz.results13 (.tmp Y (w6)) (.tmp Y S)
theorem vQ (p n:Nat) (F:Nat→Nat→Int) (b:Nat→Int) (d:Int) (L:Nat) (Fx:Nat→Rat) (hpb:cJ p=true) (hp2:2≤p) (hp:p<2147483648) (hinv:vA p) (hF:vB p n F) (hn:n≤16) (hs : ∀ i j,(F i j).natAbs≤1099511627776) (hb : ∀ i,(b i).natAbs≤1152921504606846976)
  (hdet:Ok Tryz.prog 50 [bO n n F] (bj [aO d,one (.int .i64 0)])) (hd:d≠0) (hpr:Ok Tryz.prog 56 [aO d] (one (.int .u64 (p:Nat))))
  (hmi:Ok Tryz.prog 53 [bO (n+1) n (dC n F (fun _=>b)),one (.int .i64 (n:Nat))] (aO (L:Nat))) (hL:L≤2^380)
  (hX : ∀ (k:Nat) (FB:Nat→Int),2*(L*L)<p^k→(∀ i,i<n→((p:Int)^k)∣b i - bD n (fun t=>FB t*F t i)) → ∀ j,j<n → ∀ s,s*s≤(p^k - 1) / 2→(p^k - 1) / 2<(s+1)*(s+1)→vM (FB j) (p^k) s=some (Fx j)) :
  Ok Tryz.prog 13 [bO n n F,bw n b] (bj [vO n Fx,one (.int .i64 0)]):=by
 have hf:=jT n n n F b
 rw [decide_eq_true ⟨rfl,rfl⟩] at hf
 have hdg:=q9 p n F b
 have hit:=pV p n F b 802 hpb hp2 hp hinv hF hn hs hb
 have hsz:=dY d
 have hsg:=dg d
 have hsz':dn d≠0:=fun e=>hd (hsz.1 e)
 have hst:=As n n F 1 n (fun _=>b) X X X (fun i j=>dM (hs i j) H) (fun i j=>dM (hb j) H)
 rw [show decide (n=n)=true from decide_eq_true Y] at hst
 have hLL:((L:Int)*(L:Int)).natAbs≤2^760:=by
  rw [Int.natAbs_mul,Int.natAbs_natCast]
  exact Nat.le_trans (Nat.mul_le_mul hL hL) H
 have hm1:=fo (L:Int) (L:Int) (eQ (n:=380) (by rw [Int.natAbs_natCast]; exact hL) U) (eQ (n:=380) (by rw [Int.natAbs_natCast]; exact hL) U)
 have hm2:=fo 2 ((L:Int)*(L:Int)) (d9 H) (eQ hLL U)
 generalize hlim:2*((L:Int)*(L:Int))=lim at *
 refine Ok.enterR Tryz.func13 Y Tryz.ntmps13 Y (fun w O => ?_)
 refine ae (ai ?_)
 refine aQ Y Y (ltN Y) (fun b2 => ?_)
 refine FJ Y (FJ Y (FL (aa (ae (ae (ai (FH (aI 0 Y Y) (FI Y ?_))))))))
 refine FH (am (hf) Y ⟨S,S,FM⟩) ?_
 refine FH (dk Y) (FL (aa (aA Y (aw (aa (ae (ai (FH (aI 0 Y Y) ?_))))))))
 refine FH (am (hdet) Y ⟨S,FM⟩) ?_
 refine FI Y (FH (an Y Y) (FH (an Y Y) ?_))
 refine aJ (T:=37) Y (ltN Y) (fun b6 => ?_)
 refine aB 0 Y Y Y Y Y (leN Y) Y (FJ Y (FL (aa (ae (ae (ai (FH (ak 0 Y Y Y) ?_)))))))
 refine FH (am (hsg) Y ⟨S,FM⟩) ?_
 refine FH (sF (by assumption) (bV Y Y)) (FL (aa (aA Y (aw (aa (ae (ai (FH (aI 1 Y Y) (FH (aj Y) ?_)))))))))
 refine FH (ak 1 Y Y Y) (FI Y (eH Y Y Y Y (stB Y Y Y (BuildK.cons Y Y Y (BuildK.cons Y Y Y (BuildK.cons Y Y Y (BuildK.nil ?_)))))))
 refine FH (am (hst) Y ⟨S,S,FM⟩) ?_
 refine FI Y (FH (an Y Y) (FH (an Y Y) ?_))
 refine bF (T:=30) Y Y Y (fun b8 => ?_)
 refine a8 0 Y Y Y Y (FJ Y (FL (aa (ae (ai (FH (aI 0 Y Y) (FH (aj Y) (FH (ak 2 Y Y Y) ?_))))))))
 refine FH (am (hmi) Y ⟨S,S,FM⟩) ?_
 refine aJ (T:=37) Y (ltN Y) (fun b10 => ?_)
 refine aB 0 Y Y Y Y Y (leN Y) Y (FL (aa (ae (be 5 a4 Z U ?_))))
 refine FH (am (kd _ X X) Y ⟨S,FM⟩) ?_
 refine FH (ak 0 Y Y Y) (FH (ak 0 Y Y Y) ?_)
 refine FH (am (hm1) Y ⟨S,S,FM⟩) ?_
 refine FH (am (hm2) Y ⟨S,S,FM⟩) ?_
 refine FL (aB 0 Y Y Y Y Y (leN Y) Y (FL (aa (ae (ai (FH (ak 2 Y Y Y) ?_))))))
 refine FH (am (hpr) Y ⟨S,FM⟩) ?_
 refine aJ (T:=44) Y (ltN Y) (fun b11 => ?_)
 refine aB 0 Y Y Y Y Y (leN Y) Y (FL (aa (ae ?_)))
 refine zg a4 Z Z (fun a1 w1 hS1 => ?_)
 refine ux (fun B=>aj Y) Y Y ?_
 refine ux (fun B=>ak 4 Y Y Y) Y Y ?_
 refine ux (fun B=>mn w1.heap.size n Y Y Y Y Y Y Y ?_) Y Y ?_
 ·omega
 refine uxk (kd _ X X) Y ⟨S,FM⟩ Y ?_
 refine ua Y (ua Y (us Y (us Y ?_)))
 refine RunU.nil (fun γ a2 w2 hS2 hx hk2 => ?_)
 obtain ⟨bs,hS3⟩:=yD (t1:=13) (t2:=12) (p:=γ 13) (q:=γ 12) (T1:=37) (T2:=33) (m:=2) (n:=n) (ψ:=aO 1)
  (Γk := [(1,bw n b),(2,one (.pointer (some ⟨b2,0,none⟩))),(10,one (.pointer (some ⟨b10,0,none⟩))),(11,one (.pointer (some ⟨b11,0,none⟩)))])
  hS1 Y hS2 hx hk2 (.cons Y Z (.cons Y Z (.cons Y Z (.cons Y Z .nil)))) Y Y (fun v h b c h1 h2 h3 h4=>yE h1 h2 h3 h4)
 generalize γ 13=b13 at hS3
 generalize γ 12=b12 at hS3
 refine zh ?_ hS3
 clear hS3 hS2 hx hk2 hS1
 refine aa (ae (ae (ai (FH (aI 7 Y Y) (FI Y (FH (ak 3 Y Y Y) ?_))))))
 refine FH (am (hdg) Y ⟨S,S,S,FM⟩) ?_
 refine FL (aa (au ?_))
 refine uf (σ:=List (Nat→Int)) hit (fun s => [aX b13 37 2 [(0, .agg 2,aO ((p:Int)^s.length))],aX b12 33 1 [(0, .one,one (slV (some bs) n n))],aH (some bs) 37 (.agg 2) n n (fun q=>aO (smL p s q)),aX b11 44 1 [(0, .one,one (.int .u64 (p:Nat)))],aX b10 37 2 [(0, .agg 2,aO lim)],aX b2 30 3 [(0, .one,one (.int .i64 (n:Nat))),(1, .one,one (.int .i64 (n:Nat))),(2, .one,slT .one n (fun i=>bw n (F i)))]])
  (fun pre s=>s=pre∧((p^pre.length:Nat):Int)≤lim+1) (fun e pre s=>e=some 0∧gQ p n F b s∧lim<((p^s.length:Nat):Int)∧p^s.length≤2^800∧0<s.length) [] Y Y (fun pre s h => ?_) ⟨rfl,?_⟩
  (.keep CS (.keep FG (.keep (ez fun q _=>yF) (.keep FG (.keep FG (.drop (.drop (.keep FG (SubM.nilR _))))))))) Y Y (by simp [gD,gL])
  (fun l W pre x s hs hgo => ?_) (fun pre s D hs=>absurd hs.1 (by simp)) (fun id pre s D hs => ?_)
 ·have:=EF hp2 (A5 hlim hL h.2)
  clear hL hLL
  omega
 ·show ((p^([]:List (Nat→Int)).length:Nat):Int)≤lim+1
  have h0:0≤(L:Int)*(L:Int):=Int.mul_nonneg (Int.natCast_nonneg _) (Int.natCast_nonneg _)
  show ((1:Nat):Int)≤lim+1
  omega
 ·obtain ⟨rfl,hl⟩:=hs
  have hP:=A5 hlim hL hl
  have hP2:=CT hP hp
  have hsm:=sx hp2 s.length s Y hgo.init
  have hsm2:=sx hp2 (s ++ [x]).length (s ++ [x]) Y hgo
  have hxx:=hgo.last hp2
  have ePn:(p:Int)^s.length=((p^s.length:Nat):Int):=(Int.natCast_pow p s.length).symm
  have hpm:=fo ((p:Int)^s.length) (p:Int) (eQ (n:=762) (by rw [ePn,Int.natAbs_natCast]; exact hP) U) (dM (n:=2147483648) (by rw [Int.natAbs_natCast]; exact Nat.le_of_lt hp) H)
  have hcm:=gX ((p:Int)^s.length*(p:Int)) lim
  have hcg:=EG (x:=(p:Int)^s.length*(p:Int)) (y:=lim)
  have hof:=kd (p:Int) (by clear hL hLL hP hP2;omega) (by clear hL hLL hP hP2;omega)
  refine au (ae (ae (ai (FI Y (FH (aY Y) (FI Y (FL (aa (au ?_)))))))))
  refine cf (Γ' := [(10,_),(11,_),(12,_),(13,_),(61,_),(62,_),(63,_)]) FC (SubM.refl _) ?_
  refine bk (σ:=Nat) (Γk := [(10,_),(11,_),(12,_),(13,_),(61,_),(62,_)]) FC (fun j => [(63,one (.int .i64 (j:Nat)))]) (fun j M0=>(M0.set 2 (aH (some bs) 37 (.agg 2) n n (fun q=>if q<j then aO (smL p (s ++ [x]) q) else aO (smL p s q))))) (fun j=>j≤n) (fun j=>n - j) (0) (Nat.zero_le _) FD (.keep FG (.keep FG (.keep FG (.keep FG (.keep FG (.keep FG (.nil))))))) (fun j hj => ?_)
  refine bI (Γ' := [(63,_),(10,_),(11,_),(12,_),(13,_),(61,_),(62,_)]) (M' := [_,_,_,_,_,_]) Y Y ?_
  by_cases hj2:j<n
  ·have hmu:=fo ((p:Int)^s.length) (x j) (eQ (n:=762) (by rw [ePn,Int.natAbs_natCast]; exact hP) U) (dM (n:=2147483648) (by have:=hxx j;clear hL hLL hP hP2;omega) H)
   have hsn:=pU (p:=p) (pre:=s) (x:=x) (j:=j)
   have had:=kV (smL p s j) ((p:Int)^s.length*x j) (eQ (n:=762) (Nat.le_trans (show (smL p s j).natAbs≤p^s.length by have:=hsm j;rw [ePn] at this;clear hL hLL hP hP2;omega) hP) U)
    (eQ (n:=800) (Nat.le_trans (show ((p:Int)^s.length*x j).natAbs≤p^s.length*p by
     rw [Int.natAbs_mul,ePn,Int.natAbs_natCast]
     exact Nat.mul_le_mul_left _ (by have:=hxx j;clear hL hLL hP hP2;omega)) hP2) U)
   rw [← hsn] at had
   refine ae (ai (FH (sT X (a6 Y Y)) (FL (aa (ae (aD Y (aw (aa (ae ?_)))))))))
   refine au (ae (ai (FI Y (FH (aC Y Y X) (FH (aN Y) ?_)))))
   refine aJ (T:=37) Y (ltN Y) (fun b16 => ?_)
   refine FJ Y (aB 0 Y Y Y Y Y (leN Y) Y (FL (aa (be 10 a4 Z U (FH (ak 2 Y Y Y) (FI Y (FH (ak 2 Y Y Y) (FI Y (FH (aq Y Y X) ?_)))))))))
   refine FH (bg 3 Y Y X) (FH (ak 1 Y Y Y) (FH (ak 0 Y Y Y) ?_))
   refine FH (am (hmu) Y ⟨S,S,FM⟩) ?_
   refine FH (am (had) Y ⟨(lg (if_neg (Nat.lt_irrefl j))),S,FM⟩) ?_
   refine FL (FH (aq Y Y X) ?_)
   (refine az 3 Y Y Y ?_ Y ?_;omega)
   refine FL (aF (aa (ai (FH (bC _ 1 Y Y X) (FI Y (FL ?_))))))
   refine aK (j+1) (by assumption) X FD (.drop (.keep FG (.keep FG (.keep (A6 (G:=fun q=>aO (smL p (s ++ [x]) q)) (FA:=fun q=>aO (smL p s q))) (.keep FG (.keep FG (.keep FG (.nil))))))))
  ·have hjn:j=n:=by clear hL hLL hP hP2;omega
   have e3:p^(s ++ [x]).length=p^s.length*p:=by rw [List.length_append,show s.length + [x].length=s.length+1 from rfl,Nat.pow_succ]
   by_cases hgt:lim<(p:Int)^s.length*(p:Int)
   ·refine ae (ai (FH (sF X (a6 Y Y)) (FL (aa (ae (aA Y (aV (av (av ?_)))))))))
    refine aE (aa (ae (be 5 a4 Z U (FH (ak 0 Y Y Y) (FH (ak 3 Y Y Y) (FH (c6 Y X X) ?_))))))
    refine FH (am (hof) Y ⟨S,FM⟩) ?_
    refine FH (am (hpm) Y ⟨S,S,FM⟩) ?_
    refine FL (aB 0 Y Y Y Y Y (leN Y) Y (FL (aa (ae (ai (FH (ak 0 Y Y Y) (FH (ak 4 Y Y Y) ?_)))))))
    refine FH (am (hcm) Y ⟨S,S,FM⟩) ?_
    refine FH (sT X (cU Y Y)) (FL (aa (aD Y (aV (dm Y ?_)))))
    exact te (s ++ [x]) ⟨rfl,hgo,by rw [e3,Int.natCast_mul, ← ePn]; exact hgt,by rw [e3]; exact hP2,by rw [List.length_append]; exact Nat.le_add_left _ _⟩ (.keep (w7 (by rw [List.length_append]; rfl)) (.keep FG (.keep (a7 fun q hq=>if_pos (by rw [hjn]; exact hq)) (SubM.refl _))))
   ·refine ae (ai (FH (sF X (a6 Y Y)) (FL (aa (ae (aA Y (aV (av (av ?_)))))))))
    refine aE (aa (ae (be 5 a4 Z U (FH (ak 0 Y Y Y) (FH (ak 3 Y Y Y) (FH (c6 Y X X) ?_))))))
    refine FH (am (hof) Y ⟨S,FM⟩) ?_
    refine FH (am (hpm) Y ⟨S,S,FM⟩) ?_
    refine FL (aB 0 Y Y Y Y Y (leN Y) Y (FL (aa (ae (ai (FH (ak 0 Y Y Y) (FH (ak 4 Y Y Y) ?_)))))))
    refine FH (am (hcm) Y ⟨S,S,FM⟩) ?_
    refine FH (sF X (cU Y Y)) (FL (aa (aA Y (aw (aF ?_)))))
    exact o7 (s ++ [x]) ⟨rfl,by rw [e3,Int.natCast_mul, ← ePn]; clear hL hLL hP hP2;omega⟩ (.keep (w7 (by rw [List.length_append]; rfl)) (.keep FG (.keep (a7 fun q hq=>if_pos (by rw [hjn]; exact hq)) (SubM.refl _))))
 ·obtain ⟨hid,hg,hlt,hle,h0⟩:=hs
  cases hid
  have hsm:=sx hp2 s.length s Y hg
  have hsum:=hg.sum (show 0<p by clear hL hLL hle;omega)
  have ePn:(p:Int)^s.length=((p^s.length:Nat):Int):=(Int.natCast_pow p s.length).symm
  have hm2:2≤p^s.length:=Nat.le_trans hp2 (Nat.le_self_pow (by clear hL hLL hle;omega) p)
  obtain ⟨r,hr1,hr2⟩:=EE ((p^s.length - 1) / 2)
  have hra : ∀ i,i<n→Ok Tryz.prog 60 [aO (smL p s i),aO ((p:Int)^s.length)] (bj [cj (Fx i),one (.int .i64 0)]):=fun i hi=>by
   have h:=ug (smL p s i) (p^s.length) r hm2 hle (Nat.le_trans (show (smL p s i).natAbs≤p^s.length by have:=hsm i;rw [ePn] at this;clear hL hLL hle;omega) hle) hr1 hr2
   rw [hX s.length (smL p s) (by rw [← Int.natCast_mul] at hlim;clear hL hLL hle;omega) hsum i hi r hr1 hr2, ← ePn] at h
   exact h
  clear hsm hsum hg hlt hm2 hr1 hr2 ePn
  refine aE (aa (ae (ai (FH (aj Y) (FH (ak 6 Y Y Y) ?_)))))
  refine bY n n Y Y Y Y (Nat.le_refl _) Y Y (by clear hL hLL hle;omega) Y Y (fun bd => ?_)
  clear hL hLL hle
  refine FJ Y (FL (aa (ae (ae (ai (FI Y (FH (cB Y) (FI Y (FL ?_)))))))))
  refine aa (au (cf (Γ' := [(12,_),(13,_),(17,_),(93,_),(94,_)]) FC (SubM.refl _) ?_))
  refine bk (σ:=Nat) (Γk := [(12,_),(13,_),(17,_),(93,_)]) FC (fun i => [(94,one (.int .i64 (i:Nat)))]) (fun i M0=>(M0.set 0 (aH (some bd) 58 (.agg 4) n n (fun q=>if q<i then cj (Fx q) else bP)))) (fun i=>i≤n) (fun i=>n - i) (0) (Nat.zero_le _) FD (.keep (ez fun q hq=>by rw [if_neg (Nat.not_lt_zero q)]; exact kC _) (.keep FG (.keep FG (.keep FG (.keep FG (.keep FG (.keep FG (.keep FG (.nil))))))))) (fun i hi => ?_)
  refine bI (Γ' := [(94,_),(12,_),(13,_),(17,_),(93,_)]) (M' := [_,_,_,_,_,_,_,_]) Y Y ?_
  by_cases hi2:i<n
  ·have hri:=hra i hi2
   refine ae (ai (FH (sT X (a6 Y Y)) (FL (aa (ae (aD Y (aw (aa (ae ?_)))))))))
   refine au (ae (ai (FI Y (FJ Y (FL (aa ?_))))))
   apply jl (Γ1 := [(12,_),(13,_),(17,_),(18,_),(93,_),(94,_)]) (M1 := [_,_,_,_,_,_,_,_]) 11 3 [] [10] a4 Z U
   ·refine FI Y (FI Y (FH (ak 3 Y Y Y) (FI Y (FH (aq Y Y X) (FH (bg 4 Y Y X) (FH (ak 2 Y Y Y) ?_))))))
    refine FH (am (hra _ (by assumption)) Y ⟨S,S,FM⟩) ?_
    refine FI Y (FH (an Y Y) (FH (an Y Y) (FL ?_)))
    refine o8 (Γe := [(12,_),(13,_),(17,_),(18,_),(93,_),(94,_),(97,_),(98,_),(99,_),(106,_)]) (rem := [11,12]) Y FF Y ?_
    refine ao (rem' := [12]) (i:=11) Z Y Y ?_ (jk.cons Y (StepG.plain (an Y Y) Y Y (ltN Y)) Y jk.nil)
    refine FH (aq Y Y X) (FL ?_)
    refine ⟨rfl,?_⟩
    refine ao (rem' := []) (i:=12) Z Y Y ?_ (jk.cons Y (StepG.plain (an Y Y) Y Y (ltN Y)) Y jk.nil)
    (refine az 0 Y Y Y ?_ Y ?_;omega)
    refine FL ?_
    refine ⟨rfl,?_⟩
    refine aW FF (SubM.refl _) (jk.cons Y (StepG.plain (an Y Y) Y Y (ltN Y)) Y jk.nil)
   ·refine aF (aa (ai (FH (bC _ 1 Y Y X) (FI Y (FL ?_)))))
    refine aK (i+1) X X FD (.keep (pS (G:=fun q=>cj (Fx q))) (.keep FG (.keep FG (.keep FG (.keep FG (.keep FG (.keep FG (.keep FG (.nil)))))))))
  ·have hin:i=n:=by omega
   refine ae (ai (FH (sF X (a6 Y Y)) (FL (aa (ae (aA Y (aV (av (av ?_)))))))))
   refine aE (aa (ae (ai (FI Y (FJ Y (FJ Y (FL (aa (aG ?_)))))))))
   refine io (dV.refl _) (.keep (a7 (ψ:=fun q=>cj (Fx q)) (fun q hq=>by rw [if_pos X])) (SubM.refl _)) ?_
   refine fN (.ofPerm (List.Perm.swap _ _ _)) (ow (bZ (t:=4) (i:=0) Y Y ?_))
   refine c9 Tryz.results13 (.tmp Y S) (.tmp Y S)
end Tor
end
section
namespace Tor.Lin
def chN:Nat→Nat→Nat
 | _, 0 => 1
 | 0, _ + 1 => 0
 | n + 1, k + 1 => chN n k + chN n (k + 1)
theorem mU (n:Nat):chN n 0=1:=by cases n <;> rfl
theorem lh : ∀ {n k:Nat},n<k→chN n k=0
 | 0, _ + 1, _ => rfl
 | n + 1, k + 1, h => by rw [chN, lh (n := n) (k := k) X, lh (n := n) (k := k + 1) X]
theorem uj : ∀ n,chN n n=1
 | 0 => rfl
 | n + 1 => by rw [chN, uj n, lh (Nat.lt_succ_self n)]
theorem jV : ∀ n k,(k+1)*chN (n+1) (k+1)=(n+1)*chN n k
 | 0, 0 => rfl
 | 0, k + 1 => by rw [lh (n := 0 + 1) (k := k + 1 + 1) X, lh (n := 0) (k := k + 1) X]; simp
 | n + 1, 0 => by
  have:=jV n 0
  rw [mU] at this ⊢
  rw [chN,mU]
  omega
 | n + 1, k + 1 => by
  have h1:=jV n k
  have h2:=jV n (k+1)
  rw [show chN (n+2) (k+2)=chN (n+1) (k+1)+chN (n+1) (k+2) from rfl,Nat.mul_add,h2]
  rw [show (k+1+1)*chN (n+1) (k+1)=(k+1)*chN (n+1) (k+1)+chN (n+1) (k+1) from Nat.succ_mul _ _,h1]
  rw [show (n+1+1)*chN (n+1) (k+1)=(n+1)*chN (n+1) (k+1)+chN (n+1) (k+1) from Nat.succ_mul _ _]
  rw [show chN (n+1) (k+1)=chN n k+chN n (k+1) from rfl,Nat.mul_add]
  omega
def jW (n x:Nat):Nat→Nat
 | 0 => 0
 | m + 1 => jW n x m + chN n m * x ^ m
theorem re (n x:Nat) : ∀ m,jW (n+1) x (m+1)=x*jW n x m+jW n x (m+1)
 | 0 => by simp [jW, mU]
 | m + 1 => by
  have:=re n x m
  rw [jW,this]
  rw [show jW n x (m+1+1)=jW n x (m+1)+chN n (m+1)*x^(m+1) from rfl,show chN (n+1) (m+1)=chN n m+chN n (m+1) from rfl]
  rw [show x*jW n x (m+1)=x*jW n x m+x*(chN n m*x^m) from Nat.mul_add _ _ _,Nat.add_mul]
  rw [show x*(chN n m*x^m)=chN n m*x^(m+1) by rw [Nat.pow_succ,Nat.mul_left_comm,Nat.mul_comm x]]
  omega
theorem A7 (n x:Nat):jW n x (n+2)=jW n x (n+1):=by
 rw [jW,lh X]; simp
theorem uk (x:Nat) : ∀ n,jW n x (n+1)=(x+1)^n
 | 0 => by simp [jW, chN]
 | n + 1 => by
  rw [re,A7,uk x n,Nat.pow_succ,Nat.mul_comm ((x+1)^n),Nat.add_mul,Nat.one_mul]
def Pr (p:Nat):Prop:=2≤p ∧ ∀ d,d∣p→d=1∨d=p
theorem Pr.coprime {p a:Nat} (hp:Pr p) (h : ¬ p∣a):Nat.Coprime p a:=by
 rcases hp.2 _ (Nat.gcd_dvd_left p a) with h1 | h1
 ·exact h1
 ·exact absurd (h1▸Nat.gcd_dvd_right p a) h
theorem Pr.mul {p a b:Nat} (hp:Pr p) (h:p∣a*b):p∣a∨p∣b:=by
 by_cases ha:p∣a
 ·exact .inl ha
 ·exact .inr ((hp.coprime ha).dvd_of_dvd_mul_left h)
theorem Pr.of_trial {p:Nat} (h2:2≤p) (ht:qU p):Pr p:=by
 refine ⟨h2,fun d hd => ?_⟩
 obtain ⟨e,he⟩:=hd
 have hd0:0<d:=Nat.pos_of_ne_zero fun h=>by rw [h,Nat.zero_mul] at he;omega
 have he0:0<e:=Nat.pos_of_ne_zero fun h=>by rw [h,Nat.mul_zero] at he;omega
 by_cases h1:d=1
 ·exact .inl h1
 by_cases h3:e=1
 ·exact .inr (by rw [he,h3,Nat.mul_one])
 exfalso
 rcases Nat.le_total d e with hle | hle
 ·exact ht d X (by rw [he]; exact Nat.mul_le_mul_left d hle) (by rw [he]; exact Nat.mul_mod_right d e)
 ·exact ht e X (by rw [he]; exact Nat.mul_le_mul_right e hle) (by rw [he]; exact Nat.mul_mod_left d e)
theorem Pr.choose {p k:Nat} (hp:Pr p) (h0:0<k) (hk:k<p):p∣chN p k:=by
 obtain ⟨q,rfl⟩ : ∃ q,p=q+1:=⟨p - 1,by have:=hp.1;omega⟩
 obtain ⟨j,rfl⟩ : ∃ j,k=j+1:=⟨k - 1,by omega⟩
 have h:=jV q j
 rcases hp.mul (a:=j+1) (b:=chN (q+1) (j+1)) (h▸Nat.dvd_mul_right _ _) with h1 | h1
 ·exact absurd (Nat.le_of_dvd X h1) X
 ·exact h1
theorem Pr.bin {p:Nat} (hp:Pr p) (x:Nat) : ∀ m,m<p → ∃ t,jW p x (m+1)=1+p*t
 | 0, _ => ⟨0, by simp [jW, mU]⟩
 | m + 1, h => by
  obtain ⟨t,ht⟩:=Pr.bin hp x m X
  obtain ⟨c,hc⟩:=hp.choose (k:=m+1) X h
  exact ⟨t+c*x^(m+1),by rw [jW,ht,hc,Nat.mul_add,Nat.mul_assoc]; omega⟩
theorem Pr.frob {p:Nat} (hp:Pr p) (x:Nat) : ∃ t,(x+1)^p=x^p+1+p*t:=by
 obtain ⟨t,ht⟩:=hp.bin x (p - 1) (by have:=hp.1;omega)
 refine ⟨t,?_⟩
 rw [show p - 1+1=p by have:=hp.1;omega] at ht
 rw [← uk,jW,ht,uj]; omega
theorem Pr.fermat {p:Nat} (hp:Pr p) : ∀ x,x^p % p=x % p
 | 0 => by rw [Nat.zero_pow (by have := hp.1; omega)]
 | x + 1 => by
  obtain ⟨t,ht⟩:=hp.frob x
  rw [ht,Nat.add_mul_mod_self_left,Nat.add_mod,Pr.fermat hp x, ← Nat.add_mod]
theorem Pr.inverse {p a:Nat} (hp:Pr p) (h : ¬ p∣a):a*a^(p - 2) % p=1:=by
 have h2:=hp.1
 have hf:=hp.fermat a
 have e:a^p=a*(a*a^(p - 2)):=by
  rw [← Nat.mul_assoc, ← Nat.pow_two, ← Nat.pow_add]; congr 1;omega
 rw [e] at hf
 have hd:(p:Int)∣(a:Int)*((a*a^(p - 2):Nat) - 1:Int):=by
  rw [Int.mul_sub,Int.mul_one, ← Int.natCast_mul]
  exact Int.dvd_of_emod_eq_zero (Int.emod_eq_emod_iff_emod_sub_eq_zero.1 (by exact_mod_cast hf))
 have hx:1≤a*a^(p - 2):=by
  have ha:0<a:=Nat.pos_of_ne_zero fun e=>h (e▸Nat.dvd_zero p)
  exact Nat.mul_pos ha (Nat.pow_pos ha)
 have hd:p∣a*(a*a^(p - 2) - 1):=by
  rw [show ((a*a^(p - 2):Nat) - 1:Int)=((a*a^(p - 2) - 1:Nat):Int) by omega, ← Int.natCast_mul] at hd
  exact Int.natCast_dvd_natCast.1 hd
 obtain ⟨t,ht⟩:=(hp.coprime h).dvd_of_dvd_mul_left hd
 rw [show a*a^(p - 2)=1+p*t by omega,Nat.add_mul_mod_self_left]
 exact Nat.mod_eq_of_lt X
end Tor.Lin
end
section
namespace Tor
open Go Go.RowKit Go.Proofs
theorem CU (n d:Int) (h:d≠0):(Rat.divInt n d).den≤d.natAbs:=by
 rw [Rat.den_divInt,if_neg h]
 exact Nat.div_le_self _ _
theorem CV (n d:Int):(Rat.divInt n d).num.natAbs≤n.natAbs:=by
 rw [Rat.num_divInt]
 refine Nat.le_trans (Int.natAbs_ediv_le_natAbs _ _) ?_
 rw [Int.natAbs_mul]
 have:d.sign.natAbs≤1:=by rw [Int.natAbs_sign]; split <;> omega
 exact Nat.le_trans (Nat.mul_le_mul_right _ this) X
theorem ul (a b:Rat):a+b=Rat.divInt (a.num*b.den+b.num*a.den) (a.den*b.den):=by
 rw [Rat.add_def', ← Rat.divInt_ofNat]; simp
theorem um (a b:Rat):a*b=Rat.divInt (a.num*b.num) (a.den*b.den):=by
 rw [Rat.mul_def', ← Rat.divInt_ofNat]; simp
theorem yH (a:Rat):Rat.divInt a.num a.den=a:=by
 rw [Rat.divInt_ofNat,Rat.mkRat_self]
theorem un (a b:Rat):a / b=Rat.divInt (a.num*b.den) (a.den*b.num):=by
 rw [Rat.div_def,Rat.inv_def]
 conv=>lhs;rw [← yH a]
 rw [Rat.divInt_mul_divInt]
def qz (n:Nat) (q:Rat):Prop:=lz n q.num∧lz n (q.den:Int)
theorem qz.mono {n m:Nat} {q:Rat} (h:qz n q) (hn:n≤m):qz m q:=⟨h.1.mono hn,h.2.mono hn⟩
theorem sy {n:Nat} {a d:Int} (ha:lz n a) (hd:lz n d) (h:d≠0):qz n (Rat.divInt a d):=⟨wS ha (CV a d),wS hd (by rw [Int.natAbs_natCast]; exact CU a d h)⟩
theorem gN {n:Nat} {a:Int} (hn:1≤n) (h:lz n a):qz n (a:Rat):=⟨by rw [Rat.num_intCast]; exact h,by rw [Rat.den_intCast]; exact sh hn⟩
theorem f7 (q:Rat):(q.den:Int)≠0:=by have:=q.den_nz;omega
theorem sA {n:Nat} {q:Rat} (h:qz n q):qz n (-q):=⟨by rw [Rat.neg_num]; exact AE h.1,by rw [Rat.neg_den]; exact h.2⟩
theorem EH {n m:Nat} {p q:Rat} (hp:qz n p) (hq:qz m q):qz (n+m+1) (p+q):=by
 rw [ul]
 have h1:=et hp.1 hq.2
 have h2:=et hq.1 hp.2
 rw [Nat.add_comm m n] at h2
 exact sy (AD h1 h2) ((et hp.2 hq.2).mono X) (Int.mul_ne_zero (f7 p) (f7 q))
theorem pX {n m:Nat} {p q:Rat} (hp:qz n p) (hq:qz m q):qz (n+m+1) (p - q):=by
 rw [Rat.sub_eq_add_neg]; exact EH hp (sA hq)
theorem nG {n m:Nat} {p q:Rat} (hp:qz n p) (hq:qz m q):qz (n+m) (p*q):=by
 rw [um]
 exact sy (et hp.1 hq.1) (et hp.2 hq.2) (Int.mul_ne_zero (f7 p) (f7 q))
theorem jX {n m:Nat} {p q:Rat} (hp:qz n p) (hq:qz m q) (h:q≠0):qz (n+m) (p / q):=by
 rw [un]
 exact sy (et hp.1 hq.2) (et hp.2 hq.1) (Int.mul_ne_zero (f7 p) (fun e=>h (Rat.num_eq_zero.1 e)))
theorem w8 (n:Nat) (hn:1≤n):qz n 0:=gN (a:=0) hn (wT n)
attribute [local irreducible] J PJ aM one slT bW bH bj exT cn eP aX aH slV VT.le Ret bP xO
attribute [local irreducible] aO
theorem iI (a:Int):Ok Tryz.prog 27 [aO a] (cj (a:Rat)):=by
 have h1:=iB 1 U U
 unfold cj
 rw [Rat.num_intCast,Rat.den_intCast]
 refine Ok.enter Tryz.func27 Y Tryz.ntmps27 Y (fun w O => ?_)
 refine ae (ai ?_)
 refine gF Y Y (ltN Y) (fun b1 => ?_)
 refine bF (T:=58) Y Y Y (fun b2 => ?_)
 refine FL (aa (ae (be 2 a4 Z U (FH (ak 1 Y Y Y) ?_))))
 refine FH (am (h1) Y ⟨S,FM⟩) ?_
 refine FL (stB Y Y Y (BuildK.cons Y Y Y (BuildK.cons Y Y Y (BuildK.nil (a8 0 Y Y Y Y (FL (aa (aG ?_))))))))
 refine aT Tryz.results27 (.cellW 0 Y Y (jz Y Y))
theorem eR (n:Int) (h1 : -9223372036854775808≤n) (h2:n≤9223372036854775807):Ok Tryz.prog 40 [one (.int .i64 n)] (cj (n:Rat)):=by
 have ho:=iB n h1 h2
 refine Ok.enter Tryz.func40 Y Tryz.ntmps40 Y (fun w O => ?_)
 refine ae (ai ?_)
 refine bF (T:=58) Y Y Y (fun b2 => ?_)
 refine FL (aa (ae (ai (FI Y ?_))))
 refine FH (am (ho) Y ⟨S,FM⟩) ?_
 refine FH (am (iI _) Y ⟨S,FM⟩) ?_
 refine a8 0 Y Y Y Y (FL (aa (aG ?_)))
 refine aT Tryz.results40 (.cellW 0 Y Y S)
theorem ig (q:Rat):Ok Tryz.prog 111 [cj q] (one (.int .i64 (dn q.num))):=by
 unfold cj dN
 refine Ok.enter Tryz.func111 Y Tryz.ntmps111 Y (fun w O => ?_)
 refine ae (ai ?_)
 refine aQ Y Y (ltN Y) (fun b1 => ?_)
 refine FJ Y (FL (aa (ae (ai (FH (aj Y) (FH (ak 0 Y Y Y) ?_))))))
 refine FH (am (eo _) Y ⟨S,FM⟩) ?_
 refine FJ Y (FL (aa (aG ?_)))
 refine aT Tryz.results111 (.tmp Y S)
theorem uo (q:Rat) (h:bE q.num):Ok Tryz.prog 115 [cj q] (cj (-q)):=by
 have hn:=jy q.num h
 rw [← Rat.neg_num] at hn
 unfold cj dN
 refine Ok.enter Tryz.func115 Y Tryz.ntmps115 Y (fun w O => ?_)
 refine ae (ai ?_)
 refine aQ Y Y (ltN Y) (fun b1 => ?_)
 refine bF (T:=58) Y Y Y (fun b2 => ?_)
 refine FL (aa (ae (be 6 a4 Z U (FH (aj Y) (FH (ak 1 Y Y Y) ?_)))))
 refine FH (am (hn) Y ⟨S,FM⟩) ?_
 refine FH (aj Y) (FH (ak 1 Y Y Y) (stB Y Y Y (BuildK.cons Y Y Y (BuildK.cons Y Y Y (BuildK.nil (FL (a8 0 Y Y Y Y (FL (aa ?_)))))))))
 refine aG ?_
 refine aT Tryz.results115 (.cellW 0 Y Y (jz Y (by rw [Rat.neg_den])))
theorem sB (n d:Int) (hd:d≠0) (hn:c8 n) (hds:c8 d):Ok Tryz.prog 68 [aO n,aO d] (cj (Rat.divInt n d)):=by
 have h:=wM n d hd hn hds
 unfold cj dN at *
 refine Ok.enter Tryz.func68 Y Tryz.ntmps68 Y (fun w O => ?_)
 refine ae (ai ?_)
 refine gF Y Y (ltN Y) (fun b2 => ?_)
 refine gF Y Y (ltN Y) (fun b3 => ?_)
 refine bF (T:=58) Y Y Y (fun b4 => ?_)
 refine FL (aa (ae (ai (FH (ak 2 Y Y Y) (FH (ak 1 Y Y Y) ?_)))))
 refine FH (am (h) Y ⟨S,S,FM⟩) ?_
 refine FI Y (FH (an Y Y) (FH (an Y Y) ?_))
 refine bF (T:=58) Y Y Y (fun b5 => ?_)
 refine a8 0 Y Y Y Y (FJ Y (FL (aa (ae (ai (FH (aI 0 Y Y) (a8 1 Y Y Y Y (FL (aa ?_)))))))))
 refine aG ?_
 refine aT Tryz.results68 (.cellW 1 Y Y S)
theorem A8 (p q:Rat) (n m:Nat) (hp:qz n p) (hq:qz m q) (h:n+m+1≤1099511627700):Ok Tryz.prog 42 [cj p,cj q] (cj (p+q)):=by
 have m1:=et hp.1 hq.2
 have m2:=et hq.1 hp.2
 have m3:=et hp.2 hq.2
 rw [Nat.add_comm m n] at m2
 have c1:=fh p.num q.den (hp.1.small X) (hq.2.small X)
 have c2:=fh q.num p.den (hq.1.small X) (hp.2.small X)
 have c3:=fh (p.den:Int) q.den (hp.2.small X) (hq.2.small X)
 have c4:=mJ (p.num*q.den) (q.num*p.den) (m1.small X) (m2.small X)
 have c5:=sB (p.num*q.den+q.num*p.den) (p.den*q.den) (Int.mul_ne_zero (f7 p) (f7 q)) ((AD m1 m2).small0 h) (m3.small0 X)
 rw [ul]
 unfold cj dN at *
 refine Ok.enter Tryz.func42 Y Tryz.ntmps42 Y (fun w O => ?_)
 refine ae (ai ?_)
 refine aQ Y Y (ltN Y) (fun b2 => ?_)
 refine aQ Y Y (ltN Y) (fun b3 => ?_)
 refine bF (T:=58) Y Y Y (fun b4 => ?_)
 refine FL (aa (ae ?_))
 refine eh a4 Z Z ?_
 refine ux (fun B=>aj Y) Y Y ?_
 refine ux (fun B=>ak 2 Y Y Y) Y Y ?_
 refine ux (fun B=>aj Y) Y Y ?_
 refine ux (fun B=>ak 1 Y Y Y) Y Y ?_
 refine uxk (c1) Y ⟨S,S,FM⟩ Y ?_
 refine ux (fun B=>aj Y) Y Y ?_
 refine ux (fun B=>ak 1 Y Y Y) Y Y ?_
 refine ux (fun B=>aj Y) Y Y ?_
 refine ux (fun B=>ak 2 Y Y Y) Y Y ?_
 refine uxk (c2) Y ⟨S,S,FM⟩ Y ?_
 refine uxk (c4) Y ⟨S,S,FM⟩ Y ?_
 refine ua Y (us Y ?_)
 refine RunU.nil (fun γ => ?_)
 refine cR (M' := [_,_,_,_]) Y (aa (ae (be 7 a4 Z U (FH (ak 0 Y Y Y) (FH (aj Y) (FH (ak 3 Y Y Y) (FH (aj Y) (FH (ak 2 Y Y Y) ?_))))))))
 refine FH (am (c3) Y ⟨S,S,FM⟩) ?_
 refine FH (am (c5) Y ⟨S,S,FM⟩) ?_
 refine FL (a8 1 Y Y Y Y (FL (aa (aG ?_))))
 refine aT Tryz.results42 (.cellW 1 Y Y S)
theorem pY (p q:Rat) (n m:Nat) (hp:qz n p) (hq:qz m q) (h:n+m+1≤1099511627700):Ok Tryz.prog 64 [cj p,cj q] (cj (p - q)):=by
 have c1:=uo q (hq.1.small X)
 have c2:=A8 p (-q) n m hp (sA hq) h
 rw [← Rat.sub_eq_add_neg] at c2
 refine Ok.enter Tryz.func64 Y Tryz.ntmps64 Y (fun w O => ?_)
 refine ae (ai ?_)
 refine aQ Y Y (ltN Y) (fun b2 => ?_)
 refine aQ Y Y (ltN Y) (fun b3 => ?_)
 refine bF (T:=58) Y Y Y (fun b4 => ?_)
 refine FL (aa (ae (be 4 a4 Z U (FH (aI 2 Y Y) (FH (aI 1 Y Y) ?_)))))
 refine FH (am (c1) Y ⟨S,FM⟩) ?_
 refine FH (am (c2) Y ⟨S,S,FM⟩) ?_
 refine FL (a8 0 Y Y Y Y (FL (aa (aG ?_))))
 refine aT Tryz.results64 (.cellW 0 Y Y S)
theorem mV (p q:Rat) (n m:Nat) (hp:qz n p) (hq:qz m q) (h:n+m≤1099511627700):Ok Tryz.prog 26 [cj p,cj q] (cj (p*q)):=by
 have c1:=fh p.num q.num (hp.1.small X) (hq.1.small X)
 have c2:=fh (p.den:Int) q.den (hp.2.small X) (hq.2.small X)
 have c3:=sB (p.num*q.num) (p.den*q.den) (Int.mul_ne_zero (f7 p) (f7 q)) ((et hp.1 hq.1).small0 h) ((et hp.2 hq.2).small0 h)
 rw [um]
 unfold cj dN at *
 refine Ok.enter Tryz.func26 Y Tryz.ntmps26 Y (fun w O => ?_)
 refine ae (ai ?_)
 refine aQ Y Y (ltN Y) (fun b2 => ?_)
 refine aQ Y Y (ltN Y) (fun b3 => ?_)
 refine bF (T:=58) Y Y Y (fun b4 => ?_)
 refine FL (aa (ae (be 11 a4 Z U (FH (aj Y) (FH (ak 2 Y Y Y) (FH (aj Y) (FH (ak 1 Y Y Y) ?_)))))))
 refine FH (am (c1) Y ⟨S,S,FM⟩) ?_
 refine FH (aj Y) (FH (ak 2 Y Y Y) (FH (aj Y) (FH (ak 1 Y Y Y) ?_)))
 refine FH (am (c2) Y ⟨S,S,FM⟩) ?_
 refine FH (am (c3) Y ⟨S,S,FM⟩) ?_
 refine FL (a8 0 Y Y Y Y (FL (aa (aG ?_))))
 refine aT Tryz.results26 (.cellW 0 Y Y S)
theorem A9 (p q:Rat) (n m:Nat) (hp:qz n p) (hq:qz m q) (h:n+m≤1099511627700) (h0:q≠0):Ok Tryz.prog 75 [cj p,cj q] (bj [cj (p / q),one (.int .i64 0)]):=by
 have c1:=fh p.num q.den (hp.1.small X) (hq.2.small X)
 have c2:=fh (p.den:Int) q.num (hp.2.small X) (hq.1.small X)
 have c3:=wM (p.num*q.den) (p.den*q.num) (Int.mul_ne_zero (f7 p) (fun e=>h0 (Rat.num_eq_zero.1 e))) ((et hp.1 hq.2).small0 h) ((et hp.2 hq.1).small0 h)
 rw [un]
 unfold cj dN at *
 refine Ok.enter Tryz.func75 Y Tryz.ntmps75 Y (fun w O => ?_)
 refine ae (ai ?_)
 refine aQ Y Y (ltN Y) (fun b2 => ?_)
 refine aQ Y Y (ltN Y) (fun b3 => ?_)
 refine bF (T:=58) Y Y Y (fun b4 => ?_)
 refine FJ Y (FL (aa (ae (be 13 a4 Z U (FH (aj Y) (FH (ak 2 Y Y Y) (FH (aj Y) (FH (ak 1 Y Y Y) ?_))))))))
 refine FH (am (c1) Y ⟨S,S,FM⟩) ?_
 refine FH (aj Y) (FH (ak 2 Y Y Y) (FH (aj Y) (FH (ak 1 Y Y Y) ?_)))
 refine FH (am (c2) Y ⟨S,S,FM⟩) ?_
 refine FH (am (c3) Y ⟨S,S,FM⟩) ?_
 refine FH (an Y Y) (FH (an Y Y) (FL (a8 0 Y Y Y Y (FJ Y (FL (aa (aG ?_)))))))
 refine c9 Tryz.results75 (.cellW 0 Y Y S) (.tmp Y S)
theorem ii (p q:Rat) (n m:Nat) (hp:qz n p) (hq:qz m q) (h:n+m≤1099511627700) (h0:q≠0):Ok Tryz.prog 39 [cj p,cj q] (cj (p / q)):=by
 have c:=A9 p q n m hp hq h h0
 unfold cj dN at *
 refine Ok.enter Tryz.func39 Y Tryz.ntmps39 Y (fun w O => ?_)
 refine ae (ai ?_)
 refine aQ Y Y (ltN Y) (fun b2 => ?_)
 refine aQ Y Y (ltN Y) (fun b3 => ?_)
 refine bF (T:=58) Y Y Y (fun b4 => ?_)
 refine FL (aa (ae (ai (FH (aI 2 Y Y) (FH (aI 1 Y Y) ?_)))))
 refine FH (am (c) Y ⟨S,S,FM⟩) ?_
 refine FI Y (FH (an Y Y) (FH (an Y Y) ?_))
 refine bF (T:=58) Y Y Y (fun b5 => ?_)
 refine a8 0 Y Y Y Y (FJ Y (FL (aa (ae (ai (FH (aI 0 Y Y) (a8 1 Y Y Y Y (FL (aa ?_)))))))))
 refine aG ?_
 refine aT Tryz.results39 (.cellW 1 Y Y S)
theorem yI (n d:Int) (hd:d≠0) (n1 : -9223372036854775808≤n) (n2:n≤9223372036854775807) (d1 : -9223372036854775808≤d) (d2:d≤9223372036854775807):Ok Tryz.prog 46 [one (.int .i64 n),one (.int .i64 d)] (cj (Rat.divInt n d)):=by
 have o1:=iB n n1 n2
 have o2:=iB d d1 d2
 have c:=sB n d hd (kZ X) (kZ X)
 refine Ok.enter Tryz.func46 Y Tryz.ntmps46 Y (fun w O => ?_)
 refine ae (ai ?_)
 refine bF (T:=58) Y Y Y (fun b4 => ?_)
 refine FL (aa (ae (ae (ai (FI Y (FH (sF (by assumption) (bV Y Y)) (FL (aa (aA Y ?_)))))))))
 refine aw (aa (ae (ai (FI Y ?_))))
 refine FH (am (o1) Y ⟨S,FM⟩) ?_
 refine FI Y ?_
 refine FH (am (o2) Y ⟨S,FM⟩) ?_
 refine FH (am (c) Y ⟨S,S,FM⟩) ?_
 refine a8 0 Y Y Y Y (FL (aa (aG ?_)))
 refine aT Tryz.results46 (.cellW 0 Y Y S)
theorem yJ (n m:Nat) (l k:Nat→Rat) (hn:n≤1048576):Ok Tryz.prog 17 [slT (.agg 4) n (fun i=>cj (l i)),slT (.agg 4) m (fun i=>cj (k i))] (one (.bool (decide (n=m ∧ ∀ i,i<n→l i=k i)))):=by
 refine Ok.enter Tryz.func17 Y Tryz.ntmps17 Y (fun w O => ?_)
 by_cases h:n=m
 ·subst h
  refine ae (ai (FJ Y (FL (aa (ae (ae (ai (FI Y (FH (aY Y) ?_)))))))))
  refine FI Y (FH (aY Y) (FH (sF X (dj Y Y)) (FL (aa (aA Y (aw (aa (ae (ae ?_)))))))))
  refine ai (FJ Y (FL (aa (au (cf (Γ' := [(0,_),(1,_),(4,_),(5,_)]) FC (SubM.refl _) ?_)))))
  refine bk (σ:=Nat) (Γk := [(0,_),(1,_)]) FC (fun i => [(5,one (.int .i64 (i:Nat)))]) (fun i M0=>M0) (fun i=>i≤n ∧ ∀ q,q<i→l q=k q) (fun i=>n - i) (0) (⟨Nat.zero_le _,fun q h=>absurd h (Nat.not_lt_zero _)⟩) FD (.nil) (fun i hi => ?_)
  refine bI (Γ' := [(5,_),(0,_),(1,_)]) (M' := []) Y Y ?_
  obtain ⟨hi,hq⟩:=hi
  by_cases hin:i<n
  ·have hs:=x4 (l i) (k i)
   by_cases he:l i=k i
   ·rw [decide_eq_true he] at hs
    refine ae (ae (ai (FI Y (FI Y (FH (aY Y) (FH (sT X (a6 Y Y)) (FL (aa (aD Y ?_)))))))))
    refine aw (aa (ae (au (ae (be 10 a4 Z U (FI Y (FI Y (FH (aC Y Y X) (FH (aN Y) ?_)))))))))
    refine FI Y (FI Y (FH (aC Y Y X) (FH (aN Y) ?_)))
    refine FH (am (hs) Y ⟨S,S,FM⟩) ?_
    refine FH (dk Y) (FL (FL (aa (aA Y (aw (aF (aa (ai (FI Y ?_)))))))))
    refine FH (bC _ 1 Y Y X) (FJ Y (FL ?_))
    refine aK (i+1) (⟨hin,fun q h=>by by_cases h3:q=i;exact h3▸he;exact hq q X⟩) X FD (.nil)
   ·rw [decide_eq_false he] at hs
    rw [decide_eq_false (fun h=>he (h.2 i hin))]
    refine ae (ae (ai (FI Y (FI Y (FH (aY Y) (FH (sT X (a6 Y Y)) (FL (aa (aD Y ?_)))))))))
    refine aw (aa (ae (au (ae (be 10 a4 Z U (FI Y (FI Y (FH (aC Y Y X) (FH (aN Y) ?_)))))))))
    refine FI Y (FI Y (FH (aC Y Y X) (FH (aN Y) ?_)))
    refine FH (am (hs) Y ⟨S,S,FM⟩) ?_
    refine FH (dk Y) (FL (FL (aa (aD Y (ae (ai (FJ Y (FL (aa ?_)))))))))
    refine aG (bJ (aS (aS (bJ (aS ?_)))))
    refine aT Tryz.results17 (.tmp Y S)
  ·rw [decide_eq_true ⟨rfl,fun q h=>hq q X⟩]
   refine ae (ae (ai (FI Y (FI Y (FH (aY Y) (FH (sF X (a6 Y Y)) (FL (aa (aA Y ?_)))))))))
   refine aV (av (av (aE (aa (ae (ai (FJ Y (FL (aa ?_)))))))))
   refine aG ?_
   refine aT Tryz.results17 (.tmp Y S)
 ·rw [decide_eq_false (fun k=>h k.1)]
  refine ae (ai (FJ Y (FL (aa (ae (ae (ai (FI Y (FH (aY Y) ?_)))))))))
  refine FI Y (FH (aY Y) (FH (sT X (dj Y Y)) (FL (aa (aD Y (ae (ai (FJ Y (FL ?_)))))))))
  refine aa (aG (aS ?_))
  refine aT Tryz.results17 (.tmp Y S)
end Tor
end
section
namespace Tor
open Go Go.RowKit Go.Proofs
def cN (n:Nat) (f:Nat→Rat):VT:=slT (.agg 4) n (fun i=>cj (f i))
theorem w9 {n:Nat} {f g:Nat→Rat} (h : ∀ i,i<n→f i=g i):VT.le (cN n f) (cN n g):=dE fun i hi=>fK (by rw [h i hi])
instance {n:Nat} {f:Nat→Rat} : Flat (cN n f) .one:=by unfold cN;infer_instance
def bp (a:Nat→Rat) (n:Nat):Nat:=((List.range' 0 n).find? fun i=>decide (a i≠0)).getD n
theorem rf {a:Nat→Rat} {n i:Nat} (hi:i<n) (h : ∀ q,q<i→a q=0) (h0:a i≠0):bp a n=i:=by
 have:(List.range' 0 n).find? (fun i=>decide (a i≠0))=some i:=by
  rw [List.find?_range'_eq_some]
  refine ⟨by simpa using h0,by rw [List.mem_range'_1]; omega,fun q _ h2=>by simpa using h q h2⟩
 unfold bp;rw [this]; rfl
theorem n7 {a:Nat→Rat} {n:Nat} (h : ∀ q,q<n→a q=0):bp a n=n:=by
 have:(List.range' 0 n).find? (fun i=>decide (a i≠0))=none:=by
  rw [List.find?_eq_none]
  intro q hq
  rw [List.mem_range'_1] at hq
  simpa using h q X
 unfold bp;rw [this]; rfl
theorem g8 (a:Nat→Rat) (n:Nat):(bp a n=n ∧ ∀ q,q<n→a q=0)∨(bp a n<n∧a (bp a n)≠0 ∧ ∀ q,q<bp a n→a q=0):=by
 have key : ∀ m,m≤n→(∀ q,q<m→a q=0) ∨ ∃ i,i<m∧a i≠0 ∧ ∀ q,q<i→a q=0:=by
  intro m
  induction m with
  | zero => intro _; exact .inl fun q h => absurd h (Nat.not_lt_zero _)
  | succ m ih =>
   intro hm
   rcases ih X with h | ⟨i,h1,h2,h3⟩
   ·by_cases h0:a m=0
    ·exact .inl fun q hq=>by
      by_cases e:q=m
      ·rw [e]; exact h0
      ·exact h q X
    ·exact .inr ⟨m,by omega,h0,h⟩
   ·exact .inr ⟨i,by omega,h2,h3⟩
 rcases key n (Nat.le_refl _) with h | ⟨i,h1,h2,h3⟩
 ·exact .inl ⟨n7 h,h⟩
 ·rw [rf h1 h3 h2]; exact .inr ⟨h1,h2,h3⟩
theorem fF {a:Nat→Rat} {n:Nat} (h:bp a n<n):a (bp a n)≠0 ∧ ∀ q,q<bp a n→a q=0:=by
 rcases g8 a n with ⟨h1,_⟩ | ⟨_,h1⟩
 ·omega
 ·exact h1
def dA (B:Nat→Nat→Rat) (n:Nat) (a:Nat→Rat):Nat→Nat→Rat
 | 0 => a
 | i + 1 => fun j => dA B n a i j - dA B n a i (bp (B i) n) / B i (bp (B i) n) * B i j
def iP (α β:Nat):Nat→Nat
 | 0 => α
 | i + 1 => 2 * iP α β i + 2 * β + 1
theorem yK {α β:Nat} {i k:Nat} (h:i≤k):iP α β i≤iP α β k:=by
  induction k with
  | zero => have : i = 0 := by omega
            subst this;exact Nat.le_refl _
  | succ k ih =>
    by_cases e:i=k+1
    · rw [e]; exact Nat.le_refl _
    · have:=ih X
      show iP α β i≤2*iP α β k+2*β+1
      omega
theorem pZ {α β n:Nat} {B:Nat→Nat→Rat} {a:Nat→Rat} (k:Nat) (ha : ∀ j,qz α (a j)) (hB : ∀ i,i<k→(bp (B i) n<n) ∧ ∀ j,qz β (B i j)) : ∀ i,i≤k → ∀ j,qz (iP α β i) (dA B n a i j)
 | 0, _, j => ha j
 | i + 1, hi, j => by
  have ih:=pZ k ha hB i X
  obtain ⟨h1,h2⟩:=hB i X
  have h3:=pX (ih j) (nG (jX (ih (bp (B i) n)) (h2 (bp (B i) n)) (fF h1).1) (h2 j))
  exact h3.mono (by show iP α β i+(iP α β i+β+β)+1≤2*iP α β i+2*β+1;omega)
theorem mW {sv:Option Nat} {T:TypeId} {cap i:Nat} {h:Nat→Rat} {x:Rat} (hx:x=h i):Own.le (aH sv T (.agg 4) cap (i+1) (fun q=>if q<i then cj (h q) else cj x)) (aH sv T (.agg 4) cap (i+1) (fun q=>cj (h q))):=a7 fun q hq=>by
 subst hx
 by_cases c:q<i
 ·rw [if_pos c]
 ·rw [if_neg c,show q=i by omega]
theorem CW {g0:RH} {sv:Option Nat} {T:TypeId} {L:Lay} {cap n:Nat} {φ:Nat→VT} {g:RH} {h:Hp} (hp:(xO g0 (aH sv T L cap n φ)).p g h) (he:sv=none):n=0:=e6 hp.1 he
attribute [local irreducible] J PJ aM one slT bW bH bj exT cn eP aX aH slV VT.le Ret bP xO
attribute [local irreducible] aO cj
theorem kL (n:Nat) (f:Nat→Int) (hn:n≤1048576):Ok Tryz.prog 24 [bw n f] (cN n (fun i=>(f i:Rat))):=by
 unfold cN bw
 refine Ok.enter Tryz.func24 Y Tryz.ntmps24 Y (fun w O => ?_)
 refine ae (ai (FJ Y (FL (aa (ae (ai (iL (n:=0) Y Y Y Y Y ?_)))))))
 refine PartsK.nil (fun bl => ?_)
 refine FJ Y (FL (aa (ae (ae (ai (FJ Y (FL (aa (au ?_)))))))))
 refine cf (Γ' := [(0,_),(2,_),(3,_),(4,_)]) FC (SubM.refl _) ?_
 refine bk (σ:=Nat × Option Nat × Nat) (Γk := [(0,_),(2,_)]) FC (fun s => [(4,one (.int .i64 (s.1:Nat))),(3,one (slV s.2.1 s.1 s.2.2))]) (fun s M0=>(M0.set 0 (aH s.2.1 58 (.agg 4) s.2.2 s.1 (fun q=>cj (f q:Rat))))) (fun s=>s.1≤n) (fun s=>n - s.1) ((0,some bl,0)) (Nat.zero_le _) FD (.keep (a7 (fun q hq=>absurd hq (Nat.not_lt_zero _))) (.nil)) (fun s hs => ?_)
 refine bI (Γ' := [(4,_),(3,_),(0,_),(2,_)]) (M' := [_]) Y Y ?_
 obtain ⟨i,sv,cap⟩:=s
 dsimp only at hs ⊢
 by_cases hi:i<n
 ·refine ae (ae (ai (FI Y (FI Y (FH (aY Y) (FH (sT X (a6 Y Y)) (FL (aa (aD Y ?_)))))))))
  refine aw (aa (ae (au (ai (FI Y (FI Y (FI Y (FH (aC Y Y X) (FH (aN Y) ?_)))))))))
  refine FH (am (iI _) Y ⟨S,FM⟩) ?_
  refine eH Y Y Y Y ?_
  (refine cq 0 Y Y Y (leN Y) ?_ ?_ Y (ltN Y) (fun sv19 cap19 => ?_);omega;omega)
  refine FJ Y (FL (aF (aa (ai (FI Y (FH (bC _ 1 Y Y X) (FJ Y (FL ?_))))))))
  refine aK ((i+1,sv19,cap19)) (hi) X FD (.keep (mW (h:=fun q=>(f q:Rat)) Y) (.nil))
 ·have he:i=n:=by omega
  subst he
  refine ae (ae (ai (FI Y (FI Y (FH (aY Y) (FH (sF X (a6 Y Y)) (FL (aa (aA Y ?_)))))))))
  refine aV (av (av (aE (aa (ae (ai (FI Y (FJ Y (FL ?_)))))))))
  refine aa (aG (bZ (t:=2) (i:=0) Y Y ?_))
  refine aT Tryz.results24 (.tmp Y S)
theorem nH (n m:Nat) (a b:Nat→Rat) (c:Rat) (A B C:Nat) (hn:n≤1048576) (hm:n≤m) (ha : ∀ i,i<n→qz A (a i)) (hb : ∀ i,i<n→qz B (b i)) (hc:qz C c) (hz:A+(C+B)+1≤1099511627700) :
  Ok Tryz.prog 116 [cN n a,cN m b,cj c] (cN n (fun i=>a i - c*b i)):=by
 unfold cN
 refine Ok.enter Tryz.func116 Y Tryz.ntmps116 Y (fun w O => ?_)
 refine ae (ai ?_)
 refine gF Y Y (ltN Y) (fun b5 => ?_)
 refine FJ Y (FL (aa (ae (ai (iL (n:=0) Y Y Y Y Y ?_)))))
 refine PartsK.nil (fun bl => ?_)
 refine FJ Y (FL (aa (ae (ae (ai (FJ Y (FL (aa (au ?_)))))))))
 refine cf (Γ' := [(0,_),(1,_),(5,_),(6,_),(7,_),(8,_)]) FC (SubM.refl _) ?_
 refine bk (σ:=Nat × Option Nat × Nat) (Γk := [(0,_),(1,_),(5,_),(6,_)]) FC (fun s => [(8,one (.int .i64 (s.1:Nat))),(7,one (slV s.2.1 s.1 s.2.2))]) (fun s M0=>(M0.set 0 (aH s.2.1 58 (.agg 4) s.2.2 s.1 (fun q=>cj (a q - c*b q))))) (fun s=>s.1≤n) (fun s=>n - s.1) ((0,some bl,0)) (Nat.zero_le _) FD (.keep (a7 (fun q hq=>absurd hq (Nat.not_lt_zero _))) (.keep FG (.nil))) (fun s hs => ?_)
 refine bI (Γ' := [(8,_),(7,_),(0,_),(1,_),(5,_),(6,_)]) (M' := [_,_]) Y Y ?_
 obtain ⟨i,sv,cap⟩:=s
 dsimp only at hs ⊢
 by_cases hi:i<n
 ·have h1:=mV c (b i) C B hc (hb i hi) X
  have h2:=pY (a i) (c*b i) A (C+B) (ha i hi) (nG hc (hb i hi)) hz
  refine ae (ae (ai (FI Y (FI Y (FH (aY Y) (FH (sT X (a6 Y Y)) (FL (aa (aD Y ?_)))))))))
  refine aw (aa (ae (au (eX 13 a4 Z U (FI Y (FI Y (FI Y (FH (aC Y Y X) (FH (aN Y) ?_)))))))))
  refine FH (ak 1 Y Y Y) (FI Y (FI Y (FH (aC Y Y X) (FH (aN Y) ?_))))
  refine FH (am (h1) Y ⟨S,S,FM⟩) ?_
  refine FH (am (h2) Y ⟨S,S,FM⟩) ?_
  refine eH Y Y Y Y (FL ?_)
  (refine cq 0 Y Y Y (leN Y) ?_ ?_ Y (ltN Y) (fun sv29 cap29 => ?_);omega;omega)
  refine FJ Y (FL (aF (aa (ai (FI Y (FH (bC _ 1 Y Y X) (FJ Y (FL ?_))))))))
  refine aK ((i+1,sv29,cap29)) (hi) X FD (.keep (mW (h:=fun q=>a q - c*b q) Y) (.keep FG (.nil)))
 ·have he:i=n:=by omega
  subst he
  refine ae (ae (ai (FI Y (FI Y (FH (aY Y) (FH (sF X (a6 Y Y)) (FL (aa (aA Y ?_)))))))))
  refine aV (av (av (aE (aa (ae (ai (FI Y (FJ Y (FL ?_)))))))))
  refine aa (aG (bZ (t:=6) (i:=0) Y Y ?_))
  refine aT Tryz.results116 (.tmp Y S)
theorem jY (n m:Nat) (a:Nat→Rat) (hm:m≤1048576) (hn:n≤m):Ok Tryz.prog 110 [cN m a,one (.int .i64 (n:Nat))] (one (.int .i64 ((bp a n:Nat):Int))):=by
 unfold cN
 refine Ok.enter Tryz.func110 Y Tryz.ntmps110 Y (fun w O => ?_)
 refine ae (ai (FJ Y (FL (aa (ae (ai (FJ Y (FL (aa ?_)))))))))
 refine ae (au (cf (Γ' := [(0,_),(1,_),(4,_),(5,_)]) FC (SubM.refl _) ?_))
 refine bk (σ:=Nat) (Γk := [(0,_),(1,_),(4,_)]) FC (fun i => [(5,one (.int .i64 (i:Nat)))]) (fun i M0=>M0) (fun i=>i≤n ∧ ∀ q,q<i→a q=0) (fun i=>n - i) (0) (⟨Nat.zero_le _,fun q h=>absurd h (Nat.not_lt_zero _)⟩) FD (.nil) (fun i hi => ?_)
 refine bI (Γ' := [(5,_),(0,_),(1,_),(4,_)]) (M' := []) Y Y ?_
 obtain ⟨hi1,hi2⟩:=hi
 by_cases hi:i<n
 ·have hs:=dY (a i).num
  by_cases h0:a i=0
  ·have hs0:=hs.2 (Rat.num_eq_zero.2 h0)
   refine ae (ae (ai (FI Y (FI Y (FH (sT X (a6 Y Y)) (FI Y (FK (ab Y) (FK (ab Y) (FK (aC Y Y X) ?_)))))))))
   refine FK (aN Y) ?_
   refine FK (am (ig _) Y ⟨S,FM⟩) ?_
   refine FK (sT (by assumption) (bV Y Y)) (FH (a5 Y Y) (FL (aa (aD Y (aw (aa (au (ai (FI Y ?_)))))))))
   refine FH (bC _ 1 Y Y X) (FJ Y (FL (aF ?_)))
   refine aK (i+1) (⟨hi,fun q h=>by by_cases h3:q=i;exact h3▸h0;exact hi2 q X⟩) X FD (.nil)
  ·have hs0:dn (a i).num≠0:=fun h=>h0 (Rat.num_eq_zero.1 (hs.1 h))
   rw [rf hi hi2 h0]
   refine ae (ae (ai (FI Y (FI Y (FH (sT X (a6 Y Y)) (FI Y (FK (ab Y) (FK (ab Y) (FK (aC Y Y X) ?_)))))))))
   refine FK (aN Y) ?_
   refine FK (am (ig _) Y ⟨S,FM⟩) ?_
   refine FK (sF (by assumption) (bV Y Y)) (FH (a5 Y Y) (FL (aa (aA Y (aV (av (av (aE (aa ?_)))))))))
   refine ae (ai (FI Y (FJ Y (FL (aa (aG ?_))))))
   refine aT Tryz.results110 (.tmp Y S)
 ·rw [n7 (fun q h=>hi2 q X),show n=i by omega]
  refine ae (ae (ai (FI Y (FI Y (FH (sF X (a6 Y Y)) (FI Y (sn0 Y Y Y Y Y (sn0 Y Y Y Y Y (sn0 Y Y Y Y Y ?_)))))))))
  refine sn0 Y Y Y Y Y (sn0 Y Y Y Y Y (sn0 Y Y Y Y Y (FH (bG Y Y) (FL (aa (aA Y (aV (av (av ?_)))))))))
  refine aE (aa (ae (ai (FI Y (FJ Y (FL (aa (aG ?_))))))))
  refine aT Tryz.results110 (.tmp Y S)
theorem mX (n m k:Nat) (a:Nat→Rat) (B:Nat→Nat→Rat) (sv:Option Nat) (cap:Nat) (α β:Nat) (hm:m≤1048576) (hn:n≤m) (hk:k≤1048576) (ha : ∀ j,qz α (a j)) (hB : ∀ i,i<k→(bp (B i) n<n) ∧ ∀ j,qz β (B i j)) (hz:iP α β k≤1099511627700) :
  OkR Tryz.prog 109 [cN m a,one (slV sv k cap),one (.int .i64 (n:Nat))] [aH sv 39 .one cap k (fun i=>cN m (B i))] (cN m (dA B n a k)):=by
 intro g0
 show OkI _ _ _ [xO g0 (aH sv 39 .one cap k (fun i=>cN m (B i)))] _ (fun _ => [xO g0 (aH sv 39 .one cap k (fun i=>cN m (B i)))])
 refine OkI.enter Tryz.func109 Y Tryz.ntmps109 Y (fun w O => ?_)
 refine iS (i:=0) (F:=sv=none→k=0) Y (fun g h hp he=>CW hp he) (fun hsv => ?_)
 refine ae (ai (FJ Y (FL (aa (ae (ae (ai (FJ Y (FL ?_)))))))))
 refine aa (au (cf (Γ' := [(0,_),(1,_),(2,_),(6,_),(7,_)]) FC (SubM.refl _) ?_))
 refine bk (σ:=Nat) (Γk := [(1,_),(2,_),(6,_)]) FC (fun i => [(7,one (.int .i64 (i:Nat))),(0,cN m (dA B n a i))]) (fun i M0=>M0) (fun i=>i≤k) (fun i=>k - i) (0) (Nat.zero_le _) FD (.keep FG (.nil)) (fun i hi => ?_)
 refine bI (Γ' := [(7,_),(0,_),(1,_),(2,_),(6,_)]) (M' := [_]) Y Y ?_
 by_cases hi:i<k
 ·obtain ⟨bs,rfl⟩:=fu hsv X
  obtain ⟨hf,hq⟩:=hB i hi
  have hf0:=(fF hf).1
  have hfi:=jY n m (B i) hm hn
  have hr:=pZ k ha hB i X
  have hm1:iP α β (i+1)≤1099511627700:=Nat.le_trans (yK X) hz
  have hm2:iP α β (i+1)=2*iP α β i+2*β+1:=rfl
  have ho:=ii (dA B n a i (bp (B i) n)) (B i (bp (B i) n)) (iP α β i) β (hr _) (hq _) X hf0
  have hl:=nH m m (dA B n a i) (B i) (dA B n a i (bp (B i) n) / B i (bp (B i) n)) (iP α β i) β (iP α β i+β) hm (Nat.le_refl _) (fun j _=>hr j) (fun j _=>hq j) (jX (hr _) (hq _) hf0) X
  unfold cN at *
  refine ae (ae (ai (FI Y (FI Y (FH (cB Y) (FH (sT X (a6 Y Y)) (FL (aa (aD Y ?_)))))))))
  refine aw (aa (ae (au (ae (ai (FI Y (FI Y (FH (aq Y Y X) (FH (pa 0 Y Y X) ?_)))))))))
  refine FI Y ?_
  refine FH (am (hfi) Y ⟨S,S,FM⟩) ?_
  refine FJ Y (FL (aa (be 18 a4 Z U (FI Y (FI Y (FI Y (FH (aq Y Y X) (FH (pa 0 Y Y X) (FI Y ?_)))))))))
  refine FI Y (FH (aC Y Y X) (FH (aN Y) (FI Y (FI Y (FH (aq Y Y X) (FH (pa 0 Y Y X) (FI Y (FH (aC Y Y X) (FH (aN Y) ?_)))))))))
  refine FH (am (ho) Y ⟨S,S,FM⟩) ?_
  refine FH (am (hl) Y ⟨S,S,S,FM⟩) ?_
  refine FL (FJ Y (FL (aF (aa (ai (FI Y (FH (bC _ 1 Y Y X) (FJ Y (FL ?_)))))))))
  refine aK (i+1) (hi) X FD (.keep FG (.nil))
 ·have he:i=k:=by omega
  subst he
  refine ae (ae (ai (FI Y (FI Y (FH (cB Y) (FH (sF X (a6 Y Y)) (FL (aa (aA Y ?_)))))))))
  refine aV (av (av (aE (aa (ae (ai (FI Y (FJ Y (FL ?_)))))))))
  refine aa (aG ?_)
  exact o5 (σ:=Unit) () Tryz.results109 (.tmp Y S) (SubM.refl _)
end Tor
end
section
namespace Tor
open Go Go.RowKit Go.Proofs
abbrev ct (l:List (Nat→Rat)):Nat→Nat→Rat:=fun k=>l.getD k (fun _=>0)
def f8 (c:Nat) (F:Nat→Nat→Int):Nat→List Nat × List (Nat→Rat)
 | 0 => ([], [])
 | i + 1 => if bp (dA (ct (f8 c F i).2) c (fun j => (F i j : Rat)) (f8 c F i).2.length) c < c then ((f8 c F i).1 ++ [i], (f8 c F i).2 ++ [dA (ct (f8 c F i).2) c (fun j => (F i j : Rat)) (f8 c F i).2.length]) else f8 c F i
def ee (α:Nat):Nat→Nat
 | 0 => α
 | k + 1 => iP α (ee α k) k
theorem nI (α k:Nat):ee α k≤ee α (k+1):=by
 show ee α k≤iP α (ee α k) k
 cases k with
 | zero => exact Nat.le_refl _
 | succ k =>
  show ee α (k+1)≤2*iP α (ee α (k+1)) k+2*ee α (k+1)+1
  omega
theorem li {α i k:Nat} (h:i≤k):ee α i≤ee α k:=by
  induction k with
  | zero => have : i = 0 := by omega
            subst this;exact Nat.le_refl _
  | succ k ih =>
    by_cases e:i=k+1
    · rw [e]; exact Nat.le_refl _
    · exact Nat.le_trans (ih X) (nI α k)
structure NewI (α c i:Nat) (s:List Nat × List (Nat→Rat)):Prop where
 l1:s.1.length=s.2.length
 l2:s.2.length≤i
 b : ∀ k,k<s.2.length→bp (ct s.2 k) c<c ∧ ∀ j,qz (ee α s.2.length) (ct s.2 k j)
theorem g9 {l:List (Nat→Rat)} {r:Nat→Rat} {k:Nat} (h:k<l.length):ct (l ++ [r]) k=ct l k:=by
 unfold ct;simp [List.getD,List.getElem?_append_left h]
theorem gK (l:List (Nat→Rat)) (r:Nat→Rat):ct (l ++ [r]) l.length=r:=by
 unfold ct;simp [List.getD]
theorem Ba {α c:Nat} {F:Nat→Nat→Int} (hF : ∀ i j,lz α (F i j)) (hα:1≤α) : ∀ i,NewI α c i (f8 c F i)
 | 0 => ⟨rfl, Nat.zero_le _, fun k h => absurd h (Nat.not_lt_zero _)⟩
 | i + 1 => by
  have ih:=Ba (c:=c) hF hα i
  have hr:=pZ (n:=c) (f8 c F i).2.length (fun j=>gN (a:=F i j) hα (hF i j)) ih.b (f8 c F i).2.length (Nat.le_refl _)
  show NewI α c (i+1) (if _ then _ else f8 c F i)
  split
  ·rename_i h
   generalize dA (ct (f8 c F i).2) c (fun j=>(F i j:Rat)) (f8 c F i).2.length=r at *
   generalize f8 c F i=FB at *
   refine ⟨by simp [ih.l1],by have:=ih.l2;simp;omega,fun k hk => ?_⟩
   have hl:(FB.2 ++ [r]).length=FB.2.length+1:=by simp
   have hk:k<(FB.2 ++ [r]).length:=hk
   rw [hl] at hk
   show bp (ct (FB.2 ++ [r]) k) c<c ∧ ∀ j,qz (ee α (FB.2 ++ [r]).length) (ct (FB.2 ++ [r]) k j)
   rw [hl]
   by_cases h1:k<FB.2.length
   ·rw [g9 h1]
    exact ⟨(ih.b k h1).1,fun j=>((ih.b k h1).2 j).mono (nI _ _)⟩
   ·rw [show k=FB.2.length by omega,gK]
    exact ⟨h,hr⟩
  ·exact ⟨ih.l1,by have:=ih.l2;omega,ih.b⟩
theorem Bb {sv:Option Nat} {T:TypeId} {cap:Nat} {l m:List Nat} (h:m=l):Own.le (aH sv T .one cap l.length (lB l)) (aH sv T .one cap m.length (lB m)):=h▸Own.le_refl _
theorem Bc {sv:Option Nat} {T:TypeId} {cap c:Nat} {l m:List Nat} (h:m=l ++ [c]):Own.le (aH sv T .one cap (l.length+1) (fun q=>if q<l.length then lB l q else one (.int .i64 (c:Nat)))) (aH sv T .one cap m.length (lB m)):=by subst h;exact t6
theorem uq {sv:Option Nat} {T:TypeId} {cap c:Nat} {l m:List (Nat→Rat)} {r:Nat→Rat} (h:m=l ++ [r]):Own.le (aH sv T .one cap (l.length+1) (fun q=>if q<l.length then cN c (ct l q) else cN c r)) (aH sv T .one cap m.length (fun q=>cN c (ct m q))):=by
 subst h
 refine ff (by simp) (fun q hq => ?_)
 by_cases h1:q<l.length
 ·rw [if_pos h1,g9 h1]
 ·have:q=l.length:=by omega
  subst this;rw [if_neg h1,gK]
theorem ur {sv:Option Nat} {T:TypeId} {cap c:Nat} {l m:List (Nat→Rat)} (h:m=l):Own.le (aH sv T .one cap l.length (fun q=>cN c (ct l q))) (aH sv T .one cap m.length (fun q=>cN c (ct m q))):=h▸Own.le_refl _
attribute [local irreducible] J PJ aM one slT bW bH bj exT cn eP aX aH slV VT.le Ret bP xO
attribute [local irreducible] aO cj cN bw
theorem Bd (r c:Nat) (F:Nat→Nat→Int) (α:Nat) (hr:r≤1024) (hc:c≤1024) (hα:1≤α) (hF : ∀ i j,lz α (F i j)) (hz:ee α r≤1099511627700):Ok Tryz.prog 106 [bO r c F] (Fa (f8 c F r).1):=by
 unfold bO
 refine Ok.enter Tryz.func106 Y Tryz.ntmps106 Y (fun w O => ?_)
 refine ae (ai ?_)
 refine aQ Y Y (ltN Y) (fun b1 => ?_)
 refine FJ Y (FL (aa (ae (ai (iL (n:=0) Y Y Y Y Y ?_)))))
 refine PartsK.nil (fun bl => ?_)
 refine iL (n:=0) Y Y Y Y Y ?_
 refine PartsK.nil (fun bl => ?_)
 refine FJ Y (FJ Y (FL (aa (ae (ae (ai (FJ Y (FL (aa ?_)))))))))
 refine au ?_
 rename_i blo
 generalize hQ:f8 c F=Q at *
 have hQ0:Q 0=([], []):=by rw [← hQ]; rfl
 refine cf (Γ' := [(1,_),(2,_),(3,_),(4,_),(5,_)]) FC (SubM.refl _) ?_
 refine bk (σ:=Nat × Option Nat × Nat × Option Nat × Nat) (Γk := [(1,_),(2,_)]) FC (fun s => [(5,one (.int .i64 (s.1:Nat))),(3,one (slV s.2.1 (Q s.1).1.length s.2.2.1)),(4,one (slV s.2.2.2.1 (Q s.1).2.length s.2.2.2.2))]) (fun s M0=>((M0.set 1 (aH s.2.1 3 .one s.2.2.1 (Q s.1).1.length (lB (Q s.1).1))).set 0 (aH s.2.2.2.1 39 .one s.2.2.2.2 (Q s.1).2.length (fun q=>cN c (ct (Q s.1).2 q))))) (fun s=>s.1≤r) (fun s=>r - s.1) ((0,some blo,0,some bl,0)) (Nat.zero_le _) (by (repeat (first | exact dV.nil | refine dV.cons Y S ?_ | refine dV.cons Y (gB (by dsimp only;rw [hQ0]; rfl)) ?_))) (.keep (ff (by dsimp only;rw [hQ0]; rfl) (fun q hq=>absurd hq (Nat.not_lt_zero _))) (.keep (ff (by dsimp only;rw [hQ0]; rfl) (fun q hq=>absurd hq (Nat.not_lt_zero _))) (.keep FG (.nil)))) (fun s hs => ?_)
 refine bI (Γ' := [(5,_),(3,_),(4,_),(1,_),(2,_)]) (M' := [_,_,_]) Y Y ?_
 obtain ⟨i,svo,capo,svb,capb⟩:=s
 dsimp only at hs ⊢
 have hI:NewI α c i (Q i):=by rw [← hQ]; exact Ba (c:=c) hF hα i
 have hsucc:Q (i+1)=if bp (dA (ct (Q i).2) c (fun j=>(F i j:Rat)) (Q i).2.length) c<c then ((Q i).1 ++ [i],(Q i).2 ++ [dA (ct (Q i).2) c (fun j=>(F i j:Rat)) (Q i).2.length]) else Q i:=by rw [← hQ]; rfl
 generalize hS:Q i=FB at *
 have hl1:=hI.l1
 have hl2:=hI.l2
 by_cases hi:i<r
 ·have hrat:=kL c (F i) X
  have hz1:ee α (FB.2.length+1)≤1099511627700:=Nat.le_trans (li X) hz
  have hred:=mX c c FB.2.length (fun j=>(F i j:Rat)) (ct FB.2) svb capb α (ee α FB.2.length) X (Nat.le_refl _) X (fun j=>gN hα (hF i j)) hI.b hz1
  have hfi:=jY c c (dA (ct FB.2) c (fun j=>(F i j:Rat)) FB.2.length) X (Nat.le_refl _)
  generalize dA (ct FB.2) c (fun j=>(F i j:Rat)) FB.2.length=R at *
  refine ae (ae (ai (FI Y (FH (aj Y) (FH (ak 2 Y Y Y) (FH (sT X (a6 Y Y)) (FL (aa (aD Y ?_)))))))))
  refine aw (aa (ae (au (ae (be 10 a4 Z U (FH (aj Y) (FH (ak 2 Y Y Y) (FI Y (FH (aC Y Y X) ?_)))))))))
  refine FH (aN Y) ?_
  refine FH (am (hrat) Y ⟨S,FM⟩) ?_
  refine FI Y (FH (aj Y) (FH (ak 2 Y Y Y) ?_))
  refine FH (mw (Min := [_]) (Kp := [_,_]) hred Y ⟨S,S,S,FM⟩ (List.Perm.refl _)) ?_
  by_cases hf:bp R c<c
  ·rw [if_pos hf] at hsucc
   have e1:=congrArg Prod.fst hsucc
   have e2:=congrArg Prod.snd hsucc
   have l1:(Q (i+1)).1.length=FB.1.length+1:=by rw [e1]; simp
   have l2:(Q (i+1)).2.length=FB.2.length+1:=by rw [e2]; simp
   refine FL (FJ Y (FL (aa (ae (be 7 a4 Z U (FI Y (FH (aj Y) (FH (ak 2 Y Y Y) ?_))))))))
   refine FH (am (hfi) Y ⟨S,S,FM⟩) ?_
   refine FH (aj Y) (FH (ak 2 Y Y Y) (FH (sT X (a6 Y Y)) (FL (FL (aa (aD Y (ae (ai (FI Y ?_)))))))))
   refine FI Y (eH Y Y Y Y ?_)
   (refine cq 1 Y Y Y (leN Y) ?_ ?_ Y (ltN Y) (fun sv35 cap35 => ?_);omega;omega)
   refine FJ Y (FL (aa (ai (FI Y (FI Y (eH Y Y Y Y ?_))))))
   (refine cq 0 Y Y Y (leN Y) ?_ ?_ Y (ltN Y) (fun sv39 cap39 => ?_);omega;omega)
   refine FJ Y (FL (aF (aa (ai (FI Y (FH (bC _ 1 Y Y X) (FJ Y (FL ?_))))))))
   refine aK ((i+1,sv35,cap35,sv39,cap39)) (hi) X (by (repeat (first | exact dV.nil | refine dV.cons Y S ?_ | refine dV.cons Y (gB (by dsimp only;omega)) ?_))) (.keep (uq e2) (.keep (Bc e1) (.keep FG (.nil))))
  ·rw [if_neg hf] at hsucc
   have e1:=congrArg Prod.fst hsucc
   have e2:=congrArg Prod.snd hsucc
   have l1:=congrArg List.length e1
   have l2:=congrArg List.length e2
   refine FL (FJ Y (FL (aa (ae (be 7 a4 Z U (FI Y (FH (aj Y) (FH (ak 2 Y Y Y) ?_))))))))
   refine FH (am (hfi) Y ⟨S,S,FM⟩) ?_
   refine FH (aj Y) (FH (ak 2 Y Y Y) (FH (sF X (a6 Y Y)) (FL (FL (aa (aA Y (aw (aF (aa ?_)))))))))
   refine ai (FI Y (FH (bC _ 1 Y Y X) (FJ Y (FL ?_))))
   refine aK ((i+1,svo,capo,svb,capb)) (hi) X (by (repeat (first | exact dV.nil | refine dV.cons Y S ?_ | refine dV.cons Y (gB (by dsimp only;omega)) ?_))) (.keep (ur e2) (.keep (Bb e1) (.keep FG (.nil))))
 ·have he:i=r:=by omega
  subst he
  rw [hS]
  refine ae (ae (ai (FI Y (FH (aj Y) (FH (ak 2 Y Y Y) (FH (sF X (a6 Y Y)) (FL (aa (aA Y ?_)))))))))
  refine aV (av (av (aE (aa (ae (ai (FI Y (FJ Y (FL ?_)))))))))
  refine aa (aG (bZ (t:=2) (i:=1) Y Y ?_))
  refine aT Tryz.results106 (.tmp Y S)
end Tor
end
section
namespace Tor.Lin
theorem yL (m:Nat) (B:Nat→Nat→Rat) (c:Nat→Rat):det m (fun i j=>if 0<i then B i j - c i*B 0 j else B i j)=det m B:=by
 have key : ∀ t,t≤m→det m (fun i j=>if 0<i∧i<t then B i j - c i*B 0 j else B i j)=det m B:=by
  intro t
  induction t with
  | zero => intro _; exact bM fun i j _ _ => by rw [if_neg X]
  | succ t ih =>
   intro ht
   by_cases h0:t=0
   ·subst h0;exact bM fun i j _ _=>by rw [if_neg X]
   ·rw [← ih X, ← xI fR (p:=t) (q:=0) h0 X X (- c t) (fun i j=>if 0<i∧i<t then B i j - c i*B 0 j else B i j)]
    exact bM fun i j _ _=>by
     by_cases h1:i=t
     ·subst h1
      rw [if_pos X,if_pos Y,if_neg X,if_neg X]; grind
     ·rw [if_neg h1]
      by_cases h2:0<i∧i<t
      ·rw [if_pos X,if_pos h2]
      ·rw [if_neg X,if_neg h2]
 rw [← key m (Nat.le_refl _)]
 exact bM fun i j hi _=>by
  by_cases h:0<i
  ·rw [if_pos h,if_pos ⟨h,hi⟩]
  ·rw [if_neg h,if_neg (fun k=>h k.1)]
def nJ (n k:Nat) (F:Nat→Nat→Int) (R:Nat→Nat→Rat) (o:Rat):Prop:=det n (fun i j=>(F i j:Rat))=o*det (n - k) (fun i j=>R (k+i) (k+j))
theorem nJ.start (n:Nat) (F:Nat→Nat→Int):nJ n 0 F (fun i j=>(F i j:Rat)) 1:=by
 show _=(1:Rat)*det (n - 0) (fun i j=>((F (0+i) (0+j):Int):Rat))
 rw [Nat.sub_zero,bM (F:=fun i j=>((F (0+i) (0+j):Int):Rat)) (G:=fun i j=>(F i j:Rat)) (fun i j _ _=>by simp only [Nat.zero_add])]; grind
theorem nJ.done {n:Nat} {F:Nat→Nat→Int} {R:Nat→Nat→Rat} {o:Rat} (h:nJ n n F R o):o=((bK n F:Int):Rat):=by
 rw [di,h,Nat.sub_self]
 show o=o*1
 grind
theorem nJ.zero {n k:Nat} {F:Nat→Nat→Int} {R:Nat→Nat→Rat} {o:Rat} (h:nJ n k F R o) (hk:k<n) (h0 : ∀ i,k≤i→i<n→R i k=0):bK n F=0:=by
 have:((bK n F:Int):Rat)=((0:Int):Rat):=by
  rw [di,h,tg (p:=0) X (fun i hi=>by rw [Nat.add_zero]; exact h0 _ X X)]
  have:((0:Int):Rat)=0:=rfl
  rw [this]; grind
 exact_mod_cast this
theorem nJ.swap {n k a:Nat} {F:Nat→Nat→Int} {R:Nat→Nat→Rat} {o:Rat} (h:nJ n k F R o) (hk:k<n) (ha:k≤a) (han:a<n):nJ n k F (Tor.swp a k R) (if a=k then o else -o):=by
 unfold nJ at *
 by_cases e:a=k
 ·subst e;rw [iu,if_pos Y]; exact h
 ·rw [if_neg e,h]
  have hsw:=th fR (n:=n - k) (p:=a - k) (q:=0) X X X (fun i j=>R (k+i) (k+j))
  have e2:det (n - k) (tw (fun i j=>R (k+i) (k+j)) (a - k) 0 ((fun i j=>R (k+i) (k+j)) 0) ((fun i j=>R (k+i) (k+j)) (a - k)))=det (n - k) (fun i j=>Tor.swp a k R (k+i) (k+j)):=bM fun i j _ _=>by
   unfold tw Tor.swp
   by_cases h1:i=a - k
   ·rw [if_pos h1,if_pos (show k+i=a by omega)]; rfl
   ·rw [if_neg h1,if_neg (show ¬ k+i=a by omega)]
    by_cases h2:i=0
    ·rw [if_pos h2,if_pos (show k+i=k by omega)]; show R (k+(a - k)) (k+j)=_;rw [show k+(a - k)=a by omega]
    ·rw [if_neg h2,if_neg (show ¬ k+i=k by omega)]
  rw [e2] at hsw
  rw [hsw]; grind
theorem nJ.step {n k:Nat} {F:Nat→Nat→Int} {R:Nat→Nat→Rat} {o:Rat} (h:nJ n k F R o) (hk:k<n) (hn:R k k≠0):nJ n (k+1) F (fun i j=>if k<i then R i j - R i k / R k k*R k j else R i j) (o*R k k):=by
 unfold nJ at *
 rw [h, ← yL (n - k) (fun i j=>R (k+i) (k+j)) (fun i=>R (k+i) k / R k k)]
 have hm:n - k=(n - (k+1))+1:=by omega
 rw [hm,xJ (fun i hi=>by
  show (if 0<i+1 then R (k+(i+1)) (k+0) - R (k+(i+1)) k / R k k*R (k+0) (k+0) else R (k+(i+1)) (k+0))=0
  rw [if_pos X,Nat.add_zero]; grind)]
 have e1:(if 0<0 then R (k+0) (k+0) - R (k+0) k / R k k*R (k+0) (k+0) else R (k+0) (k+0))=R k k:=by rw [if_neg X,Nat.add_zero]
 have e2:det (n - (k+1)) (fun i j=>if 0<i+1 then R (k+(i+1)) (k+(j+1)) - R (k+(i+1)) k / R k k*R (k+0) (k+(j+1)) else R (k+(i+1)) (k+(j+1)))=det (n - (k+1)) (fun i j=>if k<k+1+i then R (k+1+i) (k+1+j) - R (k+1+i) k / R k k*R k (k+1+j) else R (k+1+i) (k+1+j)):=bM fun i j _ _=>by
  rw [if_pos X,if_pos X,show k+(i+1)=k+1+i by omega,show k+(j+1)=k+1+j by omega]
  simp only [Nat.add_zero]
 show o*((if 0<0 then R (k+0) (k+0) - R (k+0) k / R k k*R (k+0) (k+0) else R (k+0) (k+0))*det (n - (k+1)) (fun i j=>if 0<i+1 then R (k+(i+1)) (k+(j+1)) - R (k+(i+1)) k / R k k*R (k+0) (k+(j+1)) else R (k+(i+1)) (k+(j+1))))=_
 rw [e1,e2]; grind
end Tor.Lin
end
section
namespace Tor
open Go Go.RowKit Go.Proofs
def rdB (α:Nat):Nat→Nat
 | 0 => α
 | k + 1 => 4 * rdB α k + 1
theorem Be {α i k:Nat} (h:i≤k):rdB α i≤rdB α k:=by
  induction k with
  | zero => have : i = 0 := by omega
            subst this;exact Nat.le_refl _
  | succ k ih =>
    by_cases e:i=k+1
    · rw [e]; exact Nat.le_refl _
    · have:=ih X
      show rdB α i≤4*rdB α k+1
      omega
def iQ (k i:Nat) (R:Nat→Nat→Rat):Nat→Nat→Rat:=fun q j=>if k<q∧q<i then R q j - R q k / R k k*R k j else R q j
theorem xa {sv:Option Nat} {T:TypeId} {cap n k i:Nat} {R:Nat→Nat→Rat} (h:k<i):Own.le (aH sv T .one cap n (upd (fun q=>cN n (iQ k i R q)) i (cN n (fun j=>R i j - R i k / R k k*R k j)))) (aH sv T .one cap n (fun q=>cN n (iQ k (i+1) R q))):=a7 fun q hq=>by
 show (if q=i then cN n (fun j=>R i j - R i k / R k k*R k j) else cN n (iQ k i R q))=_
 by_cases c:q=i
 ·subst c;rw [if_pos Y]; congr 1;funext j;unfold iQ;rw [if_pos X]
 ·rw [if_neg c]; congr 1;funext j;unfold iQ
  by_cases c2:k<q∧q<i
  ·rw [if_pos c2,if_pos X]
  ·rw [if_neg c2,if_neg X]
theorem kM {k i:Nat} {R:Nat→Nat→Rat} : iQ k i R i=R i:=by funext j;unfold iQ;rw [if_neg X]
theorem n8 {k i:Nat} {R:Nat→Nat→Rat} : iQ k i R k=R k:=by funext j;unfold iQ;rw [if_neg X]
theorem rg {k:Nat} {R:Nat→Nat→Rat} : iQ k (k+1) R=R:=by funext q j;unfold iQ;rw [if_neg X]
theorem CX {k n:Nat} {F:Nat→Nat→Int} {R:Nat→Nat→Rat} {o:Rat} (h:Lin.nJ n (k+1) F (fun i j=>if k<i then R i j - R i k / R k k*R k j else R i j) o):Lin.nJ n (k+1) F (iQ k n R) o:=by
 unfold Lin.nJ at *
 rw [h]; congr 1
 exact Lin.bM fun i j hi hj=>by
  unfold iQ
  show (if k<k+1+i then _ else _)=_
  rw [if_pos X,if_pos X]
theorem EI {β k i:Nat} {R:Nat→Nat→Rat} (h : ∀ q j,qz β (R q j)) (h0:R k k≠0) : ∀ q j,qz (4*β+1) (iQ k i R q j):=fun q j=>by
 unfold iQ;split
 ·exact (pX (h q j) (nG (jX (h q k) (h k k) h0) (h k j))).mono X
 ·exact (h q j).mono X
theorem Bf {β i k:Nat} {R:Nat→Nat→Rat} (h : ∀ q j,qz β (R q j)) : ∀ q j,qz β (swp i k R q j):=fun q j=>by
 unfold swp;split
 ·exact h _ _
 ·split
  ·exact h _ _
  ·exact h _ _
structure RdI (α n k:Nat) (F:Nat→Nat→Int) (R:Nat→Nat→Rat) (o:Rat):Prop where
 d:Lin.nJ n k F R o
 q : ∀ i j,qz (rdB α k) (R i j)
 o:qz (rdB α k) o
theorem RdI.next {α n k a:Nat} {F:Nat→Nat→Int} {R:Nat→Nat→Rat} {o:Rat} (h:RdI α n k F R o) (hα:1≤α) (hk:k<n) (ha:k≤a) (han:a<n) (h0:R a k≠0):RdI α n (k+1) F (iQ k n (swp a k R)) ((if a=k then o else -o)*R a k):=by
 have hs:=h.d.swap hk ha han
 have hkk:swp a k R k k≠0:=by rw [iw]; exact h0
 have ht:=hs.step hk hkk
 rw [iw] at ht
 refine ⟨CX (by rw [iw]; exact ht),fun i j=>EI (Bf h.q) hkk i j,?_⟩
 have ho:qz (rdB α k) (if a=k then o else -o):=by split;exact h.o;exact sA h.o
 exact (nG ho (h.q a k)).mono (by show rdB α k+rdB α k≤4*rdB α k+1;omega)
theorem CY {sv:Option Nat} {T:TypeId} {cap n a k:Nat} {R:Nat→Nat→Rat} (h:a≠k):Own.le (aH sv T .one cap n (upd (upd (fun q=>cN n (R q)) k (cN n (R a))) a (cN n (R k)))) (aH sv T .one cap n (fun q=>cN n (swp a k R q))):=a7 fun q hq=>by
 show (if q=a then cN n (R k) else (if q=k then cN n (R a) else cN n (R q)))=cN n (if q=a then R k else if q=k then R a else R q)
 split
 ·rfl
 ·split <;> rfl
theorem Bg {sv:Option Nat} {T:TypeId} {cap n i:Nat} {R:Nat→Nat→Rat} {f:Nat→Rat} (h:f=R i):Own.le (aH sv T .one cap (i+1) (fun q=>if q<i then cN n (R q) else cN n f)) (aH sv T .one cap (i+1) (fun q=>cN n (R q))):=a7 fun q hq=>by
 subst h
 by_cases c:q<i
 ·rw [if_pos c]
 ·rw [if_neg c,show q=i by omega]
attribute [local irreducible] J PJ aM one slT bW bH bj exT cn eP aX aH slV VT.le Ret bP xO
attribute [local irreducible] aO cj
theorem Bh (n:Nat) (F:Nat→Nat→Int) (α:Nat) (hn:n≤1024) (hα:1≤α) (hF : ∀ i j,lz α (F i j)) (hz:rdB α n≤1099511627700):Ok Tryz.prog 66 [bO n n F] (bj [aO (Lin.bK n F),one (.int .i64 0)]):=by
 have hone:=eR 1 U U
 unfold bO
 refine Ok.enter Tryz.func66 Y Tryz.ntmps66 Y (fun w O => ?_)
 refine ae (ai ?_)
 refine aQ Y Y (ltN Y) (fun b1 => ?_)
 refine aJ (T:=37) Y (ltN Y) (fun b2 => ?_)
 refine FJ Y (FL (aa (ae (ae (ai (FH (aj Y) (FH (ak 1 Y Y Y) (FH (aj Y) (FH (ak 1 Y Y Y) ?_)))))))))
 refine FH (sF X (dj Y Y)) (FL (aa (aA Y (aw (aa (ae (ai (iL (n:=0) Y Y Y Y Y ?_))))))))
 refine PartsK.nil (fun bl => ?_)
 refine FH (am (hone) Y ⟨S,FM⟩) ?_
 refine bF (T:=58) Y Y Y (fun b5 => ?_)
 refine FJ Y (kv 0 Y Y Y Y (FL (aa (ae (ae (ai (FJ Y (FL (aa ?_)))))))))
 refine au (cf (Γ' := [(1,_),(2,_),(3,_),(4,_),(5,_),(6,_)]) FC (SubM.refl _) ?_)
 refine bk (σ:=Nat × Option Nat × Nat) (Γk := [(1,_),(2,_),(3,_),(5,_)]) FC (fun s => [(6,one (.int .i64 (s.1:Nat))),(4,one (slV s.2.1 s.1 s.2.2))]) (fun s M0=>(M0.set 1 (aH s.2.1 39 .one s.2.2 s.1 (fun q=>cN n (fun j=>(F q j:Rat)))))) (fun s=>s.1≤n) (fun s=>n - s.1) ((0,some bl,0)) (Nat.zero_le _) FD (.keep FG (.keep (a7 (fun q hq=>absurd hq (Nat.not_lt_zero _))) (.keep FG (.keep FG (.nil))))) (fun s hs => ?_)
 refine bI (Γ' := [(6,_),(4,_),(1,_),(2,_),(3,_),(5,_)]) (M' := [_,_,_,_]) Y Y ?_
 obtain ⟨i,sv,cap⟩:=s
 dsimp only at hs ⊢
 by_cases hi:i<n
 ·have hrat:=kL n (F i) X
  refine ae (ae (ai (FI Y (FH (aj Y) (FH (ak 3 Y Y Y) (FH (sT X (a6 Y Y)) (FL (aa (aD Y ?_)))))))))
  refine aw (aa (ae (au (ai (FI Y (FH (aj Y) (FH (ak 3 Y Y Y) (FI Y (FH (aC Y Y X) ?_)))))))))
  refine FH (aN Y) ?_
  refine FH (am (hrat) Y ⟨S,FM⟩) ?_
  refine eH Y Y Y Y ?_
  (refine cq 1 Y Y Y (leN Y) ?_ ?_ Y (ltN Y) (fun sv32 cap32 => ?_);omega;omega)
  refine FJ Y (FL (aF (aa (ai (FI Y (FH (bC _ 1 Y Y X) (FJ Y (FL ?_))))))))
  refine aK ((i+1,sv32,cap32)) (hi) X FD (.keep FG (.keep (Bg (R:=fun q j=>(F q j:Rat)) Y) (.keep FG (.keep FG (.nil)))))
 ·have he:i=n:=by omega
  subst he
  refine ae (ae (ai (FI Y (FH (aj Y) (FH (ak 3 Y Y Y) (FH (sF X (a6 Y Y)) (FL (aa (aA Y ?_)))))))))
  refine aV (av (av (aE (aa (ae (ae (ai (FJ Y (FL ?_)))))))))
  refine aa (au (cf (Γ' := [(2,_),(3,_),(4,_),(5,_),(7,_)]) FC (SubM.refl _) ?_))
  refine bk (σ:=Nat × (Nat→Nat→Rat) × Rat) (Γk := [(2,_),(4,_),(5,_)]) FC (fun s => [(7,one (.int .i64 (s.1:Nat)))]) (fun s M0=>((M0.set 1 (aH sv 39 .one cap i (fun q=>cN i (s.2.1 q)))).set 0 (aX b5 58 4 [(0, .agg 4,cj s.2.2)]))) (fun s=>s.1≤i∧RdI α i s.1 F s.2.1 s.2.2) (fun s=>i - s.1) ((0,fun q j=>(F q j:Rat),((1:Int):Rat))) (⟨Nat.zero_le _,Lin.nJ.start i F,fun a b=>gN hα (hF a b),gN hα (sh hα)⟩) FD (.keep FG (.keep FG (.keep FG (.keep FG (.nil))))) (fun s hs => ?_)
  refine bI (Γ' := [(7,_),(2,_),(4,_),(5,_)]) (M' := [_,_,_,_]) Y Y ?_
  obtain ⟨k,R,o⟩:=s
  obtain ⟨hk,hI⟩:=hs
  dsimp only at hk hI ⊢
  refine iS (i:=1) (F:=sv=none→i=0) Y (fun g h hp he=>e6 hp he) (fun hsv => ?_)
  by_cases hki:k<i
  ·obtain ⟨bs,rfl⟩:=fu hsv X
   have hz2:rdB α (k+1)≤1099511627700:=Nat.le_trans (Be X) hz
   have hz3:rdB α (k+1)=4*rdB α k+1:=rfl
   refine ae (ae (ai (FI Y (FI Y (FH (cB Y) (FH (sT X (a6 Y Y)) (FL (aa (aD Y ?_)))))))))
   refine aw (aa (ae (au (ae (ai (FI Y (FJ Y (FL (aa ?_)))))))))
   refine ae (au (cf (Γ' := [(2,_),(4,_),(5,_),(7,_),(8,_)]) FC (SubM.refl _) ?_))
   refine bk (σ:=Nat) (Γk := [(2,_),(4,_),(5,_),(7,_)]) FC (fun a => [(8,one (.int .i64 (a:Nat)))]) (fun a M0=>M0) (fun a=>k≤a∧a≤i ∧ ∀ q,k≤q→q<a→R q k=0) (fun a=>i - a) (k) (⟨Nat.le_refl _,hk,fun q h1 h2=>absurd h2 X⟩) FD (.keep FG (.keep FG (.keep FG (.keep FG (.nil))))) (fun a ha => ?_)
   refine bI (Γ' := [(8,_),(2,_),(4,_),(5,_),(7,_)]) (M' := [_,_,_,_]) Y Y ?_
   obtain ⟨ha1,ha2,ha3⟩:=ha
   unfold cN
   by_cases hai:a<i
   ·have hsg:=dY (R a k).num
    by_cases h0:R a k=0
    ·have hs0:=hsg.2 (Rat.num_eq_zero.2 h0)
     refine ae (ae (ai (FI Y (FI Y (FH (cB Y) (FH (sT X (a6 Y Y)) (FI Y (FK (ab Y) (FK (ab Y) ?_)))))))))
     refine FK (aq Y Y X) (FK (bg 1 Y Y X) (FK (ab Y) (FK (aC Y Y X) (FK (aN Y) ?_))))
     refine FK (am (ig _) Y ⟨S,FM⟩) ?_
     refine FK (sT (by assumption) (bV Y Y)) (FH (a5 Y Y) (FL (aa (aD Y (aw (aa (au (ai (FI Y ?_)))))))))
     refine FH (bC _ 1 Y Y X) (FJ Y (FL (aF ?_)))
     refine aK (a+1) (⟨by omega,hai,fun q h1 h2=>by by_cases h3:q=a;exact h3▸h0;exact ha3 q h1 X⟩) X FD (.keep FG (.keep FG (.keep FG (.keep FG (.nil)))))
    ·have hs0:dn (R a k).num≠0:=fun h=>h0 (Rat.num_eq_zero.1 (hsg.1 h))
     have hnx:=hI.next hα hki ha1 hai h0
     by_cases hak:a=k
     ·have hnx':RdI α i (k+1) F (iQ k i R) (o*R k k):=by rw [hak,iu,if_pos Y] at hnx;exact hnx
      have hkk:R k k≠0:=by rw [← hak]; rw [hak] at h0 ⊢; exact h0
      have hq1:=hI.q
      have hq2:=hI.o
      have hmul:=mV o (R k k) (rdB α k) (rdB α k) hq2 (hq1 k k) X
      refine ae (ae (ai (FI Y (FI Y (FH (cB Y) (FH (sT X (a6 Y Y)) (FI Y (FK (ab Y) (FK (ab Y) ?_)))))))))
      refine FK (aq Y Y X) (FK (bg 1 Y Y X) (FK (ab Y) (FK (aC Y Y X) (FK (aN Y) ?_))))
      refine FK (am (ig _) Y ⟨S,FM⟩) ?_
      refine FK (sF (by assumption) (bV Y Y)) (FH (a5 Y Y) (FL (aa (aA Y (aV (av (av (aE (aa ?_)))))))))
      refine ae (ae (ai (FI Y (FI Y (FH (cB Y) (FH (sF X (bV Y Y)) (FL (aa (aA Y ?_)))))))))
      refine aw (aa (ae (ae (ai (FI Y (FI Y (FH (sF X (dj Y Y)) (FL (aa ?_)))))))))
      refine aA Y (aw (aa (ae (be 9 a4 Z U (FH (ak 0 Y Y Y) (FI Y (FI Y (FH (aq Y Y X) (FH (bg 1 Y Y X) ?_)))))))))
      refine FI Y (FH (aC Y Y X) (FH (aN Y) ?_))
      refine FH (am (hmul) Y ⟨S,S,FM⟩) ?_
      refine FL (aB 0 Y Y Y Y Y (leN Y) Y (FL (aa (ae (ai (FI Y (FH (bC _ 1 Y Y X) (FJ Y (FL ?_)))))))))
      refine aa (au (cf (Γ' := [(2,_),(4,_),(5,_),(7,_),(9,_)]) FC (SubM.refl _) ?_))
      refine bk (σ:=Nat) (Γk := [(2,_),(4,_),(5,_),(7,_)]) FC (fun j => [(9,one (.int .i64 (j:Nat)))]) (fun j M0=>(M0.set 1 (aH (some bs) 39 .one cap i (fun q=>cN i (iQ k j R q))))) (fun j=>k+1≤j∧j≤i) (fun j=>i - j) (k+1) (⟨Nat.le_refl _,hki⟩) FD (.keep FG (.keep (by (rw [rg]; exact Own.le_refl _)) (.keep FG (.keep FG (.nil))))) (fun j hj => ?_)
      refine bI (Γ' := [(9,_),(2,_),(4,_),(5,_),(7,_)]) (M' := [_,_,_,_]) Y Y ?_
      obtain ⟨hj1,hj2⟩:=hj
      by_cases hji:j<i
      ·have hov:=ii (R j k) (R k k) (rdB α k) (rdB α k) (hq1 j k) (hq1 k k) X hkk
       have hl:=nH i i (R j) (R k) (R j k / R k k) (rdB α k) (rdB α k) (rdB α k+rdB α k) X (Nat.le_refl _) (fun q _=>hq1 j q) (fun q _=>hq1 k q) (jX (hq1 j k) (hq1 k k) hkk) X
       unfold cN at hl ⊢
       refine ae (ae (ai (FI Y (FI Y (FH (cB Y) (FH (sT X (a6 Y Y)) (FL (aa (aD Y ?_)))))))))
       refine aw (aa (ae (au (be 26 a4 Z U (FI Y (FI Y (FI Y (FI Y (FH (aq Y Y X) ?_)))))))))
       refine FH (bg 1 Y Y X) (FI Y (FI Y (FH (aq Y Y X) (FH (bg 1 Y Y X) (FI Y (FI Y (FH (aq Y Y X) (FH (bg 1 Y Y X) (FI Y ?_)))))))))
       refine FH (aC Y Y X) (FH (aN Y) (FI Y (FI Y (FH (aq Y Y X) (FH (bg 1 Y Y X) (FI Y (FH (aC Y Y X) (FH (aN Y) ?_))))))))
       refine FH (am (hov) Y ⟨(by (simp only [kM,n8]; exact VT.le_refl _)),(by (simp only [kM,n8]; exact VT.le_refl _)),FM⟩) ?_
       refine FH (am (hl) Y ⟨(by (simp only [kM,n8]; exact VT.le_refl _)),(by (simp only [kM,n8]; exact VT.le_refl _)),S,FM⟩) ?_
       refine FL (FH (aq Y Y X) ?_)
       (refine az 1 Y Y Y ?_ Y ?_;omega)
       refine FL (aF (aa (ai (FI Y (FH (bC _ 1 Y Y X) (FJ Y (FL ?_)))))))
       refine aK (j+1) (⟨by omega,hji⟩) X FD (.keep FG (.keep (xa X) (.keep FG (.keep FG (.nil)))))
      ·have hjn:j=i:=by omega
       rw [hjn]
       refine ae (ae (ai (FI Y (FI Y (FH (cB Y) (FH (sF X (a6 Y Y)) (FL (aa (aA Y ?_)))))))))
       refine aV (av (av (aE (aF (aa (ai (FI Y (FH (bC _ 1 Y Y X) (FJ Y ?_)))))))))
       refine FL ?_
       refine aK ((k+1,iQ k i R,o*R k k)) (⟨hki,hnx'⟩) X FD (.keep FG (.keep FG (.keep FG (.keep FG (.nil)))))
     ·refine ae (ae (ai (FI Y (FI Y (FH (cB Y) (FH (sT X (a6 Y Y)) (FI Y (FK (ab Y) (FK (ab Y) ?_)))))))))
      refine FK (aq Y Y X) (FK (bg 1 Y Y X) (FK (ab Y) (FK (aC Y Y X) (FK (aN Y) ?_))))
      refine FK (am (ig _) Y ⟨S,FM⟩) ?_
      refine FK (sF (by assumption) (bV Y Y)) (FH (a5 Y Y) (FL (aa (aA Y (aV (av (av (aE (aa ?_)))))))))
      refine ae (ae (ai (FI Y (FI Y (FH (cB Y) (FH (sF X (bV Y Y)) (FL (aa (aA Y ?_)))))))))
      refine aw (aa (ae (ae (ai (FI Y (FI Y (FH (sT X (dj Y Y)) (FL (aa ?_)))))))))
      refine aD Y (ae ?_)
      apply jl (Γ1 := [(2,_),(4,_),(5,_),(7,_)]) (M1 := [_,_,_,_]) 12 7 [2,3] [] a4 Z U
      ·refine FI Y (FI Y (FI Y (FI Y (FI Y (FI Y (FH (aq Y Y X) (FH (bg 1 Y Y X) (FI Y (FI Y ?_)))))))))
       refine FH (aq Y Y X) (FH (bg 1 Y Y X) (FL ?_))
       refine zD (Γa := [(2,_),(4,_),(5,_),(7,_),(8,_),(65,_),(66,_),(72,_),(76,_)]) (Γb := [(2,_),(4,_),(5,_),(7,_),(8,_),(65,_),(66,_),(72,_),(76,_),(68,_)]) (Γc := [(2,_),(4,_),(5,_),(7,_),(8,_),(65,_),(66,_),(72,_),(76,_),(67,_)]) (Γd := [(2,_),(4,_),(5,_),(7,_),(8,_),(65,_),(66,_),(72,_),(76,_),(67,_),(68,_)]) (rem := [12,13,14,15]) Y FF Y FF Y FF Y FF Y ?_ ?_ ?_ ?_
       ·refine eM (r1 := [3,12,13,14,15]) (r2 := [2,12,13,14,15]) (r3 := [2,3,13,14,15]) (i:=2) (j:=3) (k:=12) Z Y Y Y Y Y Y ?_ ?_ ?_ jk.nil
        refine FI Y (FL ?_)
        refine ⟨rfl,?_⟩
        refine bQ (rem' := [12,13,14,15]) (rem'' := [3,13,14,15]) (i:=3) (j:=12) Z Y Y Y Y ?_ ?_ jk.nil
        refine FI Y (FL ?_)
        refine ⟨rfl,?_⟩
        refine ao (rem' := [13,14,15]) (i:=12) Z Y Y ?_ jk.nil
        refine FH (aq Y Y X) (FL ?_)
        refine ⟨rfl,?_⟩
        refine ao (rem' := [14,15]) (i:=13) Z Y Y ?_ jk.nil
        (refine az 1 Y Y Y ?_ Y ?_;omega)
        refine FL ?_
        refine ⟨rfl,?_⟩
        refine ao (rem' := [15]) (i:=14) Z Y Y ?_ jk.nil
        refine FH (aq Y Y X) (FL ?_)
        refine ⟨rfl,?_⟩
        refine ao (rem' := []) (i:=15) Z Y Y ?_ jk.nil
        (refine az 1 Y Y Y ?_ Y ?_;omega)
        refine FL ?_
        refine ⟨rfl,?_⟩
        refine aW FF (SubM.refl _) jk.nil
        refine FH (aq Y Y X) (FL ?_)
        refine ⟨rfl,?_⟩
        refine bQ (rem' := [13,14,15]) (rem'' := [3,14,15]) (i:=3) (j:=13) Z Y Y Y Y ?_ ?_ jk.nil
        refine FI Y (FL ?_)
        refine ⟨rfl,?_⟩
        refine ao (rem' := [14,15]) (i:=13) Z Y Y ?_ jk.nil
        (refine az 1 Y Y Y ?_ Y ?_;omega)
        refine FL ?_
        refine ⟨rfl,?_⟩
        refine ao (rem' := [15]) (i:=14) Z Y Y ?_ jk.nil
        refine FH (aq Y Y X) (FL ?_)
        refine ⟨rfl,?_⟩
        refine ao (rem' := []) (i:=15) Z Y Y ?_ jk.nil
        (refine az 1 Y Y Y ?_ Y ?_;omega)
        refine FL ?_
        refine ⟨rfl,?_⟩
        refine aW FF (SubM.refl _) jk.nil
        (refine az 1 Y Y Y ?_ Y ?_;omega)
        refine FL ?_
        refine ⟨rfl,?_⟩
        refine ao (rem' := [14,15]) (i:=3) Z Y Y ?_ jk.nil
        refine FI Y (FL ?_)
        refine ⟨rfl,?_⟩
        refine ao (rem' := [15]) (i:=14) Z Y Y ?_ jk.nil
        refine FH (aq Y Y X) (FL ?_)
        refine ⟨rfl,?_⟩
        refine ao (rem' := []) (i:=15) Z Y Y ?_ jk.nil
        (refine az 1 Y Y Y ?_ Y ?_;omega)
        refine FL ?_
        refine ⟨rfl,?_⟩
        refine aW FF (SubM.refl _) jk.nil
        refine FI Y (FL ?_)
        refine ⟨rfl,?_⟩
        refine bQ (rem' := [12,13,14,15]) (rem'' := [2,13,14,15]) (i:=2) (j:=12) Z Y Y Y Y ?_ ?_ jk.nil
        refine FI Y (FL ?_)
        refine ⟨rfl,?_⟩
        refine ao (rem' := [13,14,15]) (i:=12) Z Y Y ?_ jk.nil
        refine FH (aq Y Y X) (FL ?_)
        refine ⟨rfl,?_⟩
        refine ao (rem' := [14,15]) (i:=13) Z Y Y ?_ jk.nil
        (refine az 1 Y Y Y ?_ Y ?_;omega)
        refine FL ?_
        refine ⟨rfl,?_⟩
        refine ao (rem' := [15]) (i:=14) Z Y Y ?_ jk.nil
        refine FH (aq Y Y X) (FL ?_)
        refine ⟨rfl,?_⟩
        refine ao (rem' := []) (i:=15) Z Y Y ?_ jk.nil
        (refine az 1 Y Y Y ?_ Y ?_;omega)
        refine FL ?_
        refine ⟨rfl,?_⟩
        refine aW FF (SubM.refl _) jk.nil
        refine FH (aq Y Y X) (FL ?_)
        refine ⟨rfl,?_⟩
        refine bQ (rem' := [13,14,15]) (rem'' := [2,14,15]) (i:=2) (j:=13) Z Y Y Y Y ?_ ?_ jk.nil
        refine FI Y (FL ?_)
        refine ⟨rfl,?_⟩
        refine ao (rem' := [14,15]) (i:=13) Z Y Y ?_ jk.nil
        (refine az 1 Y Y Y ?_ Y ?_;omega)
        refine FL ?_
        refine ⟨rfl,?_⟩
        refine ao (rem' := [15]) (i:=14) Z Y Y ?_ jk.nil
        refine FH (aq Y Y X) (FL ?_)
        refine ⟨rfl,?_⟩
        refine ao (rem' := []) (i:=15) Z Y Y ?_ jk.nil
        (refine az 1 Y Y Y ?_ Y ?_;omega)
        refine FL ?_
        refine ⟨rfl,?_⟩
        refine aW FF (SubM.refl _) jk.nil
        (refine az 1 Y Y Y ?_ Y ?_;omega)
        refine FL ?_
        refine ⟨rfl,?_⟩
        refine ao (rem' := [14,15]) (i:=2) Z Y Y ?_ jk.nil
        refine FI Y (FL ?_)
        refine ⟨rfl,?_⟩
        refine ao (rem' := [15]) (i:=14) Z Y Y ?_ jk.nil
        refine FH (aq Y Y X) (FL ?_)
        refine ⟨rfl,?_⟩
        refine ao (rem' := []) (i:=15) Z Y Y ?_ jk.nil
        (refine az 1 Y Y Y ?_ Y ?_;omega)
        refine FL ?_
        refine ⟨rfl,?_⟩
        refine aW FF (SubM.refl _) jk.nil
        refine FH (aq Y Y X) (FL ?_)
        refine ⟨rfl,?_⟩
        refine eM (r1 := [3,13,14,15]) (r2 := [2,13,14,15]) (r3 := [2,3,14,15]) (i:=2) (j:=3) (k:=13) Z Y Y Y Y Y Y ?_ ?_ ?_ jk.nil
        refine FI Y (FL ?_)
        refine ⟨rfl,?_⟩
        refine bQ (rem' := [13,14,15]) (rem'' := [3,14,15]) (i:=3) (j:=13) Z Y Y Y Y ?_ ?_ jk.nil
        refine FI Y (FL ?_)
        refine ⟨rfl,?_⟩
        refine ao (rem' := [14,15]) (i:=13) Z Y Y ?_ jk.nil
        (refine az 1 Y Y Y ?_ Y ?_;omega)
        refine FL ?_
        refine ⟨rfl,?_⟩
        refine ao (rem' := [15]) (i:=14) Z Y Y ?_ jk.nil
        refine FH (aq Y Y X) (FL ?_)
        refine ⟨rfl,?_⟩
        refine ao (rem' := []) (i:=15) Z Y Y ?_ jk.nil
        (refine az 1 Y Y Y ?_ Y ?_;omega)
        refine FL ?_
        refine ⟨rfl,?_⟩
        refine aW FF (SubM.refl _) jk.nil
        (refine az 1 Y Y Y ?_ Y ?_;omega)
        refine FL ?_
        refine ⟨rfl,?_⟩
        refine ao (rem' := [14,15]) (i:=3) Z Y Y ?_ jk.nil
        refine FI Y (FL ?_)
        refine ⟨rfl,?_⟩
        refine ao (rem' := [15]) (i:=14) Z Y Y ?_ jk.nil
        refine FH (aq Y Y X) (FL ?_)
        refine ⟨rfl,?_⟩
        refine ao (rem' := []) (i:=15) Z Y Y ?_ jk.nil
        (refine az 1 Y Y Y ?_ Y ?_;omega)
        refine FL ?_
        refine ⟨rfl,?_⟩
        refine aW FF (SubM.refl _) jk.nil
        refine FI Y (FL ?_)
        refine ⟨rfl,?_⟩
        refine bQ (rem' := [13,14,15]) (rem'' := [2,14,15]) (i:=2) (j:=13) Z Y Y Y Y ?_ ?_ jk.nil
        refine FI Y (FL ?_)
        refine ⟨rfl,?_⟩
        refine ao (rem' := [14,15]) (i:=13) Z Y Y ?_ jk.nil
        (refine az 1 Y Y Y ?_ Y ?_;omega)
        refine FL ?_
        refine ⟨rfl,?_⟩
        refine ao (rem' := [15]) (i:=14) Z Y Y ?_ jk.nil
        refine FH (aq Y Y X) (FL ?_)
        refine ⟨rfl,?_⟩
        refine ao (rem' := []) (i:=15) Z Y Y ?_ jk.nil
        (refine az 1 Y Y Y ?_ Y ?_;omega)
        refine FL ?_
        refine ⟨rfl,?_⟩
        refine aW FF (SubM.refl _) jk.nil
        (refine az 1 Y Y Y ?_ Y ?_;omega)
        refine FL ?_
        refine ⟨rfl,?_⟩
        refine ao (rem' := [14,15]) (i:=2) Z Y Y ?_ jk.nil
        refine FI Y (FL ?_)
        refine ⟨rfl,?_⟩
        refine ao (rem' := [15]) (i:=14) Z Y Y ?_ jk.nil
        refine FH (aq Y Y X) (FL ?_)
        refine ⟨rfl,?_⟩
        refine ao (rem' := []) (i:=15) Z Y Y ?_ jk.nil
        (refine az 1 Y Y Y ?_ Y ?_;omega)
        refine FL ?_
        refine ⟨rfl,?_⟩
        refine aW FF (SubM.refl _) jk.nil
        (refine az 1 Y Y Y ?_ Y ?_;omega)
        refine FL ?_
        refine ⟨rfl,?_⟩
        refine bQ (rem' := [3,14,15]) (rem'' := [2,14,15]) (i:=2) (j:=3) Z Y Y Y Y ?_ ?_ jk.nil
        refine FI Y (FL ?_)
        refine ⟨rfl,?_⟩
        refine ao (rem' := [14,15]) (i:=3) Z Y Y ?_ jk.nil
        refine FI Y (FL ?_)
        refine ⟨rfl,?_⟩
        refine ao (rem' := [15]) (i:=14) Z Y Y ?_ jk.nil
        refine FH (aq Y Y X) (FL ?_)
        refine ⟨rfl,?_⟩
        refine ao (rem' := []) (i:=15) Z Y Y ?_ jk.nil
        (refine az 1 Y Y Y ?_ Y ?_;omega)
        refine FL ?_
        refine ⟨rfl,?_⟩
        refine aW FF (SubM.refl _) jk.nil
        refine FI Y (FL ?_)
        refine ⟨rfl,?_⟩
        refine ao (rem' := [14,15]) (i:=2) Z Y Y ?_ jk.nil
        refine FI Y (FL ?_)
        refine ⟨rfl,?_⟩
        refine ao (rem' := [15]) (i:=14) Z Y Y ?_ jk.nil
        refine FH (aq Y Y X) (FL ?_)
        refine ⟨rfl,?_⟩
        refine ao (rem' := []) (i:=15) Z Y Y ?_ jk.nil
        (refine az 1 Y Y Y ?_ Y ?_;omega)
        refine FL ?_
        refine ⟨rfl,?_⟩
        refine aW FF (SubM.refl _) jk.nil
       ·refine bQ (rem' := [12,13,14,15]) (rem'' := [2,13,14,15]) (i:=2) (j:=12) Z Y Y Y Y ?_ ?_ jk.nil
        refine FI Y (FL ?_)
        refine ⟨rfl,?_⟩
        refine ao (rem' := [13,14,15]) (i:=12) Z Y Y ?_ jk.nil
        refine FH (aq Y Y X) (FL ?_)
        refine ⟨rfl,?_⟩
        refine ao (rem' := [14,15]) (i:=13) Z Y Y ?_ jk.nil
        (refine az 1 Y Y Y ?_ Y ?_;omega)
        refine FL ?_
        refine ⟨rfl,?_⟩
        refine ao (rem' := [15]) (i:=14) Z Y Y ?_ jk.nil
        refine FH (aq Y Y X) (FL ?_)
        refine ⟨rfl,?_⟩
        refine ao (rem' := []) (i:=15) Z Y Y ?_ jk.nil
        (refine az 1 Y Y Y ?_ Y ?_;omega)
        refine FL ?_
        refine ⟨rfl,?_⟩
        refine aW FF (SubM.refl _) jk.nil
        refine FH (aq Y Y X) (FL ?_)
        refine ⟨rfl,?_⟩
        refine bQ (rem' := [13,14,15]) (rem'' := [2,14,15]) (i:=2) (j:=13) Z Y Y Y Y ?_ ?_ jk.nil
        refine FI Y (FL ?_)
        refine ⟨rfl,?_⟩
        refine ao (rem' := [14,15]) (i:=13) Z Y Y ?_ jk.nil
        (refine az 1 Y Y Y ?_ Y ?_;omega)
        refine FL ?_
        refine ⟨rfl,?_⟩
        refine ao (rem' := [15]) (i:=14) Z Y Y ?_ jk.nil
        refine FH (aq Y Y X) (FL ?_)
        refine ⟨rfl,?_⟩
        refine ao (rem' := []) (i:=15) Z Y Y ?_ jk.nil
        (refine az 1 Y Y Y ?_ Y ?_;omega)
        refine FL ?_
        refine ⟨rfl,?_⟩
        refine aW FF (SubM.refl _) jk.nil
        (refine az 1 Y Y Y ?_ Y ?_;omega)
        refine FL ?_
        refine ⟨rfl,?_⟩
        refine ao (rem' := [14,15]) (i:=2) Z Y Y ?_ jk.nil
        refine FI Y (FL ?_)
        refine ⟨rfl,?_⟩
        refine ao (rem' := [15]) (i:=14) Z Y Y ?_ jk.nil
        refine FH (aq Y Y X) (FL ?_)
        refine ⟨rfl,?_⟩
        refine ao (rem' := []) (i:=15) Z Y Y ?_ jk.nil
        (refine az 1 Y Y Y ?_ Y ?_;omega)
        refine FL ?_
        refine ⟨rfl,?_⟩
        refine aW FF (SubM.refl _) jk.nil
       ·refine bQ (rem' := [12,13,14,15]) (rem'' := [3,13,14,15]) (i:=3) (j:=12) Z Y Y Y Y ?_ ?_ jk.nil
        refine FI Y (FL ?_)
        refine ⟨rfl,?_⟩
        refine ao (rem' := [13,14,15]) (i:=12) Z Y Y ?_ jk.nil
        refine FH (aq Y Y X) (FL ?_)
        refine ⟨rfl,?_⟩
        refine ao (rem' := [14,15]) (i:=13) Z Y Y ?_ jk.nil
        (refine az 1 Y Y Y ?_ Y ?_;omega)
        refine FL ?_
        refine ⟨rfl,?_⟩
        refine ao (rem' := [15]) (i:=14) Z Y Y ?_ jk.nil
        refine FH (aq Y Y X) (FL ?_)
        refine ⟨rfl,?_⟩
        refine ao (rem' := []) (i:=15) Z Y Y ?_ jk.nil
        (refine az 1 Y Y Y ?_ Y ?_;omega)
        refine FL ?_
        refine ⟨rfl,?_⟩
        refine aW FF (SubM.refl _) jk.nil
        refine FH (aq Y Y X) (FL ?_)
        refine ⟨rfl,?_⟩
        refine bQ (rem' := [13,14,15]) (rem'' := [3,14,15]) (i:=3) (j:=13) Z Y Y Y Y ?_ ?_ jk.nil
        refine FI Y (FL ?_)
        refine ⟨rfl,?_⟩
        refine ao (rem' := [14,15]) (i:=13) Z Y Y ?_ jk.nil
        (refine az 1 Y Y Y ?_ Y ?_;omega)
        refine FL ?_
        refine ⟨rfl,?_⟩
        refine ao (rem' := [15]) (i:=14) Z Y Y ?_ jk.nil
        refine FH (aq Y Y X) (FL ?_)
        refine ⟨rfl,?_⟩
        refine ao (rem' := []) (i:=15) Z Y Y ?_ jk.nil
        (refine az 1 Y Y Y ?_ Y ?_;omega)
        refine FL ?_
        refine ⟨rfl,?_⟩
        refine aW FF (SubM.refl _) jk.nil
        (refine az 1 Y Y Y ?_ Y ?_;omega)
        refine FL ?_
        refine ⟨rfl,?_⟩
        refine ao (rem' := [14,15]) (i:=3) Z Y Y ?_ jk.nil
        refine FI Y (FL ?_)
        refine ⟨rfl,?_⟩
        refine ao (rem' := [15]) (i:=14) Z Y Y ?_ jk.nil
        refine FH (aq Y Y X) (FL ?_)
        refine ⟨rfl,?_⟩
        refine ao (rem' := []) (i:=15) Z Y Y ?_ jk.nil
        (refine az 1 Y Y Y ?_ Y ?_;omega)
        refine FL ?_
        refine ⟨rfl,?_⟩
        refine aW FF (SubM.refl _) jk.nil
       ·refine ao (rem' := [13,14,15]) (i:=12) Z Y Y ?_ jk.nil
        refine FH (aq Y Y X) (FL ?_)
        refine ⟨rfl,?_⟩
        refine ao (rem' := [14,15]) (i:=13) Z Y Y ?_ jk.nil
        (refine az 1 Y Y Y ?_ Y ?_;omega)
        refine FL ?_
        refine ⟨rfl,?_⟩
        refine ao (rem' := [15]) (i:=14) Z Y Y ?_ jk.nil
        refine FH (aq Y Y X) (FL ?_)
        refine ⟨rfl,?_⟩
        refine ao (rem' := []) (i:=15) Z Y Y ?_ jk.nil
        (refine az 1 Y Y Y ?_ Y ?_;omega)
        refine FL ?_
        refine ⟨rfl,?_⟩
        refine aW FF (SubM.refl _) jk.nil
      ·have hkk:swp a k R k k≠0:=by rw [iw]; exact h0
       have hnx':RdI α i (k+1) F (iQ k i (swp a k R)) (-o*swp a k R k k):=by rw [if_neg hak] at hnx;rw [iw]; exact hnx
       have hq1:=Bf (i:=a) (k:=k) hI.q
       have hq2:=sA hI.o
       have hneg:=uo o (hI.o.1.small X)
       refine io (dV.refl _) (.keep FG (.keep (CY hak) (SubM.refl _))) ?_
       have hmul:=mV (-o) ((swp a k R) k k) (rdB α k) (rdB α k) hq2 (hq1 k k) X
       refine aa (ai (FH (ak 0 Y Y Y) ?_))
       refine FH (am (hneg) Y ⟨S,FM⟩) ?_
       refine aB 0 Y Y Y Y Y (leN Y) Y (FL (aa (ae (be 9 a4 Z U (FH (ak 0 Y Y Y) (FI Y (FI Y (FH (aq Y Y X) (FH (bg 1 Y Y X) ?_)))))))))
       refine FI Y (FH (aC Y Y X) (FH (aN Y) ?_))
       refine FH (am (hmul) Y ⟨S,S,FM⟩) ?_
       refine FL (aB 0 Y Y Y Y Y (leN Y) Y (FL (aa (ae (ai (FI Y (FH (bC _ 1 Y Y X) (FJ Y (FL ?_)))))))))
       refine aa (au (cf (Γ' := [(2,_),(4,_),(5,_),(7,_),(9,_)]) FC (SubM.refl _) ?_))
       refine bk (σ:=Nat) (Γk := [(2,_),(4,_),(5,_),(7,_)]) FC (fun j => [(9,one (.int .i64 (j:Nat)))]) (fun j M0=>(M0.set 1 (aH (some bs) 39 .one cap i (fun q=>cN i (iQ k j (swp a k R) q))))) (fun j=>k+1≤j∧j≤i) (fun j=>i - j) (k+1) (⟨Nat.le_refl _,hki⟩) FD (.keep FG (.keep (by (rw [rg]; exact Own.le_refl _)) (.keep FG (.keep FG (.nil))))) (fun j hj => ?_)
       refine bI (Γ' := [(9,_),(2,_),(4,_),(5,_),(7,_)]) (M' := [_,_,_,_]) Y Y ?_
       obtain ⟨hj1,hj2⟩:=hj
       by_cases hji:j<i
       ·have hov:=ii ((swp a k R) j k) ((swp a k R) k k) (rdB α k) (rdB α k) (hq1 j k) (hq1 k k) X hkk
        have hl:=nH i i ((swp a k R) j) ((swp a k R) k) ((swp a k R) j k / (swp a k R) k k) (rdB α k) (rdB α k) (rdB α k+rdB α k) X (Nat.le_refl _) (fun q _=>hq1 j q) (fun q _=>hq1 k q) (jX (hq1 j k) (hq1 k k) hkk) X
        unfold cN at hl ⊢
        refine ae (ae (ai (FI Y (FI Y (FH (cB Y) (FH (sT X (a6 Y Y)) (FL (aa (aD Y ?_)))))))))
        refine aw (aa (ae (au (be 26 a4 Z U (FI Y (FI Y (FI Y (FI Y (FH (aq Y Y X) ?_)))))))))
        refine FH (bg 1 Y Y X) (FI Y (FI Y (FH (aq Y Y X) (FH (bg 1 Y Y X) (FI Y (FI Y (FH (aq Y Y X) (FH (bg 1 Y Y X) (FI Y ?_)))))))))
        refine FH (aC Y Y X) (FH (aN Y) (FI Y (FI Y (FH (aq Y Y X) (FH (bg 1 Y Y X) (FI Y (FH (aC Y Y X) (FH (aN Y) ?_))))))))
        refine FH (am (hov) Y ⟨(by (simp only [kM,n8]; exact VT.le_refl _)),(by (simp only [kM,n8]; exact VT.le_refl _)),FM⟩) ?_
        refine FH (am (hl) Y ⟨(by (simp only [kM,n8]; exact VT.le_refl _)),(by (simp only [kM,n8]; exact VT.le_refl _)),S,FM⟩) ?_
        refine FL (FH (aq Y Y X) ?_)
        (refine az 1 Y Y Y ?_ Y ?_;omega)
        refine FL (aF (aa (ai (FI Y (FH (bC _ 1 Y Y X) (FJ Y (FL ?_)))))))
        refine aK (j+1) (⟨by omega,hji⟩) X FD (.keep FG (.keep (xa X) (.keep FG (.keep FG (.nil)))))
       ·have hjn:j=i:=by omega
        rw [hjn]
        refine ae (ae (ai (FI Y (FI Y (FH (cB Y) (FH (sF X (a6 Y Y)) (FL (aa (aA Y ?_)))))))))
        refine aV (av (av (aE (aF (aa (ai (FI Y (FH (bC _ 1 Y Y X) (FJ Y ?_)))))))))
        refine FL ?_
        refine aK ((k+1,iQ k i (swp a k R),(-o)*(swp a k R) k k)) (⟨hki,hnx'⟩) X FD (.keep FG (.keep FG (.keep FG (.keep FG (.nil)))))
   ·have hdz:=hI.d.zero hki (fun q h1 h2=>ha3 q h1 X)
    rw [hdz]
    refine ae (ae (ai (FI Y (FI Y (FH (cB Y) (FH (sF X (a6 Y Y)) (FI Y (sn0 Y Y Y Y Y (sn0 Y Y Y Y Y ?_)))))))))
    refine sn0 Y Y Y Y Y (sn0 Y Y Y Y Y (sn0 Y Y Y Y Y (sn0 Y Y Y Y Y (sn0 Y Y Y Y Y (sn0 Y Y Y Y Y (sn0 Y Y Y Y Y (FH (bG Y Y) (FL (aa ?_)))))))))
    refine aA Y (aV (av (av (aE (aa (ae (ae (ai (FI Y ?_)))))))))
    refine FI Y (FH (cB Y) (FH (sT X (bV Y Y)) (FL (aa (aD Y (ae (ai (stB Y Y Y (BuildK.nil ?_)))))))))
    refine aB 2 Y Y Y Y Y (leN Y) Y (FJ Y (FL (aa (aG (aS (bJ (aS (aS (bJ ?_)))))))))
    refine aS ?_
    refine c9 Tryz.results66 (.cellB 2 Y Y Y (ld)) (.tmp Y S)
  ·have hki2:k=i:=by omega
   subst hki2
   have ho:=hI.d.done
   rw [ho]
   unfold cj dN
   refine ae (ae (ai (FI Y (FI Y (FH (cB Y) (FH (sF X (a6 Y Y)) (FL (aa (aA Y ?_)))))))))
   refine aV (av (av (aE (aa (ae (ai (FH (aj Y) (FH (fV 0 0 0 Y Y Y Y Y) (aB 2 Y Y Y Y Y (leN Y) Y ?_)))))))))
   refine FJ Y (FL (aa (aG ?_)))
   refine c9 Tryz.results66 (.cellB 2 Y Y Y S) (.tmp Y S)
end Tor
end
section
namespace Tor
open Go Go.RowKit Go.Proofs
theorem CZ (q m:Nat):upd (fun q=>cj ((0:Int):Rat)) m (cj ((1:Int):Rat)) q=cj (if (q:Int)=(m:Int) then 1 else 0):=by
 show (if q=m then cj ((1:Int):Rat) else cj ((0:Int):Rat))=_
 by_cases h:q=m
 ·rw [if_pos h,if_pos X]; rfl
 ·rw [if_neg h,if_neg X]; rfl
attribute [local irreducible] J PJ aM one slT bW bH bj exT cn eP aX aH slV VT.le Ret bP xO
attribute [local irreducible] aO cj
theorem vR (n:Nat) (F:Nat→Nat→Int) (α:Nat) (hn:n≤1024) (hα:1≤α) (hF : ∀ i j,lz α (F i j)) (hz:rdB α n≤1099511627700):Ok Tryz.prog 20 [bO n n F] (aO (Lin.bK n F)):=by
 have h:=Bh n F α hn hα hF hz
 refine Ok.enter Tryz.func20 Y Tryz.ntmps20 Y (fun w O => ?_)
 refine ae (ai ?_)
 refine aQ Y Y (ltN Y) (fun b1 => ?_)
 refine aJ (T:=37) Y (ltN Y) (fun b2 => ?_)
 refine FL (aa (ae (ai (FH (aI 1 Y Y) ?_))))
 refine FH (am (h) Y ⟨S,FM⟩) ?_
 refine FI Y (FH (an Y Y) (FH (an Y Y) ?_))
 refine aJ (T:=37) Y (ltN Y) (fun b3 => ?_)
 refine aB 0 Y Y Y Y Y (leN Y) Y (FJ Y (FL (aa (ae (ai (FH (ak 0 Y Y Y) (aB 1 Y Y Y Y Y (leN Y) Y (FL (aa ?_)))))))))
 refine aG ?_
 refine aT Tryz.results20 (.cellB 1 Y Y Y S)
theorem yM (n:Nat) (k:Int) (hn:n≤1048576):Ok Tryz.prog 108 [one (.int .i64 (n:Nat)),one (.int .i64 k)] (cN n (fun i=>if (i:Int)=k then 1 else 0)):=by
 have h0:=eR 0 U U
 have h1:=eR 1 U U
 unfold cN
 refine Ok.enter Tryz.func108 Y Tryz.ntmps108 Y (fun w O => ?_)
 refine ae (ai (FJ Y (FL (aa (ae (ai (iL (n:=0) Y Y Y Y Y ?_)))))))
 refine PartsK.nil (fun bl => ?_)
 refine FJ Y (FL (aa (ae (ae (ai (FJ Y (FL (aa (au ?_)))))))))
 refine cf (Γ' := [(0,_),(1,_),(4,_),(5,_),(6,_)]) FC (SubM.refl _) ?_
 refine bk (σ:=Nat × Option Nat × Nat) (Γk := [(0,_),(1,_),(4,_)]) FC (fun s => [(6,one (.int .i64 (s.1:Nat))),(5,one (slV s.2.1 s.1 s.2.2))]) (fun s M0=>(M0.set 0 (aH s.2.1 58 (.agg 4) s.2.2 s.1 (fun q=>cj ((0:Int):Rat))))) (fun s=>s.1≤n) (fun s=>n - s.1) ((0,some bl,0)) (Nat.zero_le _) FD (.keep (a7 (fun q hq=>absurd hq (Nat.not_lt_zero _))) (.nil)) (fun s hs => ?_)
 refine bI (Γ' := [(6,_),(5,_),(0,_),(1,_),(4,_)]) (M' := [_]) Y Y ?_
 obtain ⟨i,sv,cap⟩:=s
 dsimp only at hs ⊢
 by_cases hi:i<n
 ·refine ae (ae (ai (FI Y (FI Y (FH (sT X (a6 Y Y)) (FL (aa (aD Y (aw ?_)))))))))
  refine aa (ae (au (ai (FI Y ?_))))
  refine FH (am (h0) Y ⟨S,FM⟩) ?_
  refine eH Y Y Y Y ?_
  (refine cq 0 Y Y Y (leN Y) ?_ ?_ Y (ltN Y) (fun sv16 cap16 => ?_);omega;omega)
  refine FJ Y (FL (aF (aa (ai (FI Y (FH (bC _ 1 Y Y X) (FJ Y (FL ?_))))))))
  refine aK ((i+1,sv16,cap16)) (hi) X FD (.keep (a7 (fun q hq=>by split <;> rfl)) (.nil))
 ·have he:i=n:=by omega
  subst he
  refine iS (i:=0) (F:=sv=none→i=0) Y (fun g h hp he=>e6 hp he) (fun hsv => ?_)
  by_cases hk0:0≤k
  ·by_cases hk1:k<(i:Int)
   ·obtain ⟨bs,rfl⟩:=fu hsv X
    obtain ⟨m,rfl⟩ : ∃ m:Nat,k=(m:Int):=⟨k.toNat,by omega⟩
    refine ae (ae (ai (FI Y (FI Y (FH (sF X (a6 Y Y)) (FL (aa (aA Y (aV ?_)))))))))
    refine av (av (aE (aa (ae (ae (ai (FI Y (FH (sT (by assumption) (eu Y Y)) (FI Y ?_)))))))))
    refine FK (ab Y) (FK (ab Y) (FK (sT (by assumption) (a6 Y Y)) (FH (a5 Y Y) (FL (aa (aD Y (ai (FI Y (FI Y ?_)))))))))
    refine FH (am (h1) Y ⟨S,FM⟩) ?_
    refine FH (aq Y Y X) ?_
    (refine az 0 Y Y Y ?_ Y ?_;omega)
    refine FL (aa (ae (ai (FI Y (FJ Y (FL (aa (aG (bZ (t:=4) (i:=0) Y Y ?_)))))))))
    refine aT Tryz.results108 (.tmp Y (dE (fun q hq=>fK (CZ q m))))
   ·refine ae (ae (ai (FI Y (FI Y (FH (sF X (a6 Y Y)) (FL (aa (aA Y (aV ?_)))))))))
    refine av (av (aE (aa (ae (ae (ai (FI Y (FH (sT (by assumption) (eu Y Y)) (FI Y ?_)))))))))
    refine FK (ab Y) (FK (ab Y) (FK (sF (by assumption) (a6 Y Y)) (FH (a5 Y Y) (FL (aa (aA Y (aw (aa (ae ?_)))))))))
    refine ai (FI Y (FJ Y (FL (aa (aG (bZ (t:=4) (i:=0) Y Y ?_))))))
    refine aT Tryz.results108 (.tmp Y (dE (fun q hq=>fK (by rw [if_neg X]; rfl))))
  ·refine ae (ae (ai (FI Y (FI Y (FH (sF X (a6 Y Y)) (FL (aa (aA Y (aV ?_)))))))))
   refine av (av (aE (aa (ae (ae (ai (FI Y (FH (sF (by assumption) (eu Y Y)) (FI Y ?_)))))))))
   refine sn0 Y Y Y Y Y (sn0 Y Y Y Y Y (sn0 Y Y Y Y Y (FH (bG Y Y) (FL (aa (aA Y (aw (aa (ae ?_)))))))))
   refine ai (FI Y (FJ Y (FL (aa (aG (bZ (t:=4) (i:=0) Y Y ?_))))))
   refine aT Tryz.results108 (.tmp Y (dE (fun q hq=>fK (by rw [if_neg X]; rfl))))
end Tor
end
section
namespace Tor
open Go Go.RowKit Go.Proofs
def fl (c:Nat) (l:List Int):Nat→Nat→Int:=fun i j=>l.getD (i*c+j) 0
def IN (r c:Nat) (l:List Int):VT:=bO r c (fl c l)
theorem Bi {l:List Int} (h:(l.all fun x=>decide (-9223372036854775808≤x) && decide (x≤9223372036854775807))=true) : ∀ x∈l, -9223372036854775808≤x∧x≤9223372036854775807:=fun x hx=>by
 have:=List.all_eq_true.1 h x hx
 simpa using this
theorem lj (r c:Nat) (l:List Int) (hr:r≤1048576) (hc:c≤1048576) (h:(l.all fun x=>decide (-9223372036854775808≤x) && decide (x≤9223372036854775807))=true):Ok Tryz.prog 43 [one (.int .i64 r),one (.int .i64 c),gZ .i64 l] (IN r c l):=Al r c l hr hc (Bi h)
end Tor
end
section
namespace Tor
open Go Go.RowKit Go.Proofs
abbrev Ff (l:List Int):VT:=slT .one l.length (fun q=>one (.int .i64 (l.getD q 0)))
theorem jc (l:List Int):VT.le (slT .one l.length (fun q=>(l.map fun x=>one (.int .i64 x)).getD q bP)) (Ff l):=by
 refine dE fun i hi => ?_
 simp only [List.getD,List.getElem?_map,List.getElem?_eq_getElem hi,Option.map_some,Option.getD_some]
 exact VT.le_refl _
theorem jB (x:Int):VT.le (slT .one 1 (fun _=>one (.int .i64 x))) (Ff [x]):=cI Y fun q hq=>by
 have hq:q<1:=hq
 rw [show q=0 by omega]; rfl
attribute [local irreducible] J PJ aM one slT bW bH bj exT cn eP aX aH slV VT.le Ret bP xO
attribute [local irreducible] aO cj
theorem Bj (r c:Nat) (hr:r≤1048576) (hc:c≤1048576):Ok Tryz.prog 45 [one (.int .i64 r),one (.int .i64 c)] (bO r c (fun _ _=>0)):=(oC r c hr hc).ok fun s=>pG _ s
theorem iJ (n m:Nat) (l k:Nat→Rat) (hn:n≤1048576):Ok Tryz.prog 17 [cN n l,cN m k] (one (.bool (decide (n=m ∧ ∀ i,i<n→l i=k i)))):=yJ n m l k hn
attribute [local irreducible] bO bw cN
end Tor
end
section
namespace Tor
open Go Go.RowKit Go.Proofs
theorem rh (n:Nat) (f:Nat→Int):((bD n f:Int):Rat)=Lin.sm n (fun i=>(f i:Rat)):=by
 induction n with
 | zero => rfl
 | succ n ih => rw [lc, Lin.sm, Rat.intCast_add, ih]
attribute [local irreducible] J PJ aM one slT bW bH bj exT cn eP aX aH slV VT.le Ret bP xO
attribute [local irreducible] aO cj bw cN
end Tor
end
section
namespace Tor
open Go Go.RowKit Go.Proofs
theorem C0 (n:Nat) (F:Nat→Nat→Int):Lin.bK n (fun i j=>F j i)=Lin.bK n F:=by
 have h:((Lin.bK n (fun i j=>F j i):Int):Rat)=((Lin.bK n F:Int):Rat):=by
  rw [Lin.di,Lin.di]
  exact Lin.rS n Lin.fR (fun i j=>(F i j:Rat))
 exact_mod_cast h
theorem Fg {n:Nat} {F:Nat→Nat→Int} : (Lin.jn n n (fun i j=>F j i) n).length<n↔Lin.bK n F=0:=by
 rw [← C0, ← Lin.sc]
 obtain ⟨A,V,h⟩:=Lin.pJ n n false (fun i j=>F j i) n (Nat.le_refl _)
 unfold Lin.x9
 rw [← h.pl]
 have h0:=h.gj.d0
 constructor
 ·intro hl;rw [if_pos hl]
 ·intro hd
  refine Classical.byContradiction fun hl => ?_
  rw [if_neg hl] at hd
  split at hd <;> omega
end Tor
end
section
namespace Tor.Lin
open Tor
def up (i:Nat) (F:Nat→Nat→Rat):Nat→Nat→Rat:=fun a b=>if a=0 then F i b else F (skip i (a - 1)) b
theorem Bk : ∀ (i n:Nat) (F:Nat→Nat→Rat),i<n→det n (up i F)=sgn i*det n F
 | 0, n, F, h => by
  rw [show sgn 0=1 from rfl,Rat.one_mul]
  refine bM fun a b _ _ => ?_
  unfold up
  by_cases h0:a=0
  ·rw [if_pos h0,h0]
  ·rw [if_neg h0]; unfold skip;rw [if_neg X,show a - 1+1=a by omega]
 | i + 1, n, F, h => by
  have e:det n (up (i+1) F)=det n (up i (fun a b=>F (if a=i then i+1 else if a=i+1 then i else a) b)):=bM fun a b _ _=>by
   unfold up
   by_cases h0:a=0
   ·rw [if_pos h0,if_pos h0]; dsimp only;rw [if_pos Y]
   ·rw [if_neg h0,if_neg h0]
    congr 1
    unfold skip
    by_cases h1:a - 1<i
    ·rw [if_pos X,if_pos h1,if_neg X,if_neg X]
    ·rw [if_neg h1]
     by_cases h2:a - 1=i
     ·rw [if_pos X,if_neg X,if_pos X]; omega
     ·rw [if_neg X,if_neg X,if_neg X]
  rw [e,Bk i n _ X,nS X,my]
  grind
theorem Ft {m i:Nat} (hi:i<m+1) (F:Nat→Nat→Rat):sm (m+1) (fun j=>sgn j*F i j*det m (fun a b=>F (skip i a) (skip j b)))=sgn i*det (m+1) F:=by
 rw [← Bk i (m+1) F hi,det]
 exact aU fun j _=>rfl
theorem Bl (i:Nat):sgn i*sgn i=1:=by unfold sgn;split <;> grind
theorem C1 (i j:Nat):sgn (i+j)=sgn i*sgn j:=by
 induction j with
 | zero => rw [Nat.add_zero, show sgn 0 = 1 from rfl, Rat.mul_one]
 | succ j ih => rw [← Nat.add_assoc, my, my, ih]; grind
theorem C2 (i a:Nat):skip i a≠i:=by unfold skip;split <;> omega
theorem xb {m i l:Nat} (hi:i<m+1) (hl:l<m+1) (F:Nat→Nat→Rat):sm (m+1) (fun k=>F l k*(sgn (i+k)*det m (fun a b=>F (skip i a) (skip k b))))=if l=i then det (m+1) F else 0:=by
 have h:=Ft hi (fun a b=>if a=i then F l b else F a b)
 rw [aU (g:=fun k=>sgn i*(F l k*(sgn (i+k)*det m (fun a b=>F (skip i a) (skip k b))))) (fun k _=>by
  rw [if_pos Y,bM (G:=fun a b=>F (skip i a) (skip k b)) (fun a b _ _=>by rw [if_neg (C2 i a)]),C1]
  have:=Bl i
  grind),oz] at h
 have hq:=Bl i
 have e : ∀ FB D:Rat,sgn i*FB=sgn i*D→FB=D:=fun FB D h=>by
  have h2:sgn i*(sgn i*FB)=sgn i*(sgn i*D):=by rw [h]
  rw [← Rat.mul_assoc, ← Rat.mul_assoc,hq,Rat.one_mul,Rat.one_mul] at h2;exact h2
 rw [e _ _ h]
 by_cases hli:l=i
 ·rw [if_pos hli]
  exact bM fun a b _ _=>by
   by_cases ha:a=i
   ·rw [if_pos ha,ha,hli]
   ·rw [if_neg ha]
 ·rw [if_neg hli]
  rcases Nat.lt_or_ge l i with h1 | h1
  ·exact fD fR h1 hi (fun j _=>by rw [if_neg hli,if_pos Y])
  ·exact fD fR (show i<l by omega) hl (fun j _=>by rw [if_pos Y,if_neg hli])
theorem C3 {m i l:Nat} (hi:i<m+1) (hl:l<m+1) (F:Nat→Nat→Rat):sm (m+1) (fun k=>(sgn (k+i)*det m (fun a b=>F (skip k a) (skip i b)))*F k l)=if l=i then det (m+1) F else 0:=by
 have h:=xb hi hl (fun a b=>F b a)
 rw [rS (m+1) fR F] at h
 rw [← h]
 exact aU fun k _=>by
  rw [rS m fR (fun a b=>F (skip k a) (skip i b)),Nat.add_comm k i,Rat.mul_comm]
end Tor.Lin
namespace Tor
open Go Go.RowKit Go.Proofs
theorem ut (m:Nat) (F:Nat→Nat→Int) (i j:Nat):((cof (m+1) F i j:Int):Rat)=Lin.sgn (i+j)*Lin.det m (fun a b=>(F (Lin.skip i a) (Lin.skip j b):Rat)):=by
 unfold cof
 rw [Rat.intCast_mul,Lin.qI,Lin.di]; rfl
theorem lk (n:Nat) (F G:Nat→Nat→Int) (i j:Nat):((vr n F G i j:Int):Rat)=Lin.sm n (fun k=>(F i k:Rat)*(G k j:Rat)):=by
 show ((bD n (fun k=>F i k*G k j):Int):Rat)=_
 rw [rh]
 exact Lin.aU fun k _=>Rat.intCast_mul _ _
theorem oE {n:Nat} {F:Nat→Nat→Int} {i j:Nat} (h:j<n):fZ n F i j=F i j:=by unfold fZ;rw [if_pos h]
theorem uu {n:Nat} {F:Nat→Nat→Int} {i j:Nat} : fZ n F i (n+j)=if i=j then 1 else 0:=by
 unfold fZ;rw [if_neg X,show n+j - n=j by omega]
theorem uv (n:Nat) (F:Nat→Nat→Int) (i j:Nat) (hi:i<n) (hj:j<n) :
  vr n F (ol n F (elN n true (fZ n F) n)) i j=(if i=j then Lin.bK n F else 0)∧vr n (ol n F (elN n true (fZ n F) n)) F i j=(if i=j then Lin.bK n F else 0):=by
 obtain ⟨A,V,h⟩:=Lin.pJ n (n+n) true (fZ n F) n X
 generalize elN n true (fZ n F) n=e at *
 have hpr:=h.gj.pr
 by_cases hp:e.piv.length<n
 ·have hd0:Lin.bK n F=0:=by
   have hp':=hp
   rw [h.pl] at hp'
   obtain ⟨c,hc,hn⟩:=Lin.pK hp'
   obtain ⟨y,y1,y2,y3⟩:=Classical.not_not.1 hn
   have:=Lin.wQ (F:=fun i j=>(F i j:Rat)) hc y1 (fun i hi=>by
    have h3:=y3 i hi
    rw [Lin.AI,Lin.eZ (n:=n) (f:=fun k=>y (n+k)*(fZ n F i (n+k):Rat)) (fun k _=>by rw [y2 _ X,Rat.zero_mul]),Rat.add_zero] at h3
    rw [← h3]
    exact Lin.aU fun k hk=>by rw [oE hk])
   rw [← Lin.di] at this
   exact_mod_cast this
  by_cases hp1:e.piv.length<n - 1
  ·have ha : ∀ a b,ol n F e a b=0:=fun a b=>by unfold ol;rw [if_pos hp1]
   have z : ∀ f:Nat→Int,(∀ k,f k=0)→bD n f=0:=fun f hf=>by
    have:((bD n f:Int):Rat)=0:=by rw [rh]; exact Lin.eZ fun k _=>by rw [hf]; rfl
    exact_mod_cast this
   rw [hd0,ite_self]
   exact ⟨z _ fun k=>by rw [ha,Int.mul_zero],z _ fun k=>by rw [ha,Int.zero_mul]⟩
  ·have ha : ∀ a b,ol n F e a b=cof n F b a:=fun a b=>by unfold ol;rw [if_neg hp1,if_pos hp]
   obtain ⟨m,rfl⟩ : ∃ m,n=m+1:=⟨n - 1,by omega⟩
   constructor
   ·have:((vr (m+1) F (ol (m+1) F e) i j:Int):Rat)=(((if i=j then Lin.bK (m+1) F else 0):Int):Rat):=by
     rw [lk,Lin.aU (g:=fun k=>(F i k:Rat)*(Lin.sgn (j+k)*Lin.det m (fun a b=>(F (Lin.skip j a) (Lin.skip k b):Rat)))) (fun k _=>by rw [ha,ut])]
     rw [Lin.xb hj hi (fun a b=>(F a b:Rat))]
     by_cases hij:i=j
     ·rw [if_pos hij,if_pos hij,Lin.di]
     ·rw [if_neg hij,if_neg hij]; rfl
    exact_mod_cast this
   ·have:((vr (m+1) (ol (m+1) F e) F i j:Int):Rat)=(((if i=j then Lin.bK (m+1) F else 0):Int):Rat):=by
     rw [lk,Lin.aU (g:=fun k=>(Lin.sgn (k+i)*Lin.det m (fun a b=>(F (Lin.skip k a) (Lin.skip i b):Rat)))*(F k j:Rat)) (fun k _=>by rw [ha,ut])]
     rw [Lin.C3 hi hj (fun a b=>(F a b:Rat))]
     by_cases hij:i=j
     ·rw [if_pos hij,if_pos hij.symm,Lin.di]
     ·rw [if_neg hij,if_neg (fun k=>hij k.symm)]; rfl
    exact_mod_cast this
 ·have hl:e.piv.length=n:=by omega
  have hpl:=Lin.lf (by rw [← h.pl]; exact hp)
  have hpv : ∀ k,k<n→e.piv.getD k 0=k:=fun k hk=>by rw [h.pl,hpl]; simp [List.getD,hk]
  have hdet:(e.last:Rat)=(if e.odd then -1 else 1)*(Lin.bK n F:Rat):=by
   have hd:=h.gj.dP
   rw [hl] at hd
   rw [hd,Lin.di]
   have e1:Lin.det n (fun a b=>(A a (e.piv.getD b 0):Rat))=Lin.det n (fun a b=>(A a b:Rat)):=Lin.bM fun a b _ hb=>by rw [hpv b hb]
   have e2:Lin.det n (fun a b=>(fZ n F a b:Rat))=Lin.det n (fun a b=>(F a b:Rat)):=Lin.bM fun a b _ hb=>by rw [oE hb]
   rw [← e2, ← h.sg, ← e1]
  have hadj : ∀ a b,a<n→b<n→((ol n F e a b:Int):Rat)=(Lin.bK n F:Rat)*V a (n+b):=fun a b ha hb=>by
   have hR:=h.gj.B3 a ha (n+b) X (.inl Y)
   unfold ol
   rw [if_neg X,if_neg hp]
   cases ho:e.odd
   ·rw [ho] at hdet
    simp at hdet ⊢
    rw [hR,hdet]
   ·rw [ho] at hdet
    simp at hdet ⊢
    rw [hR,hdet]; grind
  have hR : ∀ k b,k<n→b<n→Lin.sm n (fun l=>(F k l:Rat)*V l (n+b))=if k=b then 1 else 0:=fun k b hk hb=>by
   obtain ⟨a,ha,ea⟩:=h.p2 k hk
   have h2:=h.gj.A2 a ha (n+b) X
   rw [hl,if_pos ha,Rat.add_zero,ea,uu] at h2
   have h3:Lin.sm n (fun l=>(F k l:Rat)*V l (n+b))=Lin.sm n (fun l=>(fZ n F k (Lin.pv e l):Rat)*V l (n+b)):=Lin.aU fun l hl'=>by
    show _=(fZ n F k (e.piv.getD l 0):Rat)*_
    rw [hpv l hl',oE hl']
   rw [h3, ← h2]; split <;> rfl
  have hL : ∀ a c,a<n→c<n→Lin.sm n (fun l=>V a (n+l)*(F l c:Rat))=if a=c then 1 else 0:=fun a c ha hc=>by
   have key : ∀ T:Nat→Rat,Lin.sm (n+n) (fun x=>((if x=c then 1 else 0) - (if n≤x then (F (x - n) c:Rat) else 0))*T x)=T c - Lin.sm n (fun l=>(F l c:Rat)*T (n+l)):=fun T=>by
    rw [Lin.aU (g:=fun x=>(if x=c then T x else 0) - (if n≤x then (F (x - n) c:Rat) else 0)*T x) (fun x _=>by split <;> grind),Lin.lQ,Lin.jL X,Lin.AI]
    rw [Lin.eZ (f:=fun x=>(if n≤x then (F (x - n) c:Rat) else 0)*T x) (fun x hx=>by rw [if_neg X]; grind)]
    rw [Lin.aU (f:=fun k=>(if n≤n+k then (F (n+k - n) c:Rat) else 0)*T (n+k)) (g:=fun k=>(F k c:Rat)*T (n+k)) (fun k _=>by rw [if_pos X,show n+k - n=k by omega])]
    grind
   have z:=h.gj.V6 (fun x=>(if x=c then 1 else 0) - (if n≤x then (F (x - n) c:Rat) else 0)) (fun i hi'=>by
    obtain ⟨k,hk,ek⟩:=h.p1 i hi'
    rw [key (fun x=>(A i x:Rat)),ek]
    rw [oE hc,Lin.aU (g:=fun l=>if l=k then (F l c:Rat) else 0) (fun l _=>by
     rw [uu]
     by_cases e1:l=k
     ·rw [if_pos e1,if_pos e1.symm]; exact Rat.mul_one _
     ·rw [if_neg e1,if_neg (fun h=>e1 h.symm)]; exact Rat.mul_zero _),Lin.jL hk]
    grind) a ha
   rw [key (fun x=>V a x)] at z
   have h4:=h.gj.V4 c X a ha
   rw [show Lin.pv e c=c from hpv c hc] at h4
   rw [Lin.aU (g:=fun l=>(F l c:Rat)*V a (n+l)) (fun l _=>Rat.mul_comm _ _), ← h4]
   grind
  constructor
  ·have:((vr n F (ol n F e) i j:Int):Rat)=(((if i=j then Lin.bK n F else 0):Int):Rat):=by
    rw [lk,Lin.aU (g:=fun k=>(Lin.bK n F:Rat)*((F i k:Rat)*V k (n+j))) (fun k hk=>by rw [hadj k j hk hj]; grind),Lin.oz,hR i j hi hj]
    split
    ·grind
    ·rw [Rat.mul_zero]; rfl
   exact_mod_cast this
  ·have:((vr n (ol n F e) F i j:Int):Rat)=(((if i=j then Lin.bK n F else 0):Int):Rat):=by
    rw [lk,Lin.aU (g:=fun k=>(Lin.bK n F:Rat)*(V i (n+k)*(F k j:Rat))) (fun k hk=>by rw [hadj i k hi hk]; grind),Lin.oz,hL i j hi hj]
    split
    ·grind
    ·rw [Rat.mul_zero]; rfl
   exact_mod_cast this
end Tor
end
section
namespace Tor
theorem iK (n:Nat) (f:Nat→Int):((bD n f:Int):Rat)=Lin.sm n (fun i=>(f i:Rat)):=by
 induction n with
 | zero => rfl
 | succ n ih => rw [bD, Lin.sm, Rat.intCast_add, ih]
theorem Bm (n:Nat) (f:Nat→Int):Lin.dot n (fun k=>(f k:Rat)) (fun k=>(f k:Rat))=((fk n f:Int):Rat):=by
 rw [wY,iK]
 exact Lin.aU fun k _=>(Rat.intCast_mul _ _).symm
theorem C4 (n:Nat) (f:Nat→Int):((prZ n f:Int):Rat)=Lin.pr n (fun i=>(f i:Rat)):=by
 induction n with
 | zero => rfl
 | succ n ih => rw [prZ, Lin.pr, Rat.intCast_mul, ih]
theorem oF (n:Nat) (F:Nat→Nat→Int):Lin.bK n F*Lin.bK n F≤((prN n (fun i=>fk n (F i)):Nat):Int):=by
 have h:=Lin.AO n (fun i j=>(F i j:Rat))
 rw [← Lin.di, ← Rat.intCast_mul,Lin.pQ (g:=fun i=>(((fk n (F i):Nat):Int):Rat)) (fun i _=>Bm n (F i)), ← C4, ← mT] at h
 exact Rat.intCast_le_intCast.1 h
theorem Bn {d P:Nat} (h:d*d≤P):d≤upN P:=by
 have h1:=Et P
 rcases Nat.lt_or_ge (upN P) d with h2 | h2
 ·have:=Nat.mul_lt_mul_of_lt_of_le h2 (Nat.le_of_lt h2) X
  omega
 ·exact h2
theorem EJ {x:Int} {P:Nat} (h:x*x≤(P:Int)):x.natAbs*x.natAbs≤P:=by
 rw [← Int.natAbs_mul]
 have:=lY x
 omega
theorem p6 {B c:Nat} {f:Nat→Int} (h : ∀ k,(f k).natAbs≤B):fk c f≤c*(B*B):=by
 unfold fk
 induction c with
 | zero => simp [bD]
 | succ c ih =>
  rw [bD,Nat.succ_mul]
  refine Nat.le_trans (Int.natAbs_add_le _ _) (Nat.add_le_add ih ?_)
  rw [Int.natAbs_mul]; exact Nat.mul_le_mul (h c) (h c)
end Tor
end
