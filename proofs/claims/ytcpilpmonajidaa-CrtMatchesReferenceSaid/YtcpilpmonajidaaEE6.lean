/-
  Theorems that the proofs of laws of this seat rest on.
  No condition.
-/
import Derived.Test.YtcpilpmonajidaaEE5
set_option maxHeartbeats 8000000
set_option linter.unusedVariables false
set_option linter.unusedSimpArgs false
section
namespace Tor
open Go Go.RowKit Go.Proofs
theorem fG {m n:Nat} (h:m≤2^n) (hn:n<2048):bU (m:Int):=ff (by
 rw [Int.natAbs_natCast]
 exact Nat.lt_of_le_of_lt h (Nat.pow_lt_pow_right (a:=2) (m:=n) (n:=2048) Y hn))
def ofL (l:List (Nat × Nat)) (a:Int):List (Nat × Nat):=l.map fun p=>(p.1,(a % (p.1:Int)).toNat)
theorem rW {l:List (Nat × Nat)} {a:Int} {i:Nat} (h:i<l.length):ofL (l.take (i+1)) a=ofL (l.take i) a ++ [((l.getD i (0,0)).1,(a % ((l.getD i (0,0)).1:Int)).toNat)]:=by
 unfold ofL;rw [d7 (0,0) h,List.map_append]; rfl
theorem pN (l:List (Nat × Nat)) (a:Int):(ofL l a).length=l.length:=by unfold ofL;simp
theorem tw {sv:Option Nat} {T:TypeId} {cap i:Nat} {m n:List (Nat × Nat)} {x:Nat × Nat} {φ:VT} (hn:n=m ++ [x]) (hl:m.length=i) (h:φ=eU x):Own.le (be sv T (.agg 2) cap (i+1) (fun q=>if q<i then eU (m.getD q (0,0)) else φ)) (be sv T (.agg 2) cap (i+1) (fun q=>eU (n.getD q (0,0)))):=cE (fun q hq=>by
 subst h hn hl
 by_cases c:q<m.length
 ·rw [if_pos c]; simp [List.getD,List.getElem?_append,c]
 ·rw [if_neg c]
  have:q=m.length:=by omega
  subst this
  simp [List.getD])
attribute [local irreducible] J PJ aF one slT cS bP bZ exT cR eP bf be slV VT.le Ret cm fT jC
theorem lj (l:List (Nat × Nat)) (h64:eZ l) (hl:l.length≤16):Ok Try.prog 12 [cq l] (aS (bD l:Nat)):=by
 refine Ok.enter Try.func12 Z Try.ntmps12 Z (fun w O => ?_)
 unfold cq eU
 refine ae (ai ?_)
 refine av (T:=29) Z (ltN Z) (fun b2 => ?_)
 refine Ao (aa (ae (ai ?_)))
 refine Ak (aj (di _ S S) Z ⟨A,Ap⟩) ?_
 refine av (T:=29) Z (ltN Z) (fun b3 => ?_)
 refine ao 0 Z Z Z Z Z (leN Z) Z (Ao (aa (ae (ae (ai (Am Z (Ao (aa (aw ?_)))))))))
 refine cl (Γ' := [(0,_),(2,_),(3,_),(4,_)]) Ag (SubM.refl _) ?_
 refine bA (σ:=Nat) (Γk := [(0,_),(2,_),(3,_)]) Ag (fun i => [(4,one (.int .i64 (i:Nat)))]) (fun i M0=>(M0.set 0 (bf b3 29 (Lay.agg 2).sz [(0,Lay.agg 2,aS (bD (l.take i):Nat))]))) (fun i=>i≤l.length) (fun i=>l.length - i) (0) (Nat.zero_le _) Ah (.keep Aj (.keep Aj (.nil))) (fun i hi => ?_)
 refine bS (Γ' := [(4,_),(0,_),(2,_),(3,_)]) (M' := [_,_]) Z Z ?_
 by_cases hc:i<l.length
 ·obtain ⟨h1,h2⟩:=h64.get i
  have hwd:=gb _ h1
  have s1:=dU (jj h64 i hi) S
  have s2:a4 ((l.getD i (0,0)).1:Int):=dU (n:=64) S Y
  have hmu:=eQ _ _ s1 s2
  have e:((bD (l.take i):Nat):Int)*((l.getD i (0,0)).1:Int)=((bD (l.take (i+1)):Nat):Int):=by
   unfold bD;rw [cZ _ _ (0,0) hc,Int.natCast_mul]
  rw [e] at hmu
  refine ae (ae (ai (Al Z (Al Z (Ak (aM Z) (Ak (sT S (bp Z Z)) (Ao (aa (aB Z ?_)))))))))
  refine au (aa (ae (aw (aU 8 aR X Y (Ak (ak 0 Z Z Z) (Al Z (Al Z (Ak (ar Z Z S) (Ak (bq Z Z) ?_)))))))))
  refine Ak (aE Z) ?_
  refine Ak (aj (hwd) Z ⟨A,Ap⟩) ?_
  refine Ak (aj (hmu) Z ⟨A,A,Ap⟩) ?_
  refine Ao (ao 0 Z Z Z Z Z (leN Z) Z (Ao (aK (aa (ai (Al Z (Ak (bX _ 1 Z Z S) (Am Z (Ao ?_)))))))))
  refine aN (i+1) (hc) S Ah (.keep Aj (.keep Aj (.nil)))
 ·have he:i=l.length:=by omega
  rw [he,List.take_length]
  refine ae (ae (ai (Al Z (Al Z (Ak (aM Z) (Ak (sF S (bp Z Z)) (Ao (aa (az Z ?_)))))))))
  refine a6 (ay (ay (aI (aa (ae (ai (Ak (ak 0 Z Z Z) (ao 1 Z Z Z Z Z (leN Z) Z (Ao ?_)))))))))
  refine aa (aC ?_)
  refine aJ Try.results12 (.cellB 1 Z Z Z A)
theorem rX (l:List (Nat × Nat)) (a:Int) (hg : ∀ p∈l,mg p) (hnd:(l.map (·.1)).Nodup) (ha:bU a):Ok Try.prog 14 [cq l,aS a] (one (.bool (ew l a))):=by
 have hva:=rQ l hg
 rw [decide_eq_true hnd] at hva
 refine Ok.enter Try.func14 Z Try.ntmps14 Z (fun w O => ?_)
 refine fR (t:=0) Z (fun _ _=>j5) (fun hbound => ?_)
 unfold cq eU at *
 refine ae (ai ?_)
 refine aO Z Z (ltN Z) (fun b3 => ?_)
 refine Am Z (Ao (aa (ae (ae (ai (Al Z ?_))))))
 refine Ak (aj (hva) Z ⟨A,Ap⟩) ?_
 refine Ak (cv Z) (Ao (aa (az Z (au (aa (ae (ae (ai (Am Z ?_)))))))))
 refine Ao (aa (aw (cl (Γ' := [(0,_),(3,_),(4,_),(5,_)]) Ag (SubM.refl _) ?_)))
 refine bA (σ:=Nat) (Γk := [(0,_),(3,_)]) Ag (fun i => [(5,one (.int .i64 (i:Nat)))]) (fun i M0=>M0) (fun i=>i≤l.length∧ew (l.take i) a=true) (fun i=>l.length - i) (0) (⟨Nat.zero_le _,rfl⟩) Ah (.keep Aj (.nil)) (fun i hi => ?_)
 refine bS (Γ' := [(5,_),(0,_),(3,_)]) (M' := [_]) Z Z ?_
 obtain ⟨hi,hco⟩:=hi
 by_cases hc:i<l.length
 ·obtain ⟨g1,g2,g3,g4⟩:=hg _ (dT hc)
  have hw1:=gb (l.getD i (0,0)).1 S
  have hw2:=gb (l.getD i (0,0)).2 S
  have sp:bU ((l.getD i (0,0)).1:Int):=fG (n:=64) S Y
  have hre:=kp a ((l.getD i (0,0)).1:Int) S ha sp
  have hsa:=dx (a % ((l.getD i (0,0)).1:Int)) ((l.getD i (0,0)).2:Int)
  have hst:=li (a:=a) hc
  rw [hco,Bool.true_and] at hst
  have hn:=Int.emod_nonneg a (show ((l.getD i (0,0)).1:Int)≠0 by omega)
  by_cases c:a % ((l.getD i (0,0)).1:Int)=((l.getD i (0,0)).2:Int)
  ·rw [decide_eq_true S] at hst
   rw [decide_eq_true c] at hsa
   refine ae (ae (ai (Al Z (Al Z (Ak (aM Z) (Ak (sT S (bp Z Z)) (Ao (aa (aB Z ?_)))))))))
   refine au (aa (ae (aw (ae (aU 16 aR X Y (Ak (aP 0 Z Z) (Al Z (Al Z (Ak (ar Z Z S) ?_)))))))))
   refine Ak (bq Z Z) (Ak (aE Z) ?_)
   refine Ak (aj (hw1) Z ⟨A,Ap⟩) ?_
   refine Ak (aj (hre) Z ⟨A,A,Ap⟩) ?_
   refine Al Z (Al Z (Ak (ar Z Z S) (Ak (bq Z Z) (Ak (aE Z) ?_))))
   refine Ak (aj (hw2) Z ⟨A,Ap⟩) ?_
   refine Ak (aj (hsa) Z ⟨A,A,Ap⟩) ?_
   refine Ak (cv Z) (Ao (Ao (aa (az Z (au (aK (aa (ai (Al Z ?_)))))))))
   refine Ak (bX _ 1 Z Z S) (Am Z (Ao ?_))
   refine aN (i+1) (⟨hc,hst⟩) S Ah (.keep Aj (.nil))
  ·rw [decide_eq_false S] at hst
   rw [decide_eq_false c] at hsa
   rw [j6 hst]
   refine ae (ae (ai (Al Z (Al Z (Ak (aM Z) (Ak (sT S (bp Z Z)) (Ao (aa (aB Z ?_)))))))))
   refine au (aa (ae (aw (ae (aU 16 aR X Y (Ak (aP 0 Z Z) (Al Z (Al Z (Ak (ar Z Z S) ?_)))))))))
   refine Ak (bq Z Z) (Ak (aE Z) ?_)
   refine Ak (aj (hw1) Z ⟨A,Ap⟩) ?_
   refine Ak (aj (hre) Z ⟨A,A,Ap⟩) ?_
   refine Al Z (Al Z (Ak (ar Z Z S) (Ak (bq Z Z) (Ak (aE Z) ?_))))
   refine Ak (aj (hw2) Z ⟨A,Ap⟩) ?_
   refine Ak (aj (hsa) Z ⟨A,A,Ap⟩) ?_
   refine Ak (cv Z) (Ao (Ao (aa (aB Z (ae (ai (Am Z (Ao (aa ?_)))))))))
   refine aC (aZ (aD (aD (aZ (aD ?_)))))
   refine aJ Try.results14 (.tmp Z A)
 ·have he:i=l.length:=by omega
  rw [he,List.take_length] at hco
  rw [hco]
  refine ae (ae (ai (Al Z (Al Z (Ak (aM Z) (Ak (sF S (bp Z Z)) (Ao (aa (az Z ?_)))))))))
  refine a6 (ay (ay (aI (aa (ae (ai (Am Z (Ao (aa ?_)))))))))
  refine aC ?_
  refine aJ Try.results14 (.tmp Z A)
theorem tx (l:List (Nat × Nat)) (a:Int) (hg : ∀ p∈l,mg p) (hl:l.length≤16) (ha:bU a):Ok Try.prog 9 [cq l,aS a] (cq (ofL l a)):=by
 refine Ok.enter Try.func9 Z Try.ntmps9 Z (fun w O => ?_)
 refine ae (ai ?_)
 refine aO Z Z (ltN Z) (fun b3 => ?_)
 refine Am Z (Ao (aa (ae (ai (nq (n:=0) Z Z Z Z Z ?_)))))
 refine PartsK.nil (fun bl => ?_)
 refine Am Z (Ao (aa (ae (ae (ai (Am Z (Ao (aa (aw ?_)))))))))
 refine cl (Γ' := [(0,_),(3,_),(4,_),(5,_),(6,_)]) Ag (SubM.refl _) ?_
 refine bA (σ:=Nat × Option Nat × Nat) (Γk := [(0,_),(3,_),(4,_)]) Ag (fun s => [(6,one (.int .i64 (s.1:Nat))),(5,one (slV s.2.1 s.1 s.2.2))]) (fun s M0=>(M0.set 0 (be s.2.1 43 (.agg 2) s.2.2 s.1 (fun q=>eU ((ofL (l.take s.1) a).getD q (0,0)))))) (fun s=>s.1≤l.length) (fun s=>l.length - s.1) ((0,some bl,0)) (Nat.zero_le _) Ah (.keep (cE (fun q hq=>absurd hq (Nat.not_lt_zero _))) (.keep Aj (.nil))) (fun s hs => ?_)
 refine bS (Γ' := [(6,_),(5,_),(0,_),(3,_),(4,_)]) (M' := [_,_]) Z Z ?_
 obtain ⟨i,sv,cap⟩:=s
 dsimp only at hs ⊢
 unfold cq
 by_cases hc:i<l.length
 ·obtain ⟨g1,g2,g3,g4⟩:=hg _ (dT hc)
  have hw1:=gb (l.getD i (0,0)).1 S
  have sp:bU ((l.getD i (0,0)).1:Int):=fG (n:=64) S Y
  have hre:=kp a ((l.getD i (0,0)).1:Int) S ha sp
  have hn:=Int.emod_nonneg a (show ((l.getD i (0,0)).1:Int)≠0 by omega)
  have hn2:=Int.emod_lt_of_pos a (show 0<((l.getD i (0,0)).1:Int) by omega)
  obtain ⟨r,hr⟩ : ∃ r:Nat,a % ((l.getD i (0,0)).1:Int)=(r:Int):=⟨_,(Int.toNat_of_nonneg hn).symm⟩
  have hofs:=rW (a:=a) hc
  rw [hr] at hre hn2 hofs
  rw [Int.toNat_natCast] at hofs
  have hsm:=qz r S
  have hofl:=pN (l.take i) a
  rw [List.length_take,Nat.min_eq_left (Nat.le_of_lt hc)] at hofl
  unfold eU
  refine ae (ae (ai (Al Z (Al Z (Ak (aM Z) (Ak (sT S (bp Z Z)) (Ao (aa (aB Z ?_)))))))))
  refine au (aa (ae (aw (ae (aU 13 aR X Y (Ak (aP 1 Z Z) (Al Z (Al Z (Ak (ar Z Z S) ?_)))))))))
  refine Ak (bq Z Z) (Ak (aE Z) ?_)
  refine Ak (aj (hw1) Z ⟨A,Ap⟩) ?_
  refine Ak (aj (hre) Z ⟨A,A,Ap⟩) ?_
  refine Ak (aj (hsm) Z ⟨A,Ap⟩) ?_
  refine Al Z (Ak (an Z Z) (Ak (an Z Z) (Am Z (Ao (Am Z (Ao (aa (ai (Al Z ?_)))))))))
  refine Al Z (Al Z (Ak (ar Z Z S) (Ak (bq Z Z) (Ak (aE Z) (Al Z (Ak (bc Z S) (stB Z Z Z (BuildK.cons Z Z Z (BuildK.cons Z Z Z ?_)))))))))
  refine BuildK.nil (kb Z Z Z Z ?_)
  (refine eg 0 Z Z Z (leN Z) ?_ ?_ Z (ltN Z) (fun sv38 cap38 => ?_);omega;omega)
  refine Am Z (Ao (aK (aa (ai (Al Z (Ak (bX _ 1 Z Z S) (Am Z (Ao ?_))))))))
  refine aN ((i+1,sv38,cap38)) (hc) S Ah (.keep (tw hofs hofl Z) (.keep Aj (.nil)))
 ·have he:i=l.length:=by omega
  subst he
  rw [List.take_length]
  refine ae (ae (ai (Al Z (Al Z (Ak (aM Z) (Ak (sF S (bp Z Z)) (Ao (aa (az Z ?_)))))))))
  refine a6 (ay (ay (aI (aa (ae (ai (Al Z (Am Z (Ao ?_)))))))))
  refine aa (aC (dc (t:=4) (i:=0) Z Z ?_))
  refine aJ Try.results9 (.tmp Z (bK (pN l a).symm (fun q hq=>rfl)))
end Tor
end
section
namespace Tor
def lk (m:Nat) (l:List (Nat × Nat)):Nat:=l.foldl (fun m p=>m*p.1) m
theorem oa : ∀ (l:List (Nat × Nat)) (m x:Nat),(x∣m ∨ ∃ q∈l,q.1=x)→x∣lk m l
 | [], _, _, h => by
  rcases h with h | ⟨q,hq,_⟩
  ·exact h
  ·cases hq
 | q :: l, m, x, h => by
  refine oa l (m*q.1) x ?_
  rcases h with h | ⟨r,hr,rfl⟩
  ·exact .inl (Nat.dvd_trans h (Nat.dvd_mul_right _ _))
  ·rcases List.mem_cons.1 hr with rfl | hr
   ·exact .inl (Nat.dvd_mul_left _ _)
   ·exact .inr ⟨r,hr,rfl⟩
theorem ll : ∀ (l:List (Nat × Nat)) (m:Nat),0<m→(∀ q∈l,0<q.1)→0<lk m l
 | [], _, h, _ => h
 | q :: l, m, h, hl => ll l (m * q.1) (Nat.mul_pos h (hl q List.mem_cons_self)) (fun r hr => hl r (List.mem_cons_of_mem _ hr))
theorem MadeR.dvd {l:List (Nat × Nat)} {p:Nat × Nat} (hp:p∈l):p.1∣bD l:=oa l 1 _ (.inr ⟨p,hp,rfl⟩)
theorem uD {p m:Nat} (hp2:2≤p) (h:m^(p - 1) % p=1):(m % p)*lO p (m % p) % p=1:=by
 have h0:m % p≠0:=by
  intro h0
  rw [Nat.pow_mod,h0,Nat.zero_pow S,Nat.zero_mod] at h
  cases h
 unfold lO
 rw [if_neg h0,Nat.mul_mod_mod, ← Nat.pow_succ']
 rw [show (p - 2).succ=p - 1 by omega, ← Nat.pow_mod]
 exact h
theorem tz {p v a m:Nat} (hp2:2≤p) (hv:v<p) (h:m^(p - 1) % p=1):(a+m*oU (a,m) (p,v)) % p=v:=by
 unfold oU
 dsimp only
 have h1:=uD hp2 h
 have ha:=Nat.mod_lt a (show 0<p by omega)
 generalize hx:(v+p - a % p) % p=x
 generalize hi:lO p (m % p)=i at *
 have e1:m*(x*i % p) % p=x % p:=by
  rw [Nat.mul_mod_mod,show m*(x*i)=x*(m*i) by ac_rfl, ← Nat.mul_mod_mod, ← Nat.mod_mul_mod m i,h1,Nat.mul_one]
 rw [Nat.add_mod,e1, ← hx,Nat.mod_mod, ← Nat.add_mod]
 have e2:a % p+(v+p - a % p)=v+p:=by omega
 rw [Nat.add_mod,Nat.add_mod_mod]
 have e3:(a % p+(v+p - a % p)) % p=v:=by rw [e2,Nat.add_mod_right,Nat.mod_eq_of_lt hv]
 exact e3
theorem m0 (l:List (Nat × Nat)) : ∀ i,i≤l.length→(ct (l.take i)).2=bD (l.take i)
 | 0, _ => rfl
 | i + 1, hi => by
  have ih:=m0 l i S
  unfold ct bD at *
  rw [cZ _ _ (0,0) hi,cZ _ _ (0,0) hi]
  show ((l.take i).foldl fO (0,1)).2*_=_
  rw [ih]
theorem oc : ∀ p∈ix,bT p=true:=by
 intro p hp
 have hs:ix = [2,3,5,7] ++ ([11,13,17,19,23,29,31,37,41,43,47] ++ [65537,2147483629,2147483647]):=rfl
 rw [hs] at hp
 rcases List.mem_append.1 hp with hp | hp
 ·exact nV p hp
 ·rcases List.mem_append.1 hp with hp | hp
  ·exact nU p hp
  ·simp only [List.mem_cons,List.not_mem_nil,or_false] at hp
   rcases hp with rfl | rfl | rfl
   ·exact nT
   ·exact jG
   ·exact jF
theorem j7 : ∀ (l:List (Nat × Nat)) (s:List Nat),(∀ p∈l,p.1∈ix∧p.2<p.1∧p.1 ∉ s)→(l.map (·.1)).Nodup→bY s l=true
 | [], _, _, _ => rfl
 | p :: l, s, h, hnd => by
  obtain ⟨h1,h2,h3⟩:=h p List.mem_cons_self
  rw [List.map_cons,List.nodup_cons] at hnd
  rw [bY,if_neg h3,if_neg (by rw [oc _ h1]; decide),if_neg S]
  refine j7 l _ (fun q hq => ?_) hnd.2
  obtain ⟨k1,k2,k3⟩:=h q (List.mem_cons_of_mem _ hq)
  refine ⟨k1,k2,fun hm => ?_⟩
  rcases List.mem_append.1 hm with hm | hm
  ·exact k3 hm
  ·exact hnd.1 (by rw [← List.mem_singleton.1 hm]; exact List.mem_map.2 ⟨q,hq,rfl⟩)
theorem MadeR.valid {l:List (Nat × Nat)} (h:MadeR l):bY [] l=true:=j7 l [] (fun p hp=>⟨(h.good p hp).1,(h.good p hp).2,by simp⟩) h.nd
structure Comb (l:List (Nat × Nat)) (x:Int):Prop where
 res : ∀ p∈l,x % (p.1:Int)=(p.2:Int)
 hi:x+x≤(bD l:Int)
 lo : -(bD l:Int)<x+x
end Tor
end
section
namespace Tor
open Go Go.RowKit Go.Proofs
def nxt (x y:Nat × Int × Int):Nat × Int × Int:=(x.1 % y.1,x.2.1 - ((x.1 / y.1:Nat):Int)*y.2.1,x.2.2 - ((x.1 / y.1:Nat):Int)*y.2.2)
def m3:Nat→Nat × Int × Int→Nat × Int × Int→Nat × Int × Int
 | 0, x, _ => x
 | f + 1, x, y => if y.1 = 0 then x else m3 f y (nxt x y)
theorem jO : ∀ (f g:Nat) (x y:Nat × Int × Int),y.1<f→y.1<g→m3 f x y=m3 g x y
 | 0, _, _, _, h, _ => absurd h (Nat.not_lt_zero _)
 | _ + 1, 0, _, _, _, h => absurd h (Nat.not_lt_zero _)
 | f + 1, g + 1, x, y, h1, h2 => by
  rw [m3,m3]
  by_cases c:y.1=0
  ·rw [if_pos c,if_pos c]
  ·rw [if_neg c,if_neg c]
   have:=Nat.mod_lt x.1 (show 0<y.1 by omega)
   exact jO f g _ _ (by show x.1 % y.1<f;omega) (by show x.1 % y.1<g;omega)
structure ExtI (a b:Nat) (R x y:Nat × Int × Int):Prop where
 eq : ∀ f,y.1<f→m3 f x y=R
 g0:0<x.1
 ws:x.2.1.natAbs*y.1+y.2.1.natAbs*x.1≤b
 wt:x.2.2.natAbs*y.1+y.2.2.natAbs*x.1≤a
 us:x.2.1.natAbs≤b
 ut:x.2.2.natAbs≤a
 gg:Nat.gcd x.1 y.1=Nat.gcd a b
 lx:x.1≤a+b
 ly:y.1≤a+b
 bx:(b:Int)∣x.2.1*(a:Int) - (x.1:Int)
 yb:(b:Int)∣y.2.1*(a:Int) - (y.1:Int)
theorem m4 {g h b:Nat} {s u:Int} (hh:0<h) (hw:s.natAbs*h+u.natAbs*g≤b) :
  u.natAbs*(g % h)+(s - ((g / h:Nat):Int)*u).natAbs*h≤b∧(((g / h:Nat):Int)*u).natAbs≤b:=by
 have hd:=Nat.div_add_mod g h
 have e1:(((g / h:Nat):Int)*u).natAbs=g / h*u.natAbs:=by rw [Int.natAbs_mul,Int.natAbs_natCast]
 have e2:(s - ((g / h:Nat):Int)*u).natAbs≤s.natAbs+g / h*u.natAbs:=by rw [← e1]; omega
 have e3:g / h*u.natAbs≤u.natAbs*g:=by rw [Nat.mul_comm]; exact Nat.mul_le_mul_left _ (Nat.div_le_self _ _)
 have k1:=Nat.mul_le_mul_right h e2
 have k2:(s.natAbs+g / h*u.natAbs)*h+u.natAbs*(g % h)=s.natAbs*h+u.natAbs*g:=by
  conv=>rhs;rw [← hd]
  rw [Nat.add_mul,Nat.mul_add]
  have:g / h*u.natAbs*h=u.natAbs*(h*(g / h)):=by ac_rfl
  omega
 exact ⟨by omega,by rw [e1]; omega⟩
theorem ij {g h b:Nat} {s u:Int} (hg:0<g) (hw:s.natAbs*h+u.natAbs*g≤b):u.natAbs≤b:=by
 have:=Nat.le_mul_of_pos_right u.natAbs hg
 omega
theorem ExtI.step {a b:Nat} {R x y:Nat × Int × Int} (h:ExtI a b R x y) (hy:y.1≠0):ExtI a b R y (nxt x y):=by
 obtain ⟨e,g0,ws,wt,us,ut,gg,lx,ly,bx,yb⟩:=h
 have hy0:0<y.1:=by omega
 have hm:=Nat.mod_lt x.1 hy0
 have hd:(y.1:Int)*((x.1 / y.1:Nat):Int)+((x.1 % y.1:Nat):Int)=(x.1:Int):=by
  have:=Nat.div_add_mod x.1 y.1
  rw [← Int.natCast_mul, ← Int.natCast_add,this]
 refine ⟨fun f hf => ?_,hy0,(m4 hy0 ws).1,(m4 hy0 wt).1,ij g0 ws,ij g0 wt,?_,ly,?_,yb,?_⟩
 ·have:=e (y.1+1) S
  rw [m3,if_neg hy] at this
  rw [← this]
  exact jO _ _ _ _ hf hm
 ·show Nat.gcd y.1 (x.1 % y.1)=_
  rw [← gg,Nat.gcd_comm x.1 y.1,Nat.gcd_rec y.1 x.1,Nat.gcd_comm]
 ·show x.1 % y.1≤a+b
  omega
 ·unfold nxt
  dsimp only
  generalize ((x.1 / y.1:Nat):Int)=q at *
  generalize ((x.1 % y.1:Nat):Int)=r at *
  have e:(x.2.1 - q*y.2.1)*(a:Int) - r=(x.2.1*(a:Int) - (x.1:Int)) - q*(y.2.1*(a:Int) - (y.1:Int)):=by grind
  rw [e]
  exact Int.dvd_sub bx (Int.dvd_mul_of_dvd_right yb)
theorem ExtI.fin {a b:Nat} {R x y:Nat × Int × Int} (h:ExtI a b R x y) (hy:y.1=0):x=R:=by
 have:=h.eq (y.1+1) S
 rwa [m3,if_pos hy] at this
def fV (a b:Nat):Nat × Int × Int:=m3 (b+1) (a,1,0) (b,0,1)
theorem ExtI.start {a b:Nat} (ha:0<a) (hb:0<b):ExtI a b (fV a b) (a,1,0) (b,0,1) :=
 ⟨fun f hf=>jO _ _ _ _ hf (Nat.lt_succ_self _),ha,by simp,by simp,by show (1:Int).natAbs≤b;omega,by simp,rfl,by simp,by simp,by simp,by simp⟩
theorem od {a b:Nat} : ∀ (f:Nat) (R x y:Nat × Int × Int),y.1<f→ExtI a b R x y → ∃ y',y'.1=0∧ExtI a b R R y'
 | 0, _, _, _, h, _ => absurd h (Nat.not_lt_zero _)
 | f + 1, R, x, y, h, hi => by
  by_cases c:y.1=0
  ·have:=hi.fin c;subst this;exact ⟨y,c,hi⟩
  ·exact od f R y (nxt x y) (by have:=Nat.mod_lt x.1 (show 0<y.1 by omega);show x.1 % y.1<f;omega) (hi.step c)
theorem mi {a b:Nat} (ha:0<a) (hb:0<b):(fV a b).1=Nat.gcd a b∧(fV a b).2.1.natAbs≤b∧(fV a b).2.2.natAbs≤a∧(b:Int)∣(fV a b).2.1*(a:Int) - (Nat.gcd a b:Nat):=by
 obtain ⟨y,h0,hi⟩:=od (b+1) _ _ _ (Nat.lt_succ_self _) (ExtI.start ha hb)
 have h1:=hi.gg
 rw [h0,Nat.gcd_zero_right] at h1
 exact ⟨h1,hi.us,hi.ut,h1▸hi.bx⟩
attribute [local irreducible] J PJ aF one slT cS bP bZ exT cR eP bf be slV VT.le Ret cm
theorem tA (a b:Nat) (ha:0<a) (hb:0<b) (ha8:a<2^800) (hb8:b<2^800):Ok Try.prog 36 [aS (a:Int),aS (b:Int)] (bZ [aS ((fV a b).1:Int),aS (fV a b).2.1,aS (fV a b).2.2]):=by
 have h1:=di 1 Y Y
 have sa:bU (a:Int):=ff (Nat.lt_of_lt_of_le ha8 (eM 800 2048 Y))
 have sb:bU (b:Int):=ff (Nat.lt_of_lt_of_le hb8 (eM 800 2048 Y))
 have h801:=oP 800 801 Z
 have hab:bU ((a+b:Nat):Int):=ff (Nat.lt_of_lt_of_le (show ((a+b:Nat):Int).natAbs<2^801 by
  rw [Int.natAbs_natCast]
  generalize 2^801=z at *
  generalize 2^800=z2 at *
  omega) (eM 801 2048 Y))
 have hA:=nJ (a:Int) sa.small
 rw [Int.natAbs_natCast] at hA
 have hB:=nJ (b:Int) sb.small
 rw [Int.natAbs_natCast] at hB
 have hsa:=cJ (a:Int)
 rw [show cH (a:Int)=1 by unfold cH;rw [if_neg S,if_neg S]] at hsa
 have hsb:=cJ (b:Int)
 rw [show cH (b:Int)=1 by unfold cH;rw [if_neg S,if_neg S]] at hsb
 have hst:=ExtI.start ha hb
 generalize fV a b=R at *
 refine Ok.enter Try.func36 Z Try.ntmps36 Z (fun w O => ?_)
 refine ae (ai ?_)
 refine aO Z Z (ltN Z) (fun b2 => ?_)
 refine aO Z Z (ltN Z) (fun b3 => ?_)
 refine av (T:=29) Z (ltN Z) (fun b4 => ?_)
 refine av (T:=29) Z (ltN Z) (fun b5 => ?_)
 refine av (T:=29) Z (ltN Z) (fun b6 => ?_)
 refine Ao (aa (ae (ae (ai (Ak (aP 4 Z Z) ?_)))))
 refine Ak (aj (hsa) Z ⟨A,Ap⟩) ?_
 refine Ak (sF S (bW Z Z)) (Al Z (sg0 Z Z Z Z (sg0 Z Z Z Z (sg0 Z Z Z Z (Ak (aY Z Z) (Ao (aa (az Z (au ?_)))))))))
 refine aa (ae ?_)
 refine fa aR X X ?_
 refine ux (fun B=>aP 4 Z Z) Z Z ?_
 refine uxk (hA) Z ⟨A,Ap⟩ Z ?_
 refine ux (fun B=>aP 3 Z Z) Z Z ?_
 refine uxk (hB) Z ⟨A,Ap⟩ Z ?_
 refine ua Z (ua Z (us Z (us Z ?_)))
 refine RunU.nil (fun γ => ?_)
 refine cw (M' := [_,_,_,_,_,_,_]) Z (aa (ae ?_))
 refine fa aR X X ?_
 refine ux (fun B=>aP 6 Z Z) Z Z ?_
 refine uxk (hsa) Z ⟨A,Ap⟩ Z ?_
 refine uxk (h1) Z ⟨A,Ap⟩ Z ?_
 refine uB Z Z Z (BuildK.nil (uB Z Z Z (BuildK.nil ?_)))
 refine ux (fun B=>aP 5 Z Z) Z Z ?_
 refine uxk (hsb) Z ⟨A,Ap⟩ Z ?_
 refine uxk (h1) Z ⟨A,Ap⟩ Z ?_
 refine ua Z (ua Z (ua Z (ua Z (us Z (us Z (us Z (us Z ?_)))))))
 refine RunU.nil (fun γ => ?_)
 refine cw (M' := [_,_,_,_,_,_,_,_,_,_,_]) Z (ky (gK.refl _) (.keep Aj (.keep f6 (.keep f6 (.keep Aj (SubM.refl _))))) (aa (ae (aw ?_))))
 rename_i γ0
 refine cl (Γ' := [(4,_),(5,_),(6,_),(7,_),(8,_),(9,_),(10,_),(11,_),(12,_)]) Ag (SubM.refl _) ?_
 refine bA (σ:=(Nat × Int × Int) × (Nat × Int × Int)) (Γk := [(4,_),(5,_),(6,_),(7,_),(8,_),(9,_),(10,_),(11,_),(12,_)]) Ag (fun p => []) (fun p M0=>((((((M0.set 0 (bf (γ 12) 29 (Lay.agg 2).sz [(0,Lay.agg 2,aS p.2.2.2)])).set 1 (bf (γ 11) 29 (Lay.agg 2).sz [(0,Lay.agg 2,aS p.2.2.1)])).set 2 (bf (γ 10) 29 (Lay.agg 2).sz [(0,Lay.agg 2,aS p.1.2.2)])).set 3 (bf (γ 9) 29 (Lay.agg 2).sz [(0,Lay.agg 2,aS p.1.2.1)])).set 4 (bf (γ0 8) 29 (Lay.agg 2).sz [(0,Lay.agg 2,aS (p.2.1:Nat))])).set 5 (bf (γ0 7) 29 (Lay.agg 2).sz [(0,Lay.agg 2,aS (p.1.1:Nat))]))) (fun p=>ExtI a b R p.1 p.2) (fun p=>p.2.1) (((a,1,0),(b,0,1))) (hst) Ah (.keep Aj (.keep (jh dz) (.keep (jh dz) (.keep Aj (.keep Aj (.keep Aj (.keep Aj (.keep Aj (.keep Aj (.keep Aj (.keep Aj (.nil)))))))))))) (fun p hp => ?_)
 refine bS (Γ' := [(4,_),(5,_),(6,_),(7,_),(8,_),(9,_),(10,_),(11,_),(12,_)]) (M' := [_,_,_,_,_,_,_,_,_,_,_]) Z Z ?_
 obtain ⟨x,y⟩:=p
 dsimp only at hp ⊢
 have hsg:=cJ (y.1:Int)
 have q1:=hp.lx
 have q2:=hp.ly
 have q3:=hp.us
 have q4:=hp.ut
 have q5:=ij hp.g0 hp.ws
 have q6:=ij hp.g0 hp.wt
 by_cases hy:y.1=0
 ·have hs0:cH (y.1:Int)=0:=by rw [hy]; rfl
  have hx:=hp.fin hy
  subst hx
  refine ae (ae (ai (Ak (ak 4 Z Z Z) ?_)))
  refine Ak (aj (hsg) Z ⟨A,Ap⟩) ?_
  refine Ak (sF S (gl Z Z)) (Ao (aa (az Z (a6 (ay (ay (aI (aa (ae ?_)))))))))
  refine gq [⟨6,b6,29,Lay.agg 2⟩,⟨5,b5,29,Lay.agg 2⟩,⟨4,b4,29,Lay.agg 2⟩] [_,_,_] [_,_,_,_,_,_,_,_] aR X Z ((bk 6 Z).trans (.cons _ ((bk 6 Z).trans (.cons _ ((bk 6 Z).trans (.cons _ (List.Perm.refl _))))))) Z (And.intro Z (And.intro Z (And.intro Z (trivial)))) ?_
  refine ux (fun B=>ak 5 Z Z Z) Z Z ?_
  refine ux (fun B=>ak 3 Z Z Z) Z Z ?_
  refine ux (fun B=>ak 2 Z Z Z) Z Z ?_
  refine us Z (us Z (us Z ?_))
  refine RunU.nil ⟨And.intro Z (And.intro Z (And.intro Z (And.intro Z (And.intro Z (And.intro Z (trivial)))))),?_⟩
  refine cw (M' := [_,_,_,_,_,_,_,_,_,_,_]) Z (aa (aC ?_))
  refine it Try.results36 (.cellB 2 Z Z Z A) (.cellB 1 Z Z Z A) (.cellB 0 Z Z Z A)
 ·have hs0:cH (y.1:Int)≠0:=by unfold cH;rw [if_neg S]; split <;> decide
  have hy0:0<y.1:=by omega
  have n1:=hp.step hy
  obtain ⟨w1,w2⟩:=m4 hy0 hp.ws
  obtain ⟨w3,w4⟩:=m4 hy0 hp.wt
  have w5:=ij hy0 w1
  have w6:=ij hy0 w3
  have hdm:=dN (x.1:Int) (y.1:Int) S (eH hab S) (eH hab S)
  rw [← Int.natCast_ediv, ← Int.natCast_emod] at hdm
  have w7:((x.1 / y.1:Nat):Int).natAbs≤a+b:=by rw [Int.natAbs_natCast]; exact Nat.le_trans (Nat.div_le_self _ _) q1
  have sq:a4 ((x.1 / y.1:Nat):Int):=bE hab.small S
  have m1:=eQ ((x.1 / y.1:Nat):Int) y.2.1 sq (bE sb.small S)
  have m2:=eQ ((x.1 / y.1:Nat):Int) y.2.2 sq (bE sa.small S)
  have u1:=fz x.2.1 (((x.1 / y.1:Nat):Int)*y.2.1) (bE sb.small S) (bE sb.small S)
  have u2:=fz x.2.2 (((x.1 / y.1:Nat):Int)*y.2.2) (bE sa.small S) (bE sa.small S)
  refine ae (ae (ai (Ak (ak 4 Z Z Z) ?_)))
  refine Ak (aj (hsg) Z ⟨A,Ap⟩) ?_
  refine Ak (sT (by assumption) (gl Z Z)) (Ao (aa (aB Z (au (aa (aw (ae (ai (Ak (ak 5 Z Z Z) ?_)))))))))
  refine Ak (ak 4 Z Z Z) ?_
  refine Ak (aj (hdm) Z ⟨A,A,Ap⟩) ?_
  refine Al Z (Ak (an Z Z) (Ak (an Z Z) (Ak (an Z Z) ?_)))
  refine av (T:=29) Z (ltN Z) (fun b13 => ?_)
  refine av (T:=29) Z (ltN Z) (fun b14 => ?_)
  refine ao 1 Z Z Z Z Z (leN Z) Z (ao 0 Z Z Z Z Z (leN Z) Z (Am Z (Ao (aa (ae ?_)))))
  refine pt [⟨⟨8, γ0 8,29,Lay.agg 2⟩,_⟩,⟨⟨7, γ0 7,29,Lay.agg 2⟩,_⟩] [_,_,_,_,_,_,_,_,_,_,_] aR X ((bk 6 Z).trans (.cons _ ((bk 6 Z).trans (.cons _ (List.Perm.refl _))))) Z (And.intro Z (And.intro Z (trivial))) ?_
  refine wl 0 Z X (fun B=>ak 0 Z Z Z) Z ?_
  refine wx (fun B=>ak 0 Z Z Z) Z ?_
  refine ws Z (ws Z ?_)
  refine RunY.nil ⟨And.intro Z (And.intro Z (And.intro Z (And.intro Z (trivial)))),?_⟩
  refine cw (M' := [_,_,_,_,_,_,_,_,_,_,_,_,_]) Z (aa (ae (ek 6 aR X Y (Ak (ak 5 Z Z Z) (Ak (ak 7 Z Z Z) (Ak (ak 3 Z Z Z) (Ak (ak 5 Z Z Z) ?_)))))))
  refine Ak (aj (m1) Z ⟨A,A,Ap⟩) ?_
  refine Ak (aj (u1) Z ⟨A,A,Ap⟩) ?_
  refine Ao (ao 7 Z Z Z Z Z (leN Z) Z (ao 5 Z Z Z Z Z (leN Z) Z (Ao (aa (ek 6 aR X Y (Ak (ak 4 Z Z Z) (Ak (ak 6 Z Z Z) (Ak (ak 3 Z Z Z) (Ak (ak 4 Z Z Z) ?_)))))))))
  refine Ak (aj (m2) Z ⟨A,A,Ap⟩) ?_
  refine Ak (aj (u2) Z ⟨A,A,Ap⟩) ?_
  refine Ao (ao 6 Z Z Z Z Z (leN Z) Z (ao 4 Z Z Z Z Z (leN Z) Z (Ao (aK (pk ((bk 4 Z).trans (.cons _ ((bk 4 Z).trans (.cons _ ((bk 4 Z).trans (.cons _ ((bk 4 Z).trans (.cons _ ((bk 0 Z).trans (.cons _ ((bk 0 Z).trans (.cons _ ((bk 2 Z).trans (.cons _ ((bk 2 Z).trans (.cons _ ((bk 2 Z).trans (.cons _ ((bk 2 Z).trans (.cons _ ((bk 2 Z).trans (.cons _ (List.Perm.refl _))))))))))))))))))))))) ?_)))))
  refine aN ((y,nxt x y)) (n1) (Nat.mod_lt _ hy0) Ah (.keep Aj (.keep Aj (.keep Aj (.keep Aj (.keep Aj (.keep Aj (.keep Aj (.keep Aj (.keep Aj (.keep Aj (.keep Aj (SubM.nilR _))))))))))))
end Tor
end
section
namespace Tor
/-! ### Trial division by one gcd -/
def iA:Nat→Nat→Nat
 | 0, d => d
 | k + 1, d => iA k d * iA k (d + 2 ^ k)
theorem dV : ∀ {k d e:Nat},d≤e→e<d+2^k→e∣iA k d
 | 0, d, e, h1, h2 => by
  have:e=d:=by simp at h2;omega
  subst this;exact Nat.dvd_refl _
 | k + 1, d, e, h1, h2 => by
  rw [Nat.pow_succ] at h2
  rcases Nat.lt_or_ge e (d+2^k) with hl | hl
  ·exact Nat.dvd_trans (dV h1 hl) (Nat.dvd_mul_right _ _)
  ·exact Nat.dvd_trans (dV hl S) (Nat.dvd_mul_left _ _)
theorem gc {n:Nat} : ∀ {k d:Nat},(∀ e,d≤e→e<d+2^k→Nat.Coprime n e)→Nat.Coprime n (iA k d)
 | 0, d, h => h d (Nat.le_refl _) (by simp)
 | k + 1, d, h => by
  refine Nat.Coprime.mul_right (gc fun e h1 h2=>h e h1 ?_) (gc fun e h1 h2=>h e ?_ ?_)
  ·rw [Nat.pow_succ]; omega
  ·have:=Nat.two_pow_pos k;omega
  ·rw [Nat.pow_succ]; omega
theorem qC {n d:Nat} (hT:gE n) (h1:1≤d) (h2:d<n):Nat.Coprime n d:=by
 have hg:=Nat.gcd_dvd_left n d
 have hd:=Nat.gcd_dvd_right n d
 have hp:0<Nat.gcd n d:=Nat.gcd_pos_of_pos_right _ S
 have hle:Nat.gcd n d≤d:=Nat.le_of_dvd S hd
 show Nat.gcd n d=1
 generalize Nat.gcd n d=g at *
 rcases Nat.lt_or_ge g 2 with h | h
 ·omega
 ·exfalso
  obtain ⟨m,hm⟩:=hg
  by_cases hs:g*g≤n
  ·exact hT g h hs (by rw [hm]; exact Nat.mul_mod_right _ _)
  ·have hmg:m<g:=by
    rcases Nat.lt_or_ge m g with h' | h'
    ·exact h'
    ·have:=Nat.mul_le_mul_left g h';omega
   have hm2:2≤m:=by
    rcases Nat.lt_or_ge m 2 with h' | h'
    ·have:m=0∨m=1:=by omega
     rcases this with rfl | rfl
     ·simp at hm;omega
     ·simp at hm;omega
    ·exact h'
   refine hT m hm2 ?_ (by rw [hm,Nat.mul_comm]; exact Nat.mul_mod_right _ _)
   rw [hm]; exact Nat.mul_le_mul (Nat.le_of_lt hmg) (Nat.le_refl _)
theorem qD {n k:Nat} (h1:2+2^k≤n) (h2:n<(2+2^k)*(2+2^k)):Nat.gcd n (iA k 2)=1↔gE n:=by
 constructor
 ·intro h d hd hs hz
  have hlt:d<2+2^k:=by
   rcases Nat.lt_or_ge d (2+2^k) with h' | h'
   ·exact h'
   ·have:=Nat.mul_le_mul h' h';omega
  have:=Nat.dvd_gcd (Nat.dvd_of_mod_eq_zero hz) (dV hd hlt)
  rw [h] at this
  have:=Nat.le_of_dvd Y this
  omega
 ·intro hT
  exact gc fun e h3 h4=>qC hT S S
/-! ### The prime test, for evaluation -/
noncomputable def dX (p:Nat) (f:Nat):Nat→Nat→Nat→Nat := @Nat.rec (fun _=>Nat→Nat→Nat→Nat) (fun r _ _=>r)
 (fun _ ih r a e => @Nat.rec (fun _=>Nat) r (fun e' _ => @Bool.rec (fun _=>Nat) (ih r (Nat.mod (Nat.mul a a) p) (Nat.div (Nat.succ e') 2)) (ih (Nat.mod (Nat.mul r a) p) (Nat.mod (Nat.mul a a) p) (Nat.div (Nat.succ e') 2)) (Nat.beq (Nat.mod (Nat.succ e') 2) 1)) e) f
theorem m5 (p:Nat) : ∀ (f r a e:Nat),dX p f r a e=iN f p r a e
 | 0, _, _, _ => rfl
 | f + 1, r, a, 0 => rfl
 | f + 1, r, a, e + 1 => by
  rw [iN,if_neg S, ← m5 p f]
  show @Bool.rec (fun _=>Nat) (dX p f r (a*a % p) ((e+1) / 2)) (dX p f (r*a % p) (a*a % p) ((e+1) / 2)) (Nat.beq ((e+1) % 2) 1)=_
  by_cases h:(e+1) % 2=1
  ·rw [if_pos h,h]; rfl
  ·have h0:(e+1) % 2=0:=by omega
   rw [if_neg h,h0]; rfl
noncomputable def uE (n:Nat) (c:Nat):Nat→Bool := @Nat.rec (fun _=>Nat→Bool) (fun _=>false)
 (fun _ ih x => @Bool.rec (fun _=>Bool) (ih (Nat.mod (Nat.mul x x) n)) true (Nat.beq (Nat.mod (Nat.mul x x) n) (Nat.sub n 1))) c
theorem jl (a b:Nat):Nat.beq a b=decide (a=b):=by
 by_cases h:a=b
 ·rw [decide_eq_true h]; exact Nat.beq_eq.mpr h
 ·rw [decide_eq_false h, ← Bool.not_eq_true]; exact fun e=>h (Nat.eq_of_beq_eq_true e)
theorem pO (n:Nat) : ∀ (c x:Nat),uE n c x=sqrF n c x
 | 0, _ => rfl
 | c + 1, x => by
  rw [sqrF, ← pO n c]
  show @Bool.rec (fun _=>Bool) (uE n c (x*x % n)) true (Nat.beq (x*x % n) (n - 1))=_
  rw [jl]
  by_cases h:x*x % n=n - 1
  ·rw [if_pos h,decide_eq_true h]
  ·rw [if_neg h,decide_eq_false h]
noncomputable def im (n O T b:Nat):Bool := @Bool.rec (fun _=>Bool) (@Bool.rec (fun _=>Bool) (uE n (Nat.sub T 1) (dX n 64 (Nat.mod 1 n) b O)) true (Nat.beq (dX n 64 (Nat.mod 1 n) b O) (Nat.sub n 1))) true (Nat.beq (dX n 64 (Nat.mod 1 n) b O) 1)
theorem oV (n O T b:Nat):im n O T b=cW n O T b:=by
 unfold im cW
 rw [m5,pO,jl,jl]
 show @Bool.rec (fun _=>Bool) (@Bool.rec (fun _=>Bool) (sqrF n (T - 1) (iN 64 n (1 % n) b O)) true (decide (iN 64 n (1 % n) b O=n - 1))) true (decide (iN 64 n (1 % n) b O=1))=_
 cases decide (iN 64 n (1 % n) b O=1) <;> cases decide (iN 64 n (1 % n) b O=n - 1) <;> rfl
noncomputable def uF (n O T:Nat):Bool := @Bool.rec (fun _=>Bool) false (@Bool.rec (fun _=>Bool) false (@Bool.rec (fun _=>Bool) false (im n O T 7) (im n O T 5)) (im n O T 3)) (im n O T 2)
theorem tB {n O T:Nat} (h7:7<n):uF n O T=mb n O T 4 0:=by
 have hb : ∀ j,n≠dj j:=fun j h=>by have:=(jf j).1;omega
 unfold uF
 simp only [mb,if_neg (hb _),oV]
 show @Bool.rec (fun _=>Bool) false (@Bool.rec (fun _=>Bool) false (@Bool.rec (fun _=>Bool) false (cW n O T 7) (cW n O T 5)) (cW n O T 3)) (cW n O T 2)=(cW n O T 2 && (cW n O T 3 && (cW n O T 5 && (cW n O T 7 && true))))
 cases cW n O T 2 <;> cases cW n O T 3 <;> cases cW n O T 5 <;> cases cW n O T 7 <;> rfl
noncomputable def oW (k:Nat→Nat→Bool) (f:Nat):Nat→Nat→Bool := @Nat.rec (fun _=>Nat→Nat→Bool) (fun o t=>k o t)
 (fun _ ih o t => @Bool.rec (fun _=>Bool) (k o t) (ih (Nat.div o 2) (Nat.succ t)) (Nat.beq (Nat.mod o 2) 0)) f
theorem mj (k:Nat→Nat→Bool) : ∀ (f o t:Nat),oW k f o t=k (ca f o t).1 (ca f o t).2
 | 0, _, _ => rfl
 | f + 1, o, t => by
  rw [ca]
  show @Bool.rec (fun _=>Bool) (k o t) (oW k f (o / 2) (t+1)) (Nat.beq (o % 2) 0)=_
  rw [jl]
  by_cases h:o % 2=0
  ·rw [if_pos h,decide_eq_true h]; exact mj k f _ _
  ·rw [if_neg h,decide_eq_false h]
noncomputable def gY (n:Nat):Bool:=oW (uF n) 32 (Nat.sub n 1) 0
theorem ml {n:Nat} (h7:7<n) (h31:n<2147483648) (ho:n % 2=1):gY n=bT n:=by
 rw [gW h7]
 unfold gY oO
 rw [if_neg S,if_neg S,mj]
 exact tB h7
/-! ### Runs of numbers -/
noncomputable def dG (f:Nat→Bool) (k:Nat):Nat→Bool := @Nat.rec (fun _=>Nat→Bool) f (fun k ih d => @Bool.rec (fun _=>Bool) false (ih (Nat.add d (Nat.pow 2 k))) (ih d)) k
theorem bH {f:Nat→Bool} : ∀ {k d:Nat},dG f k d=true → ∀ e,d≤e→e<d+2^k→f e=true
 | 0, d, h, e, h1, h2 => by
  have:e=d:=by simp at h2;omega
  subst this;exact h
 | k + 1, d, h, e, h1, h2 => by
  have h : @Bool.rec (fun _=>Bool) false (dG f k (d+2^k)) (dG f k d)=true:=h
  rw [Nat.pow_succ] at h2
  cases ha:dG f k d with
  | false => rw [ha] at h; cases h
  | true =>
   rw [ha] at h
   rcases Nat.lt_or_ge e (d+2^k) with hl | hl
   ·exact bH ha e h1 hl
   ·exact bH h e hl S
noncomputable def lm (k n:Nat):Bool := @Bool.rec (fun _=>Bool) true (@Bool.rec (fun _=>Bool) (@Bool.rec (fun _=>Bool) true false (gY n)) (gY n) (Nat.beq (Nat.gcd n (iA k 2)) 1)) (Nat.beq (Nat.mod n 2) 1)
theorem tC {n k:Nat} (h1:2+2^k≤n) (h2:n<(2+2^k)*(2+2^k)) (h7:7<n) (h31:n<2147483648) (h:lm k n=true):bT n=jL n:=by
 have hT:=qD h1 h2
 by_cases ho:n % 2=1
 ·rw [← ml h7 h31 ho]
  unfold lm at h
  rw [show Nat.beq (Nat.mod n 2) 1=true from Nat.beq_eq.mpr ho,jl] at h
  by_cases hg:Nat.gcd n (iA k 2)=1
  ·rw [decide_eq_true hg] at h
   have h:gY n=true:=h
   rw [h,lf.2 ⟨by omega,h31,hT.1 hg⟩]
  ·rw [decide_eq_false hg] at h
   have hf:gY n=false:=by
    cases hq:gY n with
    | false => rfl
    | true => rw [hq] at h; cases h
   rw [hf]
   exact (Bool.eq_false_iff.2 fun e=>hg (hT.2 (lf.1 e).2.2)).symm
 ·have hp:bT n=false:=by
   unfold bT
   rw [if_neg S,if_pos S,decide_eq_false S]
  rw [hp]
  exact (Bool.eq_false_iff.2 fun e=>(lf.1 e).2.2 2 (Nat.le_refl _) S S).symm
theorem vj:dG (lm 8) 8 258=true:=by decide +kernel
theorem vk:dG (lm 8) 9 512=true:=by decide +kernel
theorem uG:dG (lm 8) 10 1024=true:=by decide +kernel
theorem uH:dG (lm 8) 11 2048=true:=by decide +kernel
theorem uI:dG (lm 8) 12 4096=true:=by decide +kernel
theorem uJ:dG (lm 8) 13 8192=true:=by decide +kernel
theorem uK:dG (lm 8) 14 16384=true:=by decide +kernel
theorem uL:dG (lm 8) 15 32768=true:=by decide +kernel
theorem tD:((List.range 258).all fun n=>bT n == (Nat.ble 2 n && d8 n 4 2))=true:=by decide +kernel
theorem qE {n:Nat} (h:n<258):bT n=jL n:=by
 have hl:=List.all_eq_true.1 tD n (List.mem_range.2 h)
 rw [beq_iff_eq] at hl
 rw [hl,Bool.eq_iff_iff,lf,Bool.and_eq_true,Nat.ble_eq]
 constructor
 ·rintro ⟨h1,h2⟩;exact ⟨h1,by omega,gX h2 (by show n<18*18;omega)⟩
 ·rintro ⟨h1,_,h3⟩
  refine ⟨h1,?_⟩
  cases ht:d8 n 4 2 with
  | true => rfl
  | false =>
   exfalso
   have key : ∀ k d,2≤d→d8 n k d=false → ∃ e,2≤e∧e*e≤n∧n % e=0:=by
    intro k
    induction k with
    | zero =>
     intro d hd hf
     simp only [d8,Bool.or_eq_false_iff,Bool.not_eq_false'] at hf
     refine ⟨d,hd,?_,Nat.eq_of_beq_eq_true hf.2⟩
     rcases Nat.lt_or_ge n (d*d) with h' | h'
     ·have:=Nat.ble_eq_true_of_le (show n+1≤d*d from h');rw [hf.1] at this;cases this
     ·exact h'
    | succ k ih =>
     intro d hd hf
     rw [d8,Bool.and_eq_false_iff] at hf
     rcases hf with hf | hf
     ·exact ih d hd hf
     ·exact ih _ (Nat.le_trans hd (Nat.le_add_right _ _)) hf
   obtain ⟨e,h4,h5,h6⟩:=key 4 2 (Nat.le_refl _) ht
   exact h3 e h4 h5 h6
theorem oe {n:Nat} (h:n<65536):bT n=jL n:=by
 by_cases h0:n<258
 ·exact qE h0
 ·have hu:lm 8 n=true→bT n=jL n:=tC (by show 258≤n;omega) (by show n<258*258;omega) S S
  refine hu ?_
  by_cases h1:n<512
  ·exact bH vj n S (by show n<258+256;omega)
  by_cases h2:n<1024
  ·exact bH vk n S (by show n<512+512;omega)
  by_cases h3:n<2048
  ·exact bH uG n S (by show n<1024+1024;omega)
  by_cases h4:n<4096
  ·exact bH uH n S (by show n<2048+2048;omega)
  by_cases h5:n<8192
  ·exact bH uI n S (by show n<4096+4096;omega)
  by_cases h6:n<16384
  ·exact bH uJ n S (by show n<8192+8192;omega)
  by_cases h7:n<32768
  ·exact bH uK n S (by show n<16384+16384;omega)
  ·exact bH uL n S (by show n<32768+32768;omega)
end Tor
end
section
namespace Tor.Lin
def chN:Nat→Nat→Nat
 | _, 0 => 1
 | 0, _ + 1 => 0
 | n + 1, k + 1 => chN n k + chN n (k + 1)
theorem jm (n:Nat):chN n 0=1:=by cases n <;> rfl
theorem io : ∀ {n k:Nat},n<k→chN n k=0
 | 0, _ + 1, _ => rfl
 | n + 1, k + 1, h => by rw [chN, io (n := n) (k := k) S, io (n := n) (k := k + 1) S]
theorem og : ∀ n,chN n n=1
 | 0 => rfl
 | n + 1 => by rw [chN, og n, io (Nat.lt_succ_self n)]
theorem gz : ∀ n k,(k+1)*chN (n+1) (k+1)=(n+1)*chN n k
 | 0, 0 => rfl
 | 0, k + 1 => by rw [io (n := 0 + 1) (k := k + 1 + 1) S, io (n := 0) (k := k + 1) S]; simp
 | n + 1, 0 => by
  have:=gz n 0
  rw [jm] at this ⊢
  rw [chN,jm]
  omega
 | n + 1, k + 1 => by
  have h1:=gz n k
  have h2:=gz n (k+1)
  rw [show chN (n+2) (k+2)=chN (n+1) (k+1)+chN (n+1) (k+2) from rfl,Nat.mul_add,h2]
  rw [show (k+1+1)*chN (n+1) (k+1)=(k+1)*chN (n+1) (k+1)+chN (n+1) (k+1) from Nat.succ_mul _ _,h1]
  rw [show (n+1+1)*chN (n+1) (k+1)=(n+1)*chN (n+1) (k+1)+chN (n+1) (k+1) from Nat.succ_mul _ _]
  rw [show chN (n+1) (k+1)=chN n k+chN n (k+1) from rfl,Nat.mul_add]
  omega
def gA (n x:Nat):Nat→Nat
 | 0 => 0
 | m + 1 => gA n x m + chN n m * x ^ m
theorem mn (n x:Nat) : ∀ m,gA (n+1) x (m+1)=x*gA n x m+gA n x (m+1)
 | 0 => by simp [gA, jm]
 | m + 1 => by
  have:=mn n x m
  rw [gA,this]
  rw [show gA n x (m+1+1)=gA n x (m+1)+chN n (m+1)*x^(m+1) from rfl,show chN (n+1) (m+1)=chN n m+chN n (m+1) from rfl]
  rw [show x*gA n x (m+1)=x*gA n x m+x*(chN n m*x^m) from Nat.mul_add _ _ _,Nat.add_mul]
  rw [show x*(chN n m*x^m)=chN n m*x^(m+1) by rw [Nat.pow_succ,Nat.mul_left_comm,Nat.mul_comm x]]
  omega
theorem rY (n x:Nat):gA n x (n+2)=gA n x (n+1):=by
 rw [gA,io S]; simp
theorem oh (x:Nat) : ∀ n,gA n x (n+1)=(x+1)^n
 | 0 => by simp [gA, chN]
 | n + 1 => by
  rw [mn,rY,oh x n,Nat.pow_succ,Nat.mul_comm ((x+1)^n),Nat.add_mul,Nat.one_mul]
def Pr (p:Nat):Prop:=2≤p ∧ ∀ d,d∣p→d=1∨d=p
theorem Pr.coprime {p a:Nat} (hp:Pr p) (h : ¬ p∣a):Nat.Coprime p a:=by
 rcases hp.2 _ (Nat.gcd_dvd_left p a) with h1 | h1
 ·exact h1
 ·exact absurd (h1▸Nat.gcd_dvd_right p a) h
theorem Pr.mul {p a b:Nat} (hp:Pr p) (h:p∣a*b):p∣a∨p∣b:=by
 by_cases ha:p∣a
 ·exact .inl ha
 ·exact .inr ((hp.coprime ha).dvd_of_dvd_mul_left h)
theorem Pr.of_trial {p:Nat} (h2:2≤p) (ht:gE p):Pr p:=by
 refine ⟨h2,fun d hd => ?_⟩
 obtain ⟨e,he⟩:=hd
 have hd0:0<d:=Nat.pos_of_ne_zero fun h=>by rw [h,Nat.zero_mul] at he;omega
 have he0:0<e:=Nat.pos_of_ne_zero fun h=>by rw [h,Nat.mul_zero] at he;omega
 by_cases h1:d=1
 ·exact .inl h1
 by_cases h3:e=1
 ·exact .inr (by rw [he,h3,Nat.mul_one])
 exfalso
 rcases Nat.le_total d e with hle | hle
 ·exact ht d S (by rw [he]; exact Nat.mul_le_mul_left d hle) (by rw [he]; exact Nat.mul_mod_right d e)
 ·exact ht e S (by rw [he]; exact Nat.mul_le_mul_right e hle) (by rw [he]; exact Nat.mul_mod_left d e)
theorem Pr.choose {p k:Nat} (hp:Pr p) (h0:0<k) (hk:k<p):p∣chN p k:=by
 obtain ⟨q,rfl⟩ : ∃ q,p=q+1:=⟨p - 1,by have:=hp.1;omega⟩
 obtain ⟨j,rfl⟩ : ∃ j,k=j+1:=⟨k - 1,by omega⟩
 have h:=gz q j
 rcases hp.mul (a:=j+1) (b:=chN (q+1) (j+1)) (h▸Nat.dvd_mul_right _ _) with h1 | h1
 ·exact absurd (Nat.le_of_dvd S h1) S
 ·exact h1
theorem Pr.bin {p:Nat} (hp:Pr p) (x:Nat) : ∀ m,m<p → ∃ t,gA p x (m+1)=1+p*t
 | 0, _ => ⟨0, by simp [gA, jm]⟩
 | m + 1, h => by
  obtain ⟨t,ht⟩:=Pr.bin hp x m S
  obtain ⟨c,hc⟩:=hp.choose (k:=m+1) S h
  exact ⟨t+c*x^(m+1),by rw [gA,ht,hc,Nat.mul_add,Nat.mul_assoc]; omega⟩
theorem Pr.frob {p:Nat} (hp:Pr p) (x:Nat) : ∃ t,(x+1)^p=x^p+1+p*t:=by
 obtain ⟨t,ht⟩:=hp.bin x (p - 1) (by have:=hp.1;omega)
 refine ⟨t,?_⟩
 rw [show p - 1+1=p by have:=hp.1;omega] at ht
 rw [← oh,gA,ht,og]; omega
theorem Pr.fermat {p:Nat} (hp:Pr p) : ∀ x,x^p % p=x % p
 | 0 => by rw [Nat.zero_pow (by have := hp.1; omega)]
 | x + 1 => by
  obtain ⟨t,ht⟩:=hp.frob x
  rw [ht,Nat.add_mul_mod_self_left,Nat.add_mod,Pr.fermat hp x, ← Nat.add_mod]
theorem Pr.inverse {p a:Nat} (hp:Pr p) (h : ¬ p∣a):a*a^(p - 2) % p=1:=by
 have h2:=hp.1
 have hf:=hp.fermat a
 have e:a^p=a*(a*a^(p - 2)):=by
  rw [← Nat.mul_assoc, ← Nat.pow_two, ← Nat.pow_add]; congr 1;omega
 rw [e] at hf
 have hd:(p:Int)∣(a:Int)*((a*a^(p - 2):Nat) - 1:Int):=by
  rw [Int.mul_sub,Int.mul_one, ← Int.natCast_mul]
  exact Int.dvd_of_emod_eq_zero (Int.emod_eq_emod_iff_emod_sub_eq_zero.1 (by exact_mod_cast hf))
 have hx:1≤a*a^(p - 2):=by
  have ha:0<a:=Nat.pos_of_ne_zero fun e=>h (e▸Nat.dvd_zero p)
  exact Nat.mul_pos ha (Nat.pow_pos ha)
 have hd:p∣a*(a*a^(p - 2) - 1):=by
  rw [show ((a*a^(p - 2):Nat) - 1:Int)=((a*a^(p - 2) - 1:Nat):Int) by omega, ← Int.natCast_mul] at hd
  exact Int.natCast_dvd_natCast.1 hd
 obtain ⟨t,ht⟩:=(hp.coprime h).dvd_of_dvd_mul_left hd
 rw [show a*a^(p - 2)=1+p*t by omega,Nat.add_mul_mod_self_left]
 exact Nat.mod_eq_of_lt S
end Tor.Lin
end
section
namespace Tor.Lin
open Tor
theorem uM {p a b c d:Nat} (h:a % p=b % p) (k:c % p=d % p):a*c % p=b*d % p:=by rw [Nat.mul_mod,h,k, ← Nat.mul_mod]
theorem tE {p a b:Nat} (k:Nat) (h:a % p=b % p):a^k % p=b^k % p:=by rw [Nat.pow_mod,h, ← Nat.pow_mod]
theorem oi (p:Nat) : ∀ (f r a e:Nat),e<2^f→iN f p r a e % p=r*a^e % p
 | 0, r, a, e, h => by
  have:e=0:=by simpa using h
  subst this
  rw [Nat.pow_zero,Nat.mul_one]; rfl
 | f + 1, r, a, e, h => by
  rw [iN]
  by_cases h0:e=0
  ·subst h0;rw [if_pos Z,Nat.pow_zero,Nat.mul_one]
  ·rw [if_neg h0,oi p f _ _ _ (by rw [Nat.pow_succ] at h;omega)]
   have h2:(a*a % p)^(e / 2) % p=a^(2*(e / 2)) % p:=by
    rw [Nat.pow_mul,Nat.pow_two]; exact tE _ (Nat.mod_mod _ _)
   by_cases h1:e % 2=1
   ·rw [if_pos h1]
    have e1:a^e=a*a^(2*(e / 2)):=by rw [← Nat.pow_succ']; congr 1;omega
    rw [e1, ← Nat.mul_assoc]
    exact uM (Nat.mod_mod _ _) h2
   ·rw [if_neg h1]
    have e1:a^e=a^(2*(e / 2)):=by congr 1;omega
    rw [e1]
    exact uM Z h2
theorem gf (p f r a e:Nat) (h:e<2^f):dX p f r a e % p=r*a^e % p:=by rw [m5]; exact oi p f r a e h
theorem rZ {n y:Nat} (hn:2≤n) (h:y % n=n - 1):y^2 % n=1:=by
 obtain ⟨m,rfl⟩ : ∃ m,n=m+2:=⟨n - 2,by omega⟩
 have e:(m+1)*(m+1)=1+(m+2)*m:=by simp only [Nat.add_mul,Nat.mul_add]; omega
 rw [Nat.pow_two,Nat.mul_mod,h,show m+2 - 1=m+1 from rfl,e,Nat.add_mul_mod_self_left]
 exact Nat.mod_eq_of_lt S
theorem ln {n y:Nat} (hn:2≤n) (k:Nat) (h:y % n=1):y^k % n=1:=by
 rw [Nat.pow_mod,h,Nat.one_pow]; exact Nat.mod_eq_of_lt S
theorem pP {n:Nat} : ∀ (c x:Nat),sqrF n c x=true → ∃ i,1≤i∧i≤c∧x^2^i % n=n - 1
 | 0, x, h => by cases h
 | c + 1, x, h => by
  rw [sqrF] at h
  by_cases h1:x*x % n=n - 1
  ·exact ⟨1,Nat.le_refl _,by omega,by rw [Nat.pow_one,Nat.pow_two]; exact h1⟩
  ·rw [if_neg h1] at h
   obtain ⟨i,i1,i2,i3⟩:=pP c _ h
   refine ⟨i+1,by omega,by omega,?_⟩
   rw [Nat.pow_succ',Nat.pow_mul,Nat.pow_two, ← i3]
   exact (tE _ (Nat.mod_mod _ _)).symm
theorem lP {n O T b:Nat} (hn:2≤n) (hT:1≤T) (h:er n O T b=true):b^(O*2^T) % n=1:=by
 have key : ∀ i,i<T→b^(O*2^i) % n=n - 1→b^(O*2^T) % n=1:=fun i hi hy=>by
  have e:O*2^T=O*2^i*2*2^(T - i - 1):=by
   rw [Nat.mul_assoc (O*2^i), ← Nat.pow_succ',Nat.mul_assoc, ← Nat.pow_add]; congr 2;omega
  rw [e,Nat.pow_mul,Nat.pow_mul]
  exact ln hn _ (rZ hn hy)
 unfold er at h
 rw [Bool.or_eq_true,Bool.or_eq_true,decide_eq_true_eq,decide_eq_true_eq] at h
 rcases h with (h | h) | h
 ·rw [Nat.pow_mul]; exact ln hn _ h
 ·exact key 0 hT (by rw [Nat.pow_zero,Nat.mul_one]; exact h)
 ·obtain ⟨i,i1,i2,i3⟩:=pP _ _ h
  refine key i S ?_
  rw [Nat.pow_mul, ← i3]
  exact (tE _ (Nat.mod_mod _ _)).symm
theorem ip : ∀ (f o t:Nat),(ca f o t).1*2^((ca f o t).2 - t)=o∧t≤(ca f o t).2
 | 0, o, t => by simp [ca]
 | f + 1, o, t => by
  rw [ca]
  by_cases h:o % 2=0
  ·rw [if_pos h]
   obtain ⟨h1,h2⟩:=ip f (o / 2) (t+1)
   refine ⟨?_,by omega⟩
   rw [show (ca f (o / 2) (t+1)).2 - t=(ca f (o / 2) (t+1)).2 - (t+1)+1 by omega,Nat.pow_succ, ← Nat.mul_assoc,h1]
   omega
  ·rw [if_neg h]; simp
theorem qF {f o t:Nat} (h:o % 2=0):t+1≤(ca (f+1) o t).2:=by
 rw [ca,if_pos h]; exact (ip f (o / 2) (t+1)).2
def Bas (b:Nat):Prop:=b=2∨b=3∨b=5∨b=7
theorem j8 {n:Nat} (h7:7<n) (h31:n<2147483648) (ho:n % 2=1):bT n=true ↔ ∀ b,Bas b→er n (ca 32 (n - 1) 0).1 (ca 32 (n - 1) 0).2 b=true:=by
 unfold bT
 rw [if_neg S,if_neg S]
 generalize (ca 32 (n - 1) 0).1=O
 generalize (ca 32 (n - 1) 0).2=T
 have hb : ∀ j,n≠dj j:=fun j h=>by have:=(jf j).1;omega
 simp only [f9,if_neg (hb _),Bool.and_true,Bool.and_eq_true]
 constructor
 ·rintro ⟨h2,h3,h5,h7⟩ b (rfl | rfl | rfl | rfl)
  ·exact h2
  ·exact h3
  ·exact h5
  ·exact h7
 ·exact fun h=>⟨h 2 (.inl Z),h 3 (.inr (.inl Z)),h 5 (.inr (.inr (.inl Z))),h 7 (.inr (.inr (.inr Z)))⟩
theorem m6 {n b:Nat} (h7:7<n) (h31:n<2147483648) (ho:n % 2=1) (h:bT n=true) (hb:Bas b):b^(n - 1) % n=1:=by
 have hs:=(j8 h7 h31 ho).1 h b hb
 have h1:=qF (f:=31) (o:=n - 1) (t:=0) S
 have h2:=lP S h1 hs
 have h3:=(ip 32 (n - 1) 0).1
 rw [Nat.sub_zero] at h3
 rwa [h3] at h2
/-! ### Prime numbers pass -/
theorem uN {n r:Nat} (hp:Pr n) (hr:r<n) (h:r*r % n=1):r=1∨r=n - 1:=by
 have hn:=hp.1
 have h0:r≠0:=fun e=>by rw [e,Nat.zero_mul,Nat.zero_mod] at h;omega
 have hd:n∣(r - 1)*(r+1):=by
  refine ⟨r*r / n,?_⟩
  have h1:=Nat.div_add_mod (r*r) n
  obtain ⟨s,rfl⟩ : ∃ s,r=s+1:=⟨r - 1,by omega⟩
  rw [show s+1 - 1=s from rfl]
  have h2:s*(s+1+1)+1=(s+1)*(s+1):=by
   have:=Nat.mul_add s (s+1) 1
   have:=Nat.add_mul s 1 (s+1)
   omega
  omega
 rcases hp.mul hd with h1 | h1
 ·rcases Nat.eq_zero_or_pos (r - 1) with h2 | h2
  ·exact .inl S
  ·have:=Nat.le_of_dvd h2 h1;omega
 ·have:=Nat.le_of_dvd S h1;exact .inr S
theorem mo {n:Nat} (hp:Pr n) (h2:2<n) : ∀ (T x:Nat),x^2^T % n=1→x % n=1∨x % n=n - 1∨sqrF n (T - 1) (x % n)=true
 | 0, x, h => .inl (by rwa [Nat.pow_zero, Nat.pow_one] at h)
 | T + 1, x, h => by
  have hx:x % n<n:=Nat.mod_lt _ S
  have e:x*x % n=x % n*(x % n) % n:=Nat.mul_mod x x n
  rw [Nat.pow_succ',Nat.pow_mul,Nat.pow_two] at h
  rcases mo hp h2 T (x*x) h with h1 | h1 | h1
  ·rw [e] at h1
   rcases uN hp hx h1 with h3 | h3
   ·exact .inl h3
   ·exact .inr (.inl h3)
  ·cases T with
   | zero => rw [Nat.pow_zero, Nat.pow_one, h1] at h; omega
   | succ T =>
    refine .inr (.inr ?_)
    show sqrF n (T+1) (x % n)=true
    rw [sqrF,if_pos (by rw [← e]; exact h1)]
  ·cases T with
   | zero => cases h1
   | succ T =>
    refine .inr (.inr ?_)
    show sqrF n (T+1) (x % n)=true
    rw [sqrF, ← e]
    split
    ·rfl
    ·exact h1
theorem Pr.pow_one {p b:Nat} (hp:Pr p) (h : ¬ p∣b):b^(p - 1) % p=1:=by
 have h1:=hp.inverse h
 have h2:=hp.1
 rwa [← Nat.pow_succ',show (p - 2).succ=p - 1 by omega] at h1
theorem Bas.lt {b:Nat} (h:Bas b):0<b∧b≤7:=by
 rcases h with rfl | rfl | rfl | rfl <;> decide
theorem oX {n:Nat} (hp:Pr n) (h7:7<n) (h31:n<2147483648):bT n=true:=by
 have ho:n % 2=1:=by
  rcases Nat.mod_two_eq_zero_or_one n with h | h
  ·rcases hp.2 2 (Nat.dvd_of_mod_eq_zero h) with h | h <;> omega
  ·exact h
 refine (j8 h7 h31 ho).2 fun b hb => ?_
 have hbl:=hb.lt
 have h1:=hp.pow_one (b:=b) (fun h=>by have:=Nat.le_of_dvd hbl.1 h;omega)
 have h3:=(ip 32 (n - 1) 0).1
 rw [Nat.sub_zero] at h3
 rw [← h3,Nat.pow_mul] at h1
 unfold er
 rw [Bool.or_eq_true,Bool.or_eq_true,decide_eq_true_eq,decide_eq_true_eq]
 rcases mo hp S _ _ h1 with h | h | h
 ·exact .inl (.inl h)
 ·exact .inl (.inr h)
 ·exact .inr h
theorem Pr.trial {n:Nat} (hp:Pr n):gE n:=fun d h1 h2 h3=>by
 rcases hp.2 d (Nat.dvd_of_mod_eq_zero h3) with h | h
 ·omega
 ·subst h;have:=Nat.mul_le_mul_left d h1;omega
/-! ### Prime factors -/
theorem fh : ∀ n,2≤n → ∃ p,Pr p∧p∣n:=by
 intro n
 induction n using Nat.strongRecOn with
 | _ n ih =>
  intro hn
  by_cases hp:Pr n
  ·exact ⟨n,hp,Nat.dvd_refl _⟩
  ·have h1 : ∃ d,d∣n∧d≠1∧d≠n:=Classical.byContradiction fun h=>hp ⟨hn,fun d hd=>Classical.byContradiction fun h2=>h ⟨d,hd,fun e=>h2 (.inl e),fun e=>h2 (.inr e)⟩⟩
   obtain ⟨d,hd,h2,h3⟩:=h1
   have h4:=Nat.le_of_dvd S hd
   have h5:d≠0:=fun e=>by subst e;have:=Nat.eq_zero_of_zero_dvd hd;omega
   obtain ⟨p,hp,hpd⟩:=ih d S S
   exact ⟨p,hp,Nat.dvd_trans hpd hd⟩
theorem mp {n:Nat} (hn:0<n) : ∀ m q,Pr q→q∣n→n - q≤m → ∃ q',Pr q'∧q'∣n ∧ ∀ p,Pr p→p∣n→p≤q'
 | 0, q, h1, h2, h3 => ⟨q, h1, h2, fun p _ hp => by have := Nat.le_of_dvd hn hp; omega⟩
 | m + 1, q, h1, h2, h3 => by
  by_cases h : ∃ p,Pr p∧p∣n∧q<p
  ·obtain ⟨p,p1,p2,p3⟩:=h
   have:=Nat.le_of_dvd hn p2
   exact mp hn m p p1 p2 S
  ·exact ⟨q,h1,h2,fun p p1 p2=>by
    rcases Nat.lt_or_ge q p with h4 | h4
    ·exact absurd ⟨p,p1,p2,h4⟩ h
    ·exact h4⟩
theorem qG {n:Nat} (hn:2≤n) : ∃ q,Pr q∧q∣n ∧ ∀ p,Pr p→p∣n→p≤q :=
 let ⟨p,h1,h2⟩:=fh n hn;mp S n p h1 h2 S
/-! ### Exponents that give 1 for all four bases -/
def gB (q m:Nat):Prop := ∀ b,Bas b→b^m % q=1
theorem gB.mul {q m:Nat} (hq:2≤q) (h:gB q m) (c:Nat):gB q (m*c):=fun b hb=>by rw [Nat.pow_mul]; exact ln hq c (h b hb)
theorem gB.mod {q a b:Nat} (hq:2≤q) (ha:gB q a) (hb:gB q b):gB q (b % a):=fun c hc=>by
 have h1:=hb c hc
 have e:c^b=(c^a)^(b / a)*c^(b % a):=by rw [← Nat.pow_mul, ← Nat.pow_add,Nat.div_add_mod]
 rw [e,Nat.mul_mod,ln hq _ (ha c hc),Nat.one_mul,Nat.mod_mod] at h1
 exact h1
theorem gB.gcd {q:Nat} (hq:2≤q) : ∀ a b,gB q a→gB q b→gB q (Nat.gcd a b):=by
 intro a b
 induction a,b using Nat.gcd.induction with
 | H0 b => intro _ h; rwa [Nat.gcd_zero_left]
 | H1 a b h0 ih => intro ha hb; rw [Nat.gcd_rec]; exact ih (ha.mod hq hb) ha
theorem gB.dvd {q l m:Nat} (hq:2≤q) (hl0:0<l) (hl:gB q l) (hm:gB q m) (h : ∀ p,Pr p→p∣l → ¬ gB q (l / p)):l∣m:=by
 have hg:=gB.gcd hq l m hl hm
 have h1:=Nat.gcd_dvd_left l m
 have h2:=Nat.gcd_dvd_right l m
 generalize Nat.gcd l m=g at *
 obtain ⟨c,rfl⟩:=h1
 have hc:c≠0:=fun e=>by rw [e,Nat.mul_zero] at hl0;omega
 have hg0:g≠0:=fun e=>by rw [e,Nat.zero_mul] at hl0;omega
 by_cases h1:c=1
 ·rw [h1,Nat.mul_one]; exact h2
 ·exfalso
  obtain ⟨p,hp,d,rfl⟩:=fh c S
  have hp0:=hp.1
  refine h p hp ⟨g*d,by rw [Nat.mul_left_comm]⟩ ?_
  rw [show g*(p*d)=p*(g*d) by rw [Nat.mul_left_comm],Nat.mul_div_cancel_left _ S]
  exact hg.mul hq d
theorem qH {n q k:Nat} (hq:Pr q) (hn:n=q*k) (hk:0<k) (h7:7<q) (h : ∀ b,Bas b→b^(n - 1) % n=1):gB q (k - 1):=fun b hb=>by
 have hbl:=hb.lt
 have h2:=hq.1
 have h1:=h b hb
 have h3:b^(n - 1) % q=1:=by
  rw [← Nat.mod_mod_of_dvd _ (show q∣n from ⟨k,hn⟩),h1]; exact Nat.mod_eq_of_lt S
 have h4:=hq.pow_one (b:=b) (fun hd=>by have:=Nat.le_of_dvd hbl.1 hd;omega)
 have e:n - 1=(q - 1)*k+(k - 1):=by
  rw [hn,Nat.sub_mul,Nat.one_mul]
  have:k≤q*k:=Nat.le_mul_of_pos_left _ S
  omega
 rw [e,Nat.pow_add,Nat.pow_mul,Nat.mul_mod,ln h2 _ h4,Nat.one_mul,Nat.mod_mod] at h3
 exact h3
theorem oY {n p:Nat} (hp:Pr p) (hd:p∣n) (hn:2≤n) (h : ∀ b,Bas b→b^(n - 1) % n=1):11≤p:=by
 have hp2:=hp.1
 have key : ∀ b,Bas b → ¬ p∣b:=fun b hb hd2=>by
  have h1:=h b hb
  have h3:b^(n - 1) % p=1:=by rw [← Nat.mod_mod_of_dvd _ hd,h1]; exact Nat.mod_eq_of_lt S
  have h4:p∣b^(n - 1):=by
   rw [show n - 1=n - 2+1 by omega,Nat.pow_succ]; exact Nat.dvd_trans hd2 (Nat.dvd_mul_left _ _)
  rw [Nat.mod_eq_zero_of_dvd h4] at h3
  omega
 have k2:=key 2 (.inl Z)
 have k3:=key 3 (.inr (.inl Z))
 have k5:=key 5 (.inr (.inr (.inl Z)))
 have k7:=key 7 (.inr (.inr (.inr Z)))
 have hnot : ∀ d,d∣p→d=1∨d=p:=hp.2
 rcases Nat.lt_or_ge p 11 with hlt | hge
 ·exfalso
  have:p=2∨p=3∨p=4∨p=5∨p=6∨p=7∨p=8∨p=9∨p=10:=by omega
  rcases this with rfl | rfl | rfl | rfl | rfl | rfl | rfl | rfl | rfl
  ·exact k2 (Nat.dvd_refl _)
  ·exact k3 (Nat.dvd_refl _)
  ·have:=hnot 2 ⟨2,rfl⟩;omega
  ·exact k5 (Nat.dvd_refl _)
  ·have:=hnot 2 ⟨3,rfl⟩;omega
  ·exact k7 (Nat.dvd_refl _)
  ·have:=hnot 2 ⟨4,rfl⟩;omega
  ·have:=hnot 3 ⟨3,rfl⟩;omega
  ·have:=hnot 2 ⟨5,rfl⟩;omega
 ·exact hge
end Tor.Lin
end
section
namespace Tor.Lin
open Tor
noncomputable def ee (a b:Bool):Bool := @Bool.rec (fun _=>Bool) false b a
noncomputable def orQ (a b:Bool):Bool := @Bool.rec (fun _=>Bool) b true a
noncomputable def oZ (a:Bool):Bool := @Bool.rec (fun _=>Bool) true false a
theorem lp {a b:Bool} : ee a b=true↔a=true∧b=true:=by cases a <;> cases b <;> decide
theorem vB {a b:Bool} : orQ a b=true↔a=true∨b=true:=by cases a <;> cases b <;> decide
theorem vl {a:Bool} : oZ a=true ↔ ¬ a=true:=by cases a <;> decide
theorem vm {a b c:Bool} : @Bool.rec (fun _=>Bool) a b c=true↔c=true∧b=true ∨ ¬ c=true∧a=true:=by cases a <;> cases b <;> cases c <;> decide
theorem tF {a b:Nat} : Nat.beq a b=true↔a=b:=⟨Nat.eq_of_beq_eq_true,Nat.beq_eq.mpr⟩
theorem vC {a b:Nat} : Nat.ble a b=true↔a≤b:=⟨Nat.le_of_ble_eq_true,Nat.ble_eq_true_of_le⟩
noncomputable def e6 (n:Nat):Bool:=oZ (gY n)
theorem ol {n:Nat} (h:e6 n=true) (h7:7<n) (h31:n<2147483648) (ho:n % 2=1) : ¬ bT n=true:=by
 rw [← ml h7 h31 ho]; exact vl.1 h
/-! ### A run of candidates -/
noncomputable def bD (s J:Nat):Nat→Nat := @Nat.rec (fun _=>Nat→Nat) (fun _=>1) (fun _ ih n=>Nat.mul n (ih (Nat.add n s))) J
theorem mq {s:Nat} : ∀ (J n i:Nat),i<J→n+i*s∣bD s J n
 | J + 1, n, 0, _ => by
  rw [Nat.zero_mul,Nat.add_zero]
  exact Nat.dvd_mul_right n _
 | J + 1, n, i + 1, h => by
  have h1:=mq (s:=s) J (n+s) i S
  rw [show n+s+i*s=n+(i+1)*s by rw [Nat.add_mul]; omega] at h1
  exact Nat.dvd_trans h1 (Nat.dvd_mul_left _ n)
noncomputable def pQ (P t s J:Nat):Nat→Nat→Bool := @Nat.rec (fun _=>Nat→Nat→Bool) (fun _ _=>true)
 (fun _ ih x n => @Bool.rec (fun _=>Bool) (ih (Nat.mod (Nat.mul x t) P) (Nat.add n s)) (ee (e6 n) (ih (Nat.mod (Nat.mul x t) P) (Nat.add n s))) (Nat.beq (Nat.mod x n) 1)) J
theorem om {P t s:Nat} (ht:t % P=2^s % P) : ∀ (J x n:Nat),0<n→pQ P t s J x n=true→x % P=2^(n - 1) % P→(∀ i,i<J→n+i*s∣P) →
  ∀ i,i<J→2^(n+i*s - 1) % (n+i*s)=1→e6 (n+i*s)=true
 | J + 1, x, n, hn, h, hx, hd, i, hi, h2 => by
  have h4:pQ P t s J (x*t % P) (n+s)=true:=by
   rcases vm.1 h with ⟨_,h3⟩ | ⟨_,h3⟩
   ·exact (lp.1 h3).2
   ·exact h3
  cases i with
  | zero =>
   have hd0:=hd 0 S
   rw [Nat.zero_mul,Nat.add_zero] at h2 hd0 ⊢
   rcases vm.1 h with ⟨_,h3⟩ | ⟨h3,_⟩
   ·exact (lp.1 h3).1
   ·refine absurd (tF.2 ?_) h3
    show x % n=1
    rw [← h2, ← Nat.mod_mod_of_dvd x hd0,hx,Nat.mod_mod_of_dvd _ hd0]
  | succ i =>
   have e:n+(i+1)*s=n+s+i*s:=by rw [Nat.add_mul]; omega
   rw [e] at h2 ⊢
   refine om ht J (x*t % P) (n+s) S h4 ?_ (fun j hj => ?_) i S h2
   ·rw [Nat.mod_mod,show n+s - 1=n - 1+s by omega,Nat.pow_add]
    exact uM hx ht
   ·have:=hd (j+1) S
    rwa [show n+(j+1)*s=n+s+j*s by rw [Nat.add_mul]; omega] at this
noncomputable def o4 (q l j J:Nat):Bool :=
 (fun n s=>(fun P=>pQ P (dX P 64 1 2 s) s J (dX P 64 1 2 (Nat.sub n 1)) n) (bD s J n)) (Nat.mul q (Nat.add 1 (Nat.mul j l))) (Nat.mul q l)
theorem mr {q l j J:Nat} (hq:0<q) (hb:q*(1+j*l)<2^64) (hs:q*l<2^64) (h:o4 q l j J=true) : ∀ i,i<J→2^(q*(1+(j+i)*l) - 1) % (q*(1+(j+i)*l))=1→e6 (q*(1+(j+i)*l))=true:=fun i hi h2=>by
 have e:q*(1+(j+i)*l)=q*(1+j*l)+i*(q*l):=by
  rw [Nat.add_mul, ← Nat.add_assoc,Nat.mul_add q (1+j*l),Nat.mul_left_comm q i l]
 rw [e] at h2 ⊢
 replace h:pQ (bD (q*l) J (q*(1+j*l))) (dX (bD (q*l) J (q*(1+j*l))) 64 1 2 (q*l)) (q*l) J (dX (bD (q*l) J (q*(1+j*l))) 64 1 2 (q*(1+j*l) - 1)) (q*(1+j*l))=true:=h
 refine om ?_ J _ _ (Nat.mul_pos hq S) h ?_ (fun i hi=>mq J _ i hi) i hi h2
 ·rw [gf _ _ _ _ _ hs,Nat.one_mul]
 ·rw [gf _ _ _ _ _ (Nat.lt_of_le_of_lt (Nat.sub_le _ _) hb),Nat.one_mul]
noncomputable def m7 (q l r c:Nat):Nat→Bool := @Nat.rec (fun _=>Nat→Bool) (fun j=>o4 q l j r) (fun _ ih j=>ee (o4 q l j 256) (ih (Nat.add j 256))) c
theorem lz {q l r:Nat} (hq:0<q) (hs:q*l<2^64) : ∀ (c j:Nat),m7 q l r c j=true → ∀ i,j≤i→i<j+256*c+r→q*(1+i*l)<2^64→2^(q*(1+i*l) - 1) % (q*(1+i*l))=1→e6 (q*(1+i*l))=true
 | 0, j, h, i, h1, h2, hb, h3 => by
  have hb:q*(1+j*l)<2^64:=Nat.lt_of_le_of_lt (Nat.mul_le_mul_left _ (Nat.add_le_add_left (Nat.mul_le_mul_right _ h1) _)) hb
  have:=mr hq hb hs h (i - j) S
  rw [show j+(i - j)=i by omega] at this
  exact this h3
 | c + 1, j, h, i, h1, h2, hb, h3 => by
  obtain ⟨h4,h5⟩:=lp.1 h
  rcases Nat.lt_or_ge i (j+256) with h6 | h6
  ·have hb:q*(1+j*l)<2^64:=Nat.lt_of_le_of_lt (Nat.mul_le_mul_left _ (Nat.add_le_add_left (Nat.mul_le_mul_right _ h1) _)) hb
   have:=mr hq hb hs h4 (i - j) S
   rw [show j+(i - j)=i by omega] at this
   exact this h3
  ·exact lz hq hs c (j+256) h5 i h6 (by rw [Nat.mul_add] at h2;omega) hb h3
/-! ### The exponent of a prime -/
noncomputable def qI (q e b:Nat):Bool:=Nat.beq (Nat.mod (dX q 64 1 b e) q) 1
noncomputable def iq (q e:Nat):Bool:=ee (qI q e 2) (ee (qI q e 3) (ee (qI q e 5) (qI q e 7)))
theorem jn {q e b:Nat} (h:e<2^64):qI q e b=true↔b^e % q=1:=by
 unfold qI
 rw [tF]
 show dX q 64 1 b e % q=1↔_
 rw [gf _ _ _ _ _ h,Nat.one_mul]
theorem iP {q e:Nat} (h:e<2^64):iq q e=true↔gB q e:=by
 unfold iq
 rw [lp,lp,lp,jn h,jn h,jn h,jn h]
 constructor
 ·rintro ⟨h2,h3,h5,h7⟩ b (rfl | rfl | rfl | rfl)
  ·exact h2
  ·exact h3
  ·exact h5
  ·exact h7
 ·exact fun h=>⟨h 2 (.inl Z),h 3 (.inr (.inl Z)),h 5 (.inr (.inr (.inl Z))),h 7 (.inr (.inr (.inr Z)))⟩
def lsQ:List Nat := [2,3,5,7,11,13,17,19,23,29,31,37,41,43,47,53,59,61,67,71,73,79,83,89,97,101,103,107,109,113,127,131,137,139,149,151,157,163,167,173,179,181,191,193,197,199,211,223,227,229,233,239,241,251,257]
theorem tG:((List.range 258).all fun d=>lsQ.contains d || Nat.ble d 1 || [2,3,5,7,11,13].any fun e=>Nat.beq (d % e) 0 && !(Nat.beq d e))=true:=by decide +kernel
theorem pR {p:Nat} (hp:Pr p) (h:p<258):p∈lsQ:=by
 have h1:=List.all_eq_true.1 tG p (List.mem_range.2 h)
 rw [Bool.or_eq_true,Bool.or_eq_true] at h1
 rcases h1 with (h1 | h1) | h1
 ·exact List.contains_iff_mem.1 h1
 ·have:=Nat.le_of_ble_eq_true h1;have:=hp.1;omega
 ·obtain ⟨e,he,h2⟩:=List.any_eq_true.1 h1
  rw [Bool.and_eq_true,Bool.not_eq_true'] at h2
  have h3:p % e=0:=Nat.eq_of_beq_eq_true h2.1
  rcases hp.2 e (Nat.dvd_of_mod_eq_zero h3) with h4 | h4
  ·subst h4;exact absurd he Y
  ·subst h4;rw [Nat.beq_refl] at h2;cases h2.2
noncomputable def gF (k:Nat):Nat→Nat := @Nat.rec (fun _=>Nat→Nat) (fun d=>d) (fun k ih d=>Nat.mul (ih d) (ih (Nat.add d (Nat.pow 2 k)))) k
theorem cY : ∀ k d,gF k d=iA k d
 | 0, _ => rfl
 | k + 1, d => by
  rw [iA, ← cY k, ← cY k]; rfl
noncomputable def vn (q l:Nat) (ls:List Nat):Bool := @List.rec Nat (fun _=>Bool) true (fun p _ ih=>ee (orQ (oZ (Nat.beq (Nat.mod l p) 0)) (oZ (iq q (Nat.div l p)))) ih) ls
theorem pS {q l:Nat} (hl:l<2^64) : ∀ {ls:List Nat},vn q l ls=true → ∀ p∈ls,p∣l → ¬ gB q (l / p)
 | x :: ls, h, p, hp, hd => by
  obtain ⟨h1,h2⟩:=lp.1 h
  rcases List.mem_cons.1 hp with rfl | hp
  ·rcases vB.1 h1 with h1 | h1
   ·exact absurd (tF.2 (Nat.mod_eq_zero_of_dvd hd)) (vl.1 h1)
   ·exact fun hE=>vl.1 h1 ((iP (Nat.lt_of_le_of_lt (Nat.div_le_self _ _) hl)).2 hE)
  ·exact pS hl h2 p hp hd
noncomputable def r4 (q l:Nat):Bool:=ee (ee (Nat.ble 1 l) (Nat.ble l 49153)) (ee (iq q l) (ee (vn q l lsQ) (orQ (oZ (iq q (Nat.gcd l (gF 8 2)))) (Nat.beq (Nat.mod (dX l 64 1 (gF 8 2) 16) l) 0))))
theorem qJ {x:Nat} (h1:1≤x) (h2:x<258):x∣gF 8 2:=by
 rw [cY]
 rcases Nat.lt_or_ge x 2 with h | h
 ·rw [show x=1 by omega]; exact Nat.one_dvd _
 ·exact dV h (by show x<2+256;omega)
theorem Pr.cop_small {p e:Nat} (hp:Pr p) (h1:1≤e) (h2:e<p):Nat.Coprime p e:=hp.coprime fun h=>by have:=Nat.le_of_dvd S h;omega
theorem pT {p:Nat} (hp:Pr p) (h:258≤p):Nat.Coprime p (gF 8 2):=by
 rw [cY]
 exact gc fun e h1 h2=>hp.cop_small S (by have:e<2+256:=h2;omega)
theorem Pr.of_pow {p a:Nat} (hp:Pr p) : ∀ k,p∣a^k→p∣a
 | 0, h => by
  have h2:=hp.1
  rw [Nat.pow_zero] at h
  have:=Nat.le_of_dvd Y h;omega
 | k + 1, h => by
  rw [Nat.pow_succ] at h
  rcases hp.mul h with h1 | h1
  ·exact Pr.of_pow hp k h1
  ·exact h1
theorem pU {q l m:Nat} (hq:Pr q) (h:r4 q l=true) (hm:gB q m):0<l∧l≤49153∧l∣m:=by
 obtain ⟨h1,h2⟩:=lp.1 h
 obtain ⟨h3,h4⟩:=lp.1 h2
 obtain ⟨h5,h6⟩:=lp.1 h4
 obtain ⟨h7,h8⟩:=lp.1 h1
 have l1:=vC.1 h7
 have l2:=vC.1 h8
 have l64:l<2^64:=Nat.lt_of_le_of_lt l2 Y
 refine ⟨l1,l2,gB.dvd hq.1 l1 ((iP l64).1 h3) hm fun p hp hd => ?_⟩
 rcases Nat.lt_or_ge p 258 with hlt | hge
 ·exact pS l64 h5 p (pR hp hlt) hd
 ·rcases vB.1 h6 with h9 | h9
  ·intro hE
   obtain ⟨x,hx⟩:=hd
   have hp0:0<p:=by omega
   have hx1:1≤x:=Nat.pos_of_ne_zero fun e=>by rw [e,Nat.mul_zero] at hx;omega
   have hx2:x<258:=by
    rcases Nat.lt_or_ge x 258 with h | h
    ·exact h
    ·have:=Nat.mul_le_mul hge h;omega
   rw [hx,Nat.mul_div_cancel_left _ hp0] at hE
   refine vl.1 h9 ((iP (Nat.lt_of_le_of_lt (Nat.le_of_dvd l1 (Nat.gcd_dvd_left _ _)) l64)).2 ?_)
   obtain ⟨c,hc⟩:=Nat.dvd_gcd (show x∣l from ⟨p,by rw [hx,Nat.mul_comm]⟩) (qJ hx1 hx2)
   rw [hc]; exact hE.mul hq.1 c
  ·exfalso
   have h10:dX l 64 1 (gF 8 2) 16 % l=0:=tF.1 h9
   rw [gf _ _ _ _ _ Y,Nat.one_mul] at h10
   have h11:=Pr.of_pow hp 16 (Nat.dvd_trans hd (Nat.dvd_of_mod_eq_zero h10))
   have h12:=pT hp hge
   have h13:=Nat.dvd_gcd (Nat.dvd_refl p) h11
   rw [h12] at h13
   have:=Nat.le_of_dvd Y h13
   omega
noncomputable def vG (q p f:Nat):Nat→Nat := @Nat.rec (fun _=>Nat→Nat) (fun l=>l) (fun _ ih l => @Bool.rec (fun _=>Nat) l (ih (Nat.div l p)) (ee (Nat.beq (Nat.mod l p) 0) (iq q (Nat.div l p)))) f
noncomputable def lA (q:Nat) (ls:List Nat):Nat→Nat := @List.rec Nat (fun _=>Nat→Nat) (fun l=>l) (fun p _ ih l=>ih (vG q p 16 l)) ls
/-! ### Primes from 258 to 46340 -/
noncomputable def c1Q (q:Nat):Bool:=(fun l=>ee (r4 q l) ((fun r=>m7 q l (Nat.mod r 256) (Nat.div r 256) 1) (Nat.div (Nat.sub (Nat.div 2147483647 q) 1) l))) (lA q lsQ (Nat.sub q 1))
noncomputable def cQ (q:Nat):Bool:=orQ (oZ (Nat.beq (Nat.gcd q (gF 8 2)) 1)) (c1Q q)
theorem r5 {q k:Nat} (hq:Pr q) (h2:q<49154) (h:c1Q q=true) (hm:gB q (k - 1)) (hk:2≤k) (hn:q*k<2147483648) (hf:2^(q*k - 1) % (q*k)=1):e6 (q*k)=true:=by
 have hq2:=hq.1
 replace h:ee (r4 q (lA q lsQ (q - 1))) (m7 q (lA q lsQ (q - 1)) ((2147483647 / q - 1) / lA q lsQ (q - 1) % 256) ((2147483647 / q - 1) / lA q lsQ (q - 1) / 256) 1)=true:=h
 generalize lA q lsQ (q - 1)=l at h
 obtain ⟨h3,h4⟩:=lp.1 h
 obtain ⟨l1,l2,j,hj⟩:=pU hq h3 hm
 have hk2:k=1+j*l:=by rw [Nat.mul_comm]; omega
 have hj1:1≤j:=Nat.pos_of_ne_zero fun e=>by rw [e,Nat.mul_zero] at hj;omega
 have hkq:k≤2147483647 / q:=(Nat.le_div_iff_mul_le S).2 (by rw [Nat.mul_comm]; omega)
 have hjr:j≤(2147483647 / q - 1) / l:=(Nat.le_div_iff_mul_le l1).2 S
 have hs:q*l<2^64:=Nat.lt_of_lt_of_le (Nat.mul_lt_mul_of_lt_of_le h2 l2 Y) Y
 rw [hk2] at hf hn ⊢
 refine lz S hs _ _ h4 j hj1 ?_ (Nat.lt_trans hn Y) hf
 have:=Nat.div_add_mod ((2147483647 / q - 1) / l) 256
 omega
theorem vo {q:Nat} (hq:Pr q) (h1:258≤q) (h:cQ q=true):c1Q q=true:=by
 rcases vB.1 h with h | h
 ·exact absurd (tF.2 (pT hq h1)) (vl.1 h)
 ·exact h
noncomputable def csQ (ls:List Nat):Bool := @List.rec Nat (fun _=>Bool) true (fun q _ ih=>ee (c1Q q) ih) ls
theorem r6 (x:Nat) (ls:List Nat):csQ (x :: ls)=ee (c1Q x) (csQ ls):=rfl
theorem o5 (ls:List Nat):csQ ls=true → ∀ q∈ls,c1Q q=true:=by
 induction ls with
 | nil => intro _ q hq; cases hq
 | cons x ls ih =>
  intro h q hq
  rw [r6] at h
  obtain ⟨h1,h2⟩:=lp.1 h
  rcases List.mem_cons.1 hq with e | hq
  ·rw [e]; exact h1
  ·exact ih h2 q hq
/-! ### Numbers whose prime factors are at most 257 -/
noncomputable def wQ (M r p:Nat) (ih:Nat→Bool) (f:Nat):Nat→Bool := @Nat.rec (fun _=>Nat→Bool) (fun _=>false)
 (fun _ w K=>(fun L => @Bool.rec (fun _=>Bool) true (@Bool.rec (fun _=>Bool) false (@Bool.rec (fun _=>Bool) (w L) (ee (e6 L) (w L)) (Nat.beq (Nat.mod L M) r)) (ih K)) (Nat.ble L 2147483647)) (Nat.mul K p)) f
noncomputable def tQ (M r:Nat) (ps:List Nat):Nat→Bool := @List.rec Nat (fun _=>Nat→Bool) (fun _=>true) (fun p _ ih=>wQ M r p ih 12) ps
theorem tZ {M r p:Nat} {ih:Nat→Bool} {ps:List Nat} (hps : ∀ x∈ps,p<x) (hih : ∀ K m,ih K=true→0<m→(∀ x,Pr x→x∣m→x∈ps)→K*m≤2147483647→K*m % M=r→m=1∨e6 (K*m)=true) :
  ∀ (f K m:Nat),wQ M r p ih f K=true→0<m→(∀ x,Pr x→x∣m→x∈p :: ps)→K*m≤2147483647→K*m % M=r→m=1∨e6 (K*m)=true
 | 0, K, m, h, _, _, _, _ => by cases h
 | f + 1, K, m, h, hm, hx, hb, hr => by
  by_cases h1:m=1
  ·exact .inl h1
  ·obtain ⟨x,x1,x2⟩:=fh m S
   have hxm:=Nat.le_of_dvd hm x2
   have hpx:p≤x:=by
    rcases List.mem_cons.1 (hx x x1 x2) with h2 | h2
    ·omega
    ·exact Nat.le_of_lt (hps x h2)
   replace h : @Bool.rec (fun _=>Bool) true (@Bool.rec (fun _=>Bool) false (@Bool.rec (fun _=>Bool) (wQ M r p ih f (K*p)) (ee (e6 (K*p)) (wQ M r p ih f (K*p))) (Nat.beq (K*p % M) r)) (ih K)) (Nat.ble (K*p) 2147483647)=true:=h
   rcases vm.1 h with ⟨_,h2⟩ | ⟨h2,_⟩
   ·rcases vm.1 h2 with ⟨h3,h4⟩ | ⟨_,h4⟩
    ·by_cases hd:p∣m
     ·obtain ⟨m',rfl⟩:=hd
      have hm':0<m':=Nat.pos_of_ne_zero fun e=>by rw [e,Nat.mul_zero] at hm;omega
      have h6:wQ M r p ih f (K*p)=true:=by
       rcases vm.1 h4 with ⟨_,h5⟩ | ⟨_,h5⟩
       ·exact (lp.1 h5).2
       ·exact h5
      by_cases h7:m'=1
      ·rw [h7,Nat.mul_one] at hr ⊢
       rcases vm.1 h4 with ⟨_,h5⟩ | ⟨h5,_⟩
       ·exact .inr (lp.1 h5).1
       ·exact absurd (tF.2 hr) h5
      ·rw [← Nat.mul_assoc] at hb hr ⊢
       rcases tZ hps hih f (K*p) m' h6 hm' (fun y y1 y2=>hx y y1 (Nat.dvd_trans y2 (Nat.dvd_mul_left _ _))) hb hr with h8 | h8
       ·exact absurd h8 h7
       ·exact .inr h8
     ·exact hih K m h3 hm (fun y y1 y2=>by
       rcases List.mem_cons.1 (hx y y1 y2) with h8 | h8
       ·exact absurd (h8▸y2) hd
       ·exact h8) hb hr
    ·cases h4
   ·exact absurd (vC.2 (Nat.le_trans (Nat.mul_le_mul_left K (Nat.le_trans hpx hxm)) hb)) h2
theorem t4 {M r:Nat} : ∀ {ps:List Nat},ps.Pairwise (· < ·) → ∀ K m,tQ M r ps K=true→0<m→(∀ x,Pr x→x∣m→x∈ps)→K*m≤2147483647→K*m % M=r→m=1∨e6 (K*m)=true
 | [], _, k, m, _, hm, hx, _, _ => by
  by_cases h1:m=1
  ·exact .inl h1
  ·obtain ⟨x,x1,x2⟩:=fh m S
   cases hx x x1 x2
 | p :: ps, hps, K, m, h, hm, hx, hb, hr => by
  rw [List.pairwise_cons] at hps
  exact tZ hps.1 (fun K m h1 h2 h3 h4 h5=>t4 hps.2 K m h1 h2 h3 h4 h5) 12 K m h hm hx hb hr
noncomputable def j9 (q:Nat) (ls:List Nat):List Nat := @List.rec Nat (fun _=>List Nat) [] (fun p _ ih => @Bool.rec (fun _=>List Nat) ih (p :: ih) (Nat.ble p q)) ls
theorem jP {q x:Nat} (hx:x≤q) : ∀ {ls:List Nat},x∈ls→x∈j9 q ls
 | p :: ls, h => by
  show x ∈ @Bool.rec (fun _=>List Nat) (j9 q ls) (p :: j9 q ls) (Nat.ble p q)
  rcases List.mem_cons.1 h with rfl | h
  ·rw [vC.2 hx]; exact List.mem_cons_self
  ·cases Nat.ble p q
   ·exact jP hx h
   ·exact List.mem_cons_of_mem _ (jP hx h)
theorem jQ {q:Nat} : ∀ {ls:List Nat},(j9 q ls).Sublist ls
 | [] => List.Sublist.refl _
 | p :: ls => by
  show (@Bool.rec (fun _=>List Nat) (j9 q ls) (p :: j9 q ls) (Nat.ble p q)).Sublist (p :: ls)
  cases Nat.ble p q
  ·exact List.Sublist.cons _ jQ
  ·exact List.Sublist.cons_cons _ jQ
def hiQ:List Nat:=lsQ.drop 4
theorem pV {p:Nat} (hp:Pr p) (h11:11≤p) (h:p<258):p∈hiQ:=by
 have h1:=pR hp h
 rw [← List.take_append_drop 4 lsQ] at h1
 rcases List.mem_append.1 h1 with h2 | h2
 ·have h3:p ∈ [2,3,5,7]:=h2
  simp only [List.mem_cons,List.not_mem_nil,or_false] at h3
  omega
 ·exact h2
theorem uO:hiQ.Pairwise (· < ·):=by decide +kernel
noncomputable def dQ (q:Nat):Bool:=(fun l=>ee (r4 q l) (tQ (Nat.mul q l) (Nat.mod q (Nat.mul q l)) (j9 q hiQ) q)) (lA q lsQ (Nat.sub q 1))
noncomputable def dsQ (ls:List Nat):Bool := @List.rec Nat (fun _=>Bool) true (fun q _ ih=>ee (dQ q) ih) ls
theorem r7 (x:Nat) (ls:List Nat):dsQ (x :: ls)=ee (dQ x) (dsQ ls):=rfl
theorem m8 (ls:List Nat):dsQ ls=true → ∀ q∈ls,dQ q=true:=by
 induction ls with
 | nil => intro _ q hq; cases hq
 | cons x ls ih =>
  intro h q hq
  rw [r7] at h
  obtain ⟨h1,h2⟩:=lp.1 h
  rcases List.mem_cons.1 hq with e | hq
  ·rw [e]; exact h1
  ·exact ih h2 q hq
theorem vp {q k:Nat} (hq:Pr q) (h:dQ q=true) (hm:gB q (k - 1)) (hk:2≤k) (hn:q*k<2147483648) (hp : ∀ x,Pr x→x∣k→11≤x∧x≤q) (h257:q<258):e6 (q*k)=true:=by
 replace h:ee (r4 q (lA q lsQ (q - 1))) (tQ (q*lA q lsQ (q - 1)) (q % (q*lA q lsQ (q - 1))) (j9 q hiQ) q)=true:=h
 generalize lA q lsQ (q - 1)=l at h
 obtain ⟨h3,h4⟩:=lp.1 h
 obtain ⟨l1,l2,j,hj⟩:=pU hq h3 hm
 rcases t4 (uO.sublist jQ) q k h4 S (fun x x1 x2=>jP (hp x x1 x2).2 (pV x1 (hp x x1 x2).1 (by have:=(hp x x1 x2).2;omega))) S (by
  rw [show k=1+l*j by omega,Nat.mul_add,Nat.mul_one, ← Nat.mul_assoc,Nat.add_mul_mod_self_left]) with h5 | h5
 ·omega
 ·exact h5
/-! ### Prime factors above 46340 -/
noncomputable def e7:Nat:=Nat.mul (gF 15 2) (Nat.mul (gF 13 32770) (Nat.mul (gF 12 40962) (Nat.mul (gF 10 45058) (Nat.mul (gF 8 46082) (Nat.mul 46338 (Nat.mul 46339 46340))))))
theorem r8 {e:Nat} (h1:1≤e) (h2:e≤46340):e∣e7:=by
 unfold e7
 rw [cY,cY,cY,cY,cY]
 by_cases c0:e=1
 ·rw [c0]; exact Nat.one_dvd _
 by_cases c1:e<32770
 ·exact Nat.dvd_trans (dV (k:=15) (d:=2) S (by show e<2+32768;omega)) (Nat.dvd_mul_right _ _)
 refine Nat.dvd_trans ?_ (Nat.dvd_mul_left _ _)
 by_cases c2:e<40962
 ·exact Nat.dvd_trans (dV (k:=13) (d:=32770) S (by show e<32770+8192;omega)) (Nat.dvd_mul_right _ _)
 refine Nat.dvd_trans ?_ (Nat.dvd_mul_left _ _)
 by_cases c3:e<45058
 ·exact Nat.dvd_trans (dV (k:=12) (d:=40962) S (by show e<40962+4096;omega)) (Nat.dvd_mul_right _ _)
 refine Nat.dvd_trans ?_ (Nat.dvd_mul_left _ _)
 by_cases c4:e<46082
 ·exact Nat.dvd_trans (dV (k:=10) (d:=45058) S (by show e<45058+1024;omega)) (Nat.dvd_mul_right _ _)
 refine Nat.dvd_trans ?_ (Nat.dvd_mul_left _ _)
 by_cases c5:e<46338
 ·exact Nat.dvd_trans (dV (k:=8) (d:=46082) S (by show e<46082+256;omega)) (Nat.dvd_mul_right _ _)
 refine Nat.dvd_trans ?_ (Nat.dvd_mul_left _ _)
 have:e=46338∨e=46339∨e=46340:=by omega
 rcases this with rfl | rfl | rfl
 ·exact Nat.dvd_mul_right _ _
 ·exact Nat.dvd_trans (Nat.dvd_mul_right 46339 46340) (Nat.dvd_mul_left _ _)
 ·exact Nat.dvd_trans (Nat.dvd_mul_left 46340 46339) (Nat.dvd_mul_left _ _)
theorem r9 {q:Nat} (hq:Pr q) (h:46341≤q):Nat.Coprime q e7:=by
 unfold e7
 rw [cY,cY,cY,cY,cY]
 have key : ∀ k d,1≤d→d+2^k≤46341→Nat.Coprime q (iA k d):=fun k d h1 h2=>gc fun e h3 h4=>hq.cop_small S S
 exact (key 15 2 Y Y).mul_right ((key 13 32770 Y Y).mul_right ((key 12 40962 Y Y).mul_right ((key 10 45058 Y Y).mul_right ((key 8 46082 Y Y).mul_right
  ((hq.cop_small Y S).mul_right ((hq.cop_small Y S).mul_right (hq.cop_small Y S)))))))
noncomputable def lB (r k:Nat):Bool:=ee (ee (Nat.ble r 2147395600) (Nat.beq (Nat.gcd r (Nat.mod e7 r)) 1)) (orQ (Nat.ble 2147483648 (Nat.mul r k)) (e6 (Nat.mul r k)))
theorem lC {q r k:Nat} (hq:Pr q) (h:46341≤q) (hr:0<r) (hd:q∣r) (hf:lB r k=true) (hn:q*k<2147483648):e6 (q*k)=true:=by
 obtain ⟨h1,h2⟩:=lp.1 hf
 obtain ⟨h3,h4⟩:=lp.1 h1
 have h5:=vC.1 h3
 have h6:=tF.1 h4
 obtain ⟨c,rfl⟩:=hd
 have hc:c≠0:=fun e=>by rw [e,Nat.mul_zero] at hr;omega
 by_cases h1:c=1
 ·subst h1
  rw [Nat.mul_one] at h2
  rcases vB.1 h2 with h7 | h7
  ·have:=vC.1 h7
   have:2147483648≤q*k:=this
   omega
  ·exact h7
 ·exfalso
  obtain ⟨p,hp,hpc⟩:=fh c S
  have hp2:=hp.1
  have hcl:c≤46340:=by
   rcases Nat.lt_or_ge 46340 c with h8 | h8
   ·have:=Nat.mul_le_mul h h8;omega
   ·exact h8
  have hpl:=Nat.le_of_dvd S hpc
  have d1:p∣q*c:=Nat.dvd_trans hpc (Nat.dvd_mul_left _ _)
  have d2:p∣e7 % (q*c):=(Nat.dvd_mod_iff d1).2 (r8 S S)
  have d3:=Nat.dvd_gcd d1 d2
  rw [show Nat.gcd (q*c) (e7 % (q*c))=1 from h6] at d3
  have:=Nat.le_of_dvd Y d3
  omega
noncomputable def lD (m:Nat):Nat:=(fun g2=>(fun g5=>(fun g7=>Nat.div g7 (Nat.gcd g7 (dX g7 64 1 (Nat.mod e7 g7) 64)))
 (Nat.gcd g5 (Nat.sub (dX g5 64 1 7 m) 1))) (Nat.gcd g2 (Nat.sub (dX g2 64 1 5 m) 1))) (Nat.gcd (Nat.sub (Nat.pow 2 m) 1) (Nat.sub (Nat.pow 3 m) 1))
theorem lE {q x:Nat} (hq:2≤q) (h:x % q=1):q∣x - 1:=by
 have:=Nat.div_add_mod x q
 exact ⟨x / q,by omega⟩
theorem sc {q m:Nat} (hq:Pr q) (h:46341≤q) (hm:gB q m) (h64:m<2^64) (h0:0<m):q∣lD m∧0<lD m:=by
 have h2:=hq.1
 have hp1:1<2^m:=Nat.one_lt_two_pow S
 have a2:q∣Nat.gcd (2^m - 1) (3^m - 1):=Nat.dvd_gcd (lE h2 (hm 2 (.inl Z))) (lE h2 (hm 3 (.inr (.inl Z))))
 have z2:0<Nat.gcd (2^m - 1) (3^m - 1):=Nat.gcd_pos_of_pos_left _ S
 show q∣(fun g2=>(fun g5=>(fun g7=>g7 / (Nat.gcd g7 (dX g7 64 1 (e7 % g7) 64))) (Nat.gcd g5 (dX g5 64 1 7 m - 1))) (Nat.gcd g2 (dX g2 64 1 5 m - 1))) (Nat.gcd (2^m - 1) (3^m - 1))∧0<(fun g2=>(fun g5=>(fun g7=>g7 / (Nat.gcd g7 (dX g7 64 1 (e7 % g7) 64))) (Nat.gcd g5 (dX g5 64 1 7 m - 1))) (Nat.gcd g2 (dX g2 64 1 5 m - 1))) (Nat.gcd (2^m - 1) (3^m - 1))
 generalize Nat.gcd (2^m - 1) (3^m - 1)=g2 at *
 have step : ∀ g b,q∣g→0<g→Bas b→q∣Nat.gcd g (dX g 64 1 b m - 1)∧0<Nat.gcd g (dX g 64 1 b m - 1):=fun g b hg hz hb=>by
  refine ⟨Nat.dvd_gcd hg (lE h2 ?_),Nat.gcd_pos_of_pos_left _ hz⟩
  rw [← Nat.mod_mod_of_dvd _ hg,gf _ _ _ _ _ h64,Nat.one_mul,Nat.mod_mod_of_dvd _ hg]
  exact hm b hb
 obtain ⟨a5,z5⟩:=step g2 5 a2 z2 (.inr (.inr (.inl Z)))
 dsimp only
 generalize Nat.gcd g2 (dX g2 64 1 5 m - 1)=g5 at *
 obtain ⟨a7,z7⟩:=step g5 7 a5 z5 (.inr (.inr (.inr Z)))
 generalize Nat.gcd g5 (dX g5 64 1 7 m - 1)=g7 at *
 have hx : ¬ q∣Nat.gcd g7 (dX g7 64 1 (e7 % g7) 64):=fun hd=>by
  have h3:=Nat.dvd_trans hd (Nat.gcd_dvd_right _ _)
  have h4:dX g7 64 1 (e7 % g7) 64 % q=e7^64 % q:=by
   rw [← Nat.mod_mod_of_dvd _ a7,gf _ _ _ _ _ Y,Nat.one_mul,Nat.mod_mod_of_dvd _ a7]
   exact tE _ (Nat.mod_mod_of_dvd _ a7)
  rw [Nat.mod_eq_zero_of_dvd h3] at h4
  have h5:=Pr.of_pow hq 64 (Nat.dvd_of_mod_eq_zero h4.symm)
  have h6:=Nat.dvd_gcd (Nat.dvd_refl q) h5
  rw [r9 hq h] at h6
  have:=Nat.le_of_dvd Y h6
  omega
 obtain ⟨c,hc⟩:=Nat.gcd_dvd_left g7 (dX g7 64 1 (e7 % g7) 64)
 have hz:=Nat.gcd_pos_of_pos_left (dX g7 64 1 (e7 % g7) 64) z7
 generalize Nat.gcd g7 (dX g7 64 1 (e7 % g7) 64)=x at *
 rw [hc,Nat.mul_div_cancel_left _ hz]
 refine ⟨?_,Nat.pos_of_ne_zero fun e=>by rw [e,Nat.mul_zero] at hc;omega⟩
 rcases hq.mul (hc▸a7) with h3 | h3
 ·exact absurd h3 hx
 ·exact h3
noncomputable def bQ (k:Nat):Bool:=orQ (oZ (Nat.beq (Nat.gcd k 210) 1)) ((fun r=>orQ (Nat.beq r 1) (orQ (lB r k) (ee (Nat.beq r 3661339771) (ee (lB 54121 k) (lB 67651 k))))) (lD (Nat.sub k 1)))
theorem vq {q k:Nat} (hq:Pr q) (h:46341≤q) (hb:bQ k=true) (hm:gB q (k - 1)) (hk:2≤k) (h64:k<2^64) (hn:q*k<2147483648) (hp : ∀ x,Pr x→x∣k→11≤x):e6 (q*k)=true:=by
 have hg:Nat.gcd k 210=1:=by
  by_cases h1:Nat.gcd k 210=1
  ·exact h1
  ·exfalso
   have h0:=Nat.gcd_pos_of_pos_right k (show 0<210 by decide)
   obtain ⟨p,p1,p2⟩:=fh (Nat.gcd k 210) S
   have h3:=hp p p1 (Nat.dvd_trans p2 (Nat.gcd_dvd_left _ _))
   have h4:p∣2*(3*(5*7)):=Nat.dvd_trans p2 (Nat.gcd_dvd_right _ _)
   rcases p1.mul h4 with h5 | h5
   ·have:=Nat.le_of_dvd Y h5;omega
   rcases p1.mul h5 with h5 | h5
   ·have:=Nat.le_of_dvd Y h5;omega
   rcases p1.mul h5 with h5 | h5
   ·have:=Nat.le_of_dvd Y h5;omega
   ·have:=Nat.le_of_dvd Y h5;omega
 rcases vB.1 hb with h1 | h1
 ·exact absurd (tF.2 hg) (vl.1 h1)
 ·obtain ⟨h2,h0⟩:=sc hq h hm S S
  replace h1:orQ (Nat.beq (lD (k - 1)) 1) (orQ (lB (lD (k - 1)) k) (ee (Nat.beq (lD (k - 1)) 3661339771) (ee (lB 54121 k) (lB 67651 k))))=true:=h1
  generalize lD (k - 1)=r at *
  rcases vB.1 h1 with h3 | h3
  ·have h4:=tF.1 h3
   rw [h4] at h2
   have:=Nat.le_of_dvd Y h2
   omega
  rcases vB.1 h3 with h4 | h4
  ·exact lC hq h h0 h2 h4 hn
  ·obtain ⟨h5,h6⟩:=lp.1 h4
   obtain ⟨h7,h8⟩:=lp.1 h6
   rw [tF.1 h5,show 3661339771=54121*67651 from rfl] at h2
   rcases hq.mul h2 with h9 | h9
   ·exact lC hq h Y h9 h7 hn
   ·exact lC hq h Y h9 h8 hn
end Tor.Lin
end
section
namespace Tor.Lin
open Tor
theorem vH:dG bQ 13 2=true:=by decide +kernel
theorem vI:dG bQ 13 8194=true:=by decide +kernel
theorem vJ:dG bQ 13 16386=true:=by decide +kernel
theorem vK:dG bQ 13 24578=true:=by decide +kernel
theorem vL:dG bQ 13 32770=true:=by decide +kernel
theorem vM:dG bQ 12 40962=true:=by decide +kernel
theorem vN:ee (dG bQ 10 45058) (ee (dG bQ 8 46082) (dG bQ 2 46337))=true:=by decide +kernel
theorem vO:dG cQ 5 258=true:=by decide +kernel
theorem vP:dG cQ 5 290=true:=by decide +kernel
theorem vQ:dG cQ 6 322=true:=by decide +kernel
theorem vR:dG cQ 6 386=true:=by decide +kernel
theorem vS:dG cQ 6 450=true:=by decide +kernel
theorem vT:dG cQ 8 514=true:=by decide +kernel
theorem vU:dG cQ 8 770=true:=by decide +kernel
theorem vV:dG cQ 10 1026=true:=by decide +kernel
theorem vW:dG cQ 11 2050=true:=by decide +kernel
theorem vr:dG cQ 12 4098=true:=by decide +kernel
theorem vt:dG cQ 13 8194=true:=by decide +kernel
theorem vu:dG cQ 13 16386=true:=by decide +kernel
theorem vv:dG cQ 13 24578=true:=by decide +kernel
theorem vy:dG cQ 13 32770=true:=by decide +kernel
theorem vz:dG cQ 13 40962=true:=by decide +kernel
theorem vX:csQ [191,193,197]=true:=by decide +kernel
theorem vY:csQ [199,211,223,227]=true:=by decide +kernel
theorem vZ:csQ [229,233,239,241,251,257]=true:=by decide +kernel
theorem v5:dsQ [11,13,17,19,23,29,31,37,41,43,47,53,59,61,67,71,73,79,83,89,97,101]=true:=by decide +kernel
theorem v6:dsQ [103,107,109,113,127,131,137]=true:=by decide +kernel
theorem v7:dsQ [139,149,151,157,163]=true:=by decide +kernel
theorem v8:dsQ [167,173,179,181]=true:=by decide +kernel
end Tor.Lin
end
section
namespace Tor.Lin
open Tor
theorem uP {k:Nat} (h1:2≤k) (h2:k≤46340):bQ k=true:=by
 by_cases c1:k<8194
 ·exact bH vH k h1 (by show k<2+8192;omega)
 by_cases c2:k<16386
 ·exact bH vI k S (by show k<8194+8192;omega)
 by_cases c3:k<24578
 ·exact bH vJ k S (by show k<16386+8192;omega)
 by_cases c4:k<32770
 ·exact bH vK k S (by show k<24578+8192;omega)
 by_cases c5:k<40962
 ·exact bH vL k S (by show k<32770+8192;omega)
 by_cases c6:k<45058
 ·exact bH vM k S (by show k<40962+4096;omega)
 obtain ⟨h3,h4⟩:=lp.1 vN
 obtain ⟨h5,h6⟩:=lp.1 h4
 by_cases c7:k<46082
 ·exact bH h3 k S (by show k<45058+1024;omega)
 by_cases c8:k<46338
 ·exact bH h5 k S (by show k<46082+256;omega)
 exact bH h6 k S (by show k<46337+4;omega)
theorem uQ {q:Nat} (h1:258≤q) (h2:q≤46340):cQ q=true:=by
 by_cases c1:q<290
 ·exact bH vO q h1 (by show q<258+32;omega)
 by_cases c2:q<322
 ·exact bH vP q S (by show q<290+32;omega)
 by_cases c3:q<386
 ·exact bH vQ q S (by show q<322+64;omega)
 by_cases c4:q<450
 ·exact bH vR q S (by show q<386+64;omega)
 by_cases c5:q<514
 ·exact bH vS q S (by show q<450+64;omega)
 by_cases c6:q<770
 ·exact bH vT q S (by show q<514+256;omega)
 by_cases c7:q<1026
 ·exact bH vU q S (by show q<770+256;omega)
 by_cases c8:q<2050
 ·exact bH vV q S (by show q<1026+1024;omega)
 by_cases c9:q<4098
 ·exact bH vW q S (by show q<2050+2048;omega)
 by_cases c10:q<8194
 ·exact bH vr q S (by show q<4098+4096;omega)
 by_cases c11:q<16386
 ·exact bH vt q S (by show q<8194+8192;omega)
 by_cases c12:q<24578
 ·exact bH vu q S (by show q<16386+8192;omega)
 by_cases c13:q<32770
 ·exact bH vv q S (by show q<24578+8192;omega)
 by_cases c14:q<40962
 ·exact bH vy q S (by show q<32770+8192;omega)
 exact bH vz q S (by show q<40962+8192;omega)
theorem tH {q:Nat} (hq:Pr q) (h1:11≤q) (h2:q<258):dQ q=true∨c1Q q=true:=by
 have h3:=pV hq h1 h2
 have h4:q ∈ [11,13,17,19,23,29,31,37,41,43,47,53,59,61,67,71,73,79,83,89,97,101] ++ ([103,107,109,113,127,131,137] ++ ([139,149,151,157,163] ++ ([167,173,179,181] ++ ([191,193,197] ++ ([199,211,223,227] ++ [229,233,239,241,251,257]))))):=h3
 rcases List.mem_append.1 h4 with h | h4
 ·exact .inl (m8 _ v5 q h)
 rcases List.mem_append.1 h4 with h | h4
 ·exact .inl (m8 _ v6 q h)
 rcases List.mem_append.1 h4 with h | h4
 ·exact .inl (m8 _ v7 q h)
 rcases List.mem_append.1 h4 with h | h4
 ·exact .inl (m8 _ v8 q h)
 rcases List.mem_append.1 h4 with h | h4
 ·exact .inr (o5 _ vX q h)
 rcases List.mem_append.1 h4 with h | h4
 ·exact .inr (o5 _ vY q h)
 ·exact .inr (o5 _ vZ q h4)
theorem o6 {n:Nat} (h7:7<n) (h31:n<2147483648) (hc : ¬ Pr n) : ¬ bT n=true:=by
 intro hp
 rcases Nat.mod_two_eq_zero_or_one n with he | ho
 ·unfold bT at hp
  rw [if_neg S,if_pos he] at hp
  have:=of_decide_eq_true hp
  omega
 ·have hf : ∀ b,Bas b→b^(n - 1) % n=1:=fun b hb=>m6 h7 h31 ho hp hb
  obtain ⟨q,hq,hd,hmax⟩:=qG (n:=n) S
  have hbig : ∀ x,Pr x→x∣n→11≤x:=fun x x1 x2=>oY x1 x2 S hf
  have hq11:=hbig q hq hd
  obtain ⟨k,hk⟩:=hd
  have hk0:k≠0:=fun e=>by rw [e,Nat.mul_zero] at hk;omega
  have hk1:k≠1:=fun e=>by rw [e,Nat.mul_one] at hk;exact hc (hk▸hq)
  have hE:=qH hq hk S S hf
  have hkx : ∀ x,Pr x→x∣k→11≤x∧x≤q:=fun x x1 x2=>by
   have h3:x∣n:=hk▸Nat.dvd_trans x2 (Nat.dvd_mul_left _ _)
   exact ⟨hbig x x1 h3,hmax x x1 h3⟩
  have h2:=hf 2 (.inl Z)
  rw [hk] at h2 h31
  have key:e6 (q*k)=true:=by
   rcases Nat.lt_or_ge q 258 with c1 | c1
   ·rcases tH hq hq11 c1 with h | h
    ·exact vp hq h hE S h31 hkx c1
    ·exact r5 hq S h hE S h31 h2
   ·rcases Nat.lt_or_ge 46340 q with c2 | c2
    ·have hkl:k≤46340:=by
      rcases Nat.lt_or_ge 46340 k with h | h
      ·have h4:=Nat.mul_le_mul c2 h
       omega
      ·exact h
     exact vq hq c2 (uP S hkl) hE S (Nat.lt_of_le_of_lt hkl Y) h31 (fun x x1 x2=>(hkx x x1 x2).1)
    ·exact r5 hq S (vo hq c1 (uQ c1 c2)) hE S h31 h2
  rw [← hk] at key h31
  exact ol key h7 h31 ho hp
theorem qK (n:Nat):bT n=jL n:=by
 rcases Nat.lt_or_ge n 65536 with h | h
 ·exact oe h
 ·rcases Nat.lt_or_ge n 2147483648 with h2 | h2
  ·by_cases hp:Pr n
   ·rw [oX hp S h2,lf.2 ⟨hp.1,h2,hp.trial⟩]
   ·rw [Bool.eq_false_iff.2 (o6 S h2 hp)]
    exact (Bool.eq_false_iff.2 fun e=>hp (Pr.of_trial (lf.1 e).1 (lf.1 e).2.2)).symm
  ·have h3:bT n=false:=by unfold bT;rw [if_pos (.inr h2)]
   rw [h3]
   exact (Bool.eq_false_iff.2 fun e=>by have:=(lf.1 e).2.1;omega).symm
end Tor.Lin
end
section
namespace Tor
open Lin (Pr)
structure PrimR (l:List (Nat × Nat)):Prop where
 good : ∀ p∈l,Pr p.1∧p.1<2147483648∧p.2<p.1
 nd:(l.map (·.1)).Nodup
theorem uZ {n:Nat} : bT n=true↔Pr n∧n<2147483648:=by
 rw [Lin.qK,lf]
 exact ⟨fun ⟨h1,h2,h3⟩=>⟨Lin.Pr.of_trial h1 h3,h2⟩,fun ⟨h1,h2⟩=>⟨h1.1,h2,h1.trial⟩⟩
theorem lF : ∀ (l:List (Nat × Nat)) (s:List Nat),bY s l=true↔(∀ p∈l,bT p.1=true∧p.2<p.1∧p.1 ∉ s)∧(l.map (·.1)).Nodup
 | [], s => by simp [bY]
 | p :: l, s => by
  rw [bY,List.map_cons,List.nodup_cons]
  by_cases h1:p.1∈s
  ·rw [if_pos h1]
   exact ⟨(fun h=>by cases h),fun h=>absurd h1 (h.1 p List.mem_cons_self).2.2⟩
  ·rw [if_neg h1]
   by_cases h2:bT p.1=false
   ·rw [if_pos h2]
    exact ⟨(fun h=>by cases h),fun h=>by have:=(h.1 p List.mem_cons_self).1;rw [h2] at this;cases this⟩
   ·rw [if_neg h2]
    by_cases h3:p.1≤p.2
    ·rw [if_pos h3]
     exact ⟨(fun h=>by cases h),fun h=>by have:=(h.1 p List.mem_cons_self).2.1;omega⟩
    ·rw [if_neg h3,lF l (s ++ [p.1])]
     constructor
     ·rintro ⟨h4,h5⟩
      refine ⟨fun q hq => ?_,fun hm => ?_,h5⟩
      ·rcases List.mem_cons.1 hq with rfl | hq
       ·exact ⟨by simpa using h2,by omega,h1⟩
       ·obtain ⟨k1,k2,k3⟩:=h4 q hq
        exact ⟨k1,k2,fun h=>k3 (List.mem_append.2 (.inl h))⟩
      ·obtain ⟨q,hq,e⟩:=List.mem_map.1 hm
       exact (h4 q hq).2.2 (List.mem_append.2 (.inr (by rw [e]; exact List.mem_singleton.2 Z)))
     ·rintro ⟨h4,h5,h6⟩
      refine ⟨fun q hq => ?_,h6⟩
      obtain ⟨k1,k2,k3⟩:=h4 q (List.mem_cons_of_mem _ hq)
      refine ⟨k1,k2,fun h => ?_⟩
      rcases List.mem_append.1 h with h | h
      ·exact k3 h
      ·exact h5 (List.mem_map.2 ⟨q,hq,List.mem_singleton.1 h⟩)
theorem uR {l:List (Nat × Nat)} : bY [] l=true↔PrimR l:=by
 rw [lF]
 constructor
 ·rintro ⟨h1,h2⟩
  exact ⟨fun p hp=>let ⟨k1,k2,_⟩:=h1 p hp;⟨(uZ.1 k1).1,(uZ.1 k1).2,k2⟩,h2⟩
 ·rintro ⟨h1,h2⟩
  exact ⟨fun p hp=>let ⟨k1,k2,k3⟩:=h1 p hp;⟨uZ.2 ⟨k1,k2⟩,k3,by simp⟩,h2⟩
theorem sd {p q:Nat} (hp:Pr p) (hq:Pr q) (h:q≠p) : ¬ p∣q:=fun hd=>by
 rcases hq.2 p hd with e | e
 ·have:=hp.1;omega
 ·exact h e.symm
theorem jR {p:Nat} (hp:Pr p) : ∀ (l:List (Nat × Nat)) (m:Nat),(∀ q∈l,Pr q.1∧q.1≠p) → ¬ p∣m → ¬ p∣lk m l
 | [], _, _, h => h
 | q :: l, m, hl, h => by
  obtain ⟨h1,h2⟩:=hl q List.mem_cons_self
  refine jR hp l (m*q.1) (fun r hr=>hl r (List.mem_cons_of_mem _ hr)) (fun hd => ?_)
  rcases hp.mul hd with h3 | h3
  ·exact h h3
  ·exact sd hp h1 h2 h3
theorem ms : ∀ (l:List (Nat × Nat)) (m x:Nat),m∣x→(∀ q∈l,q.1∣x∧Nat.Coprime m q.1∧Pr q.1)→(l.map (·.1)).Nodup→lk m l∣x
 | [], _, _, h, _, _ => h
 | q :: l, m, x, h, hl, hnd => by
  obtain ⟨h1,h2,h3⟩:=hl q List.mem_cons_self
  rw [List.map_cons,List.nodup_cons] at hnd
  refine ms l (m*q.1) x (h2.mul_dvd_of_dvd_of_dvd h h1) (fun r hr => ?_) hnd.2
  obtain ⟨k1,k2,k3⟩:=hl r (List.mem_cons_of_mem _ hr)
  refine ⟨k1,Nat.Coprime.mul_left k2 ((k3.coprime (sd k3 h3 (fun e=>hnd.1 ?_))).symm),k3⟩
  exact e▸List.mem_map.2 ⟨r,hr,rfl⟩
theorem PrimR.pos {l:List (Nat × Nat)} (h:PrimR l):0<bD l:=ll l 1 Y (fun q hq=>by have:=(h.good q hq).1.1;omega)
theorem PrimR.allI {l:List (Nat × Nat)} (h:PrimR l) {x:Int} (hx : ∀ p∈l,(p.1:Int)∣x):(bD l:Int)∣x:=by
 rw [Int.ofNat_dvd_left]
 exact ms l 1 _ (Nat.one_dvd _) (fun q hq=>⟨by have:=hx q hq;rwa [Int.ofNat_dvd_left] at this,Nat.coprime_one_left _,(h.good q hq).1⟩) h.nd
theorem PrimR.take {l:List (Nat × Nat)} (h:PrimR l) (i:Nat):PrimR (l.take i) :=
 ⟨fun p hp=>h.good p ((List.take_sublist _ _).subset hp),((List.take_sublist i l).map (·.1)).nodup h.nd⟩
theorem oo {l:List (Nat × Nat)} (h:PrimR l) : ∀ i,i≤l.length → ∀ j,j<i→(ct (l.take i)).1 % (l.getD j (0,0)).1=(l.getD j (0,0)).2
 | 0, _, j, hj => absurd hj (Nat.not_lt_zero _)
 | i + 1, hi, j, hj => by
  have ih:=oo h i S
  have hs:=m0 l i S
  have hst:ct (l.take (i+1))=fO (ct (l.take i)) (l.getD i (0,0)):=by unfold ct;rw [cZ _ _ (0,0) hi]
  rw [hst]
  unfold fO
  dsimp only
  obtain ⟨g1,g3,g2⟩:=h.good _ (dT hi)
  have hp2:=g1.1
  rcases Nat.lt_or_eq_of_le (Nat.lt_succ_iff.1 hj) with hlt | rfl
  ·have hd:(l.getD j (0,0)).1∣(ct (l.take i)).2:=by
    rw [hs]
    refine MadeR.dvd (p:=l.getD j (0,0)) ?_
    refine List.mem_iff_getElem?.2 ⟨j,?_⟩
    rw [List.getElem?_take,if_pos hlt,List.getElem?_eq_getElem S]
    simp [List.getD,show j<l.length by omega]
   obtain ⟨k,hk⟩:=hd
   rw [hk,Nat.mul_assoc,Nat.add_mul_mod_self_left]
   exact ih j hlt
  ·have hpw:(ct (l.take j)).2^((l.getD j (0,0)).1 - 1) % (l.getD j (0,0)).1=1:=by
    rw [hs]
    refine g1.pow_one (jR g1 _ 1 (fun q hq=>⟨((h.take j).good q hq).1,fun e => ?_⟩) (fun hd=>by have:=Nat.le_of_dvd Y hd;omega))
    have hnd:=(fE hi).1 (jM (i:=j+1) h.nd)
    refine hnd.2 ?_
    rw [← e]
    exact List.mem_map.2 ⟨q,hq,rfl⟩
   exact tz (a:=(ct (l.take j)).1) (m:=(ct (l.take j)).2) (p:=(l.getD j (0,0)).1) (v:=(l.getD j (0,0)).2) hp2 g2 hpw
theorem PrimR.comb {l:List (Nat × Nat)} (h:PrimR l):Comb l (iz l):=by
 obtain ⟨k1,k2⟩:=jk (fun p hp=>fP (uR.2 h) p hp) l.length (Nat.le_refl _)
 have hs:=m0 l l.length (Nat.le_refl _)
 have hr:=oo h l.length (Nat.le_refl _)
 rw [List.take_length] at k1 hs hr
 have hres : ∀ p∈l,((ct l).1:Int) % (p.1:Int)=(p.2:Int):=fun p hp=>by
  obtain ⟨j,hj⟩:=List.mem_iff_getElem?.1 hp
  have hjl:j<l.length:=(List.getElem?_eq_some_iff.1 hj).1
  have:=hr j hjl
  rw [show l.getD j (0,0)=p by rw [List.getD,hj]; rfl] at this
  rw [← Int.natCast_emod,this]
 unfold iz
 by_cases c:(ct l).2<(ct l).1+(ct l).1
 ·rw [if_pos c]
  refine ⟨fun p hp => ?_,by omega,by omega⟩
  obtain ⟨k,hk⟩:=MadeR.dvd hp
  rw [hs,hk,Int.natCast_mul,Int.sub_mul_emod_self_left]
  exact hres p hp
 ·rw [if_neg c]
  exact ⟨hres,by omega,by omega⟩
theorem PrimR.uniq {l:List (Nat × Nat)} {x y:Int} (h:PrimR l) (hx:Comb l x) (hy:Comb l y):x=y:=by
 have hd:(bD l:Int)∣x - y:=h.allI fun p hp=>by
  have h1:=hx.res p hp
  have h2:=hy.res p hp
  exact Int.dvd_of_emod_eq_zero (by rw [Int.sub_emod,h1,h2,Int.sub_self,Int.zero_emod])
 obtain ⟨k,hk⟩:=hd
 have h1:=hx.hi
 have h2:=hx.lo
 have h3:=hy.hi
 have h4:=hy.lo
 have hp:=h.pos
 have hk0:k=0:=by
  rcases Int.lt_trichotomy k 0 with c | c | c
  ·have:=Int.mul_le_mul_of_nonneg_left (show k ≤ -1 by omega) (show (0:Int)≤bD l by omega)
   omega
  ·exact c
  ·have:=Int.mul_le_mul_of_nonneg_left (show 1≤k by omega) (show (0:Int)≤bD l by omega)
   omega
 rw [hk0,Int.mul_zero] at hk
 omega
/-! ### The sum of idempotents -/
theorem oq : ∀ (l:List (Nat × Nat)) (m c:Nat),lk (m*c) l=lk m l*c
 | [], _, _ => rfl
 | q :: l, m, c => by
  show lk (m*c*q.1) l=lk (m*q.1) l*c
  rw [Nat.mul_right_comm,oq l]
def eW (l:List (Nat × Nat)) (p:Nat × Nat):Nat:=bD l / p.1
theorem PrimR.oth {l:List (Nat × Nat)} (h:PrimR l) {p:Nat × Nat} (hp:p∈l):bD l=eW l p*p.1∧0<eW l p ∧ ¬ p.1∣eW l p:=by
 obtain ⟨h1,_,_⟩:=h.good p hp
 have hp2:=h1.1
 obtain ⟨l1,l2,rfl⟩:=List.append_of_mem hp
 have e:bD (l1 ++ p :: l2)=lk 1 (l1 ++ l2)*p.1:=by
  unfold bD lk
  rw [List.foldl_append,List.foldl_append]
  exact oq l2 _ _
 have e2:eW (l1 ++ p :: l2) p=lk 1 (l1 ++ l2):=by unfold eW;rw [e,Nat.mul_div_cancel _ S]
 have hnd:=h.nd
 rw [List.map_append,List.map_cons,List.nodup_append,List.nodup_cons] at hnd
 obtain ⟨n1,⟨n2,n3⟩,n4⟩:=hnd
 have hne : ∀ q∈l1 ++ l2,Pr q.1∧q.1≠p.1:=fun q hq=>by
  rcases List.mem_append.1 hq with hq | hq
  ·exact ⟨(h.good q (List.mem_append.2 (.inl hq))).1,n4 _ (List.mem_map.2 ⟨q,hq,rfl⟩) _ List.mem_cons_self⟩
  ·exact ⟨(h.good q (List.mem_append.2 (.inr (List.mem_cons_of_mem _ hq)))).1,fun e=>n2 (e▸List.mem_map.2 ⟨q,hq,rfl⟩)⟩
 rw [e2]
 exact ⟨e,ll _ 1 Y (fun q hq=>by have:=(hne q hq).1.1;omega),jR h1 _ 1 hne (fun hd=>by have:=Nat.le_of_dvd Y hd;omega)⟩
def eu (l:List (Nat × Nat)) (p:Nat × Nat):Int:=(p.2:Int)*((eW l p:Int)*((fV (eW l p) p.1).2.1 % (p.1:Int)))
def dk (l ps:List (Nat × Nat)) (s:Int):Int:=ps.foldl (fun s p=>s+eu l p) s
theorem qL {l:List (Nat × Nat)} (h:PrimR l) {p:Nat × Nat} (hp:p∈l):(p.1:Int)∣eu l p - (p.2:Int):=by
 obtain ⟨h1,_,_⟩:=h.good p hp
 have hp2:=h1.1
 obtain ⟨e,h0,hn⟩:=h.oth hp
 obtain ⟨_,_,_,hb⟩:=mi h0 (show 0<p.1 by omega)
 have hc:Nat.gcd (eW l p) p.1=1:=(h1.coprime hn).symm
 rw [hc] at hb
 unfold eu
 generalize (fV (eW l p) p.1).2.1=s at *
 generalize (eW l p:Int)=a at *
 generalize (p.1:Int)=P at *
 obtain ⟨k,hk⟩:=hb
 have hs:=Int.mul_ediv_add_emod s P
 refine ⟨(p.2:Int)*(k - a*(s / P)),?_⟩
 have hk:s*a - 1=P*k:=hk
 have e3:a*(s % P)=1+P*(k - a*(s / P)):=by
  have:s % P=s - P*(s / P):=by omega
  rw [this,Int.mul_sub,Int.mul_sub, ← hk,Int.mul_comm a s,Int.mul_left_comm a P]
  omega
 rw [e3,Int.mul_add,Int.mul_one,Int.mul_left_comm]
 omega
theorem o7 {l:List (Nat × Nat)} (h:PrimR l) {p q:Nat × Nat} (hp:p∈l) (hq:q∈l) (hne:q.1≠p.1):(p.1:Int)∣eu l q:=by
 obtain ⟨h1,_,_⟩:=h.good p hp
 obtain ⟨h2,_,_⟩:=h.good q hq
 obtain ⟨e,h0,hn⟩:=h.oth hq
 have hd:=MadeR.dvd hp
 rw [e] at hd
 rcases h1.mul hd with h3 | h3
 ·unfold eu
  obtain ⟨c,hc⟩:=h3
  rw [hc,Int.natCast_mul]
  exact ⟨(q.2:Int)*((c:Int)*((fV (p.1*c) q.1).2.1 % (q.1:Int))),by rw [Int.mul_assoc (p.1:Int),Int.mul_left_comm]⟩
 ·exact absurd h3 (sd h1 h2 hne)
theorem mu {l:List (Nat × Nat)} (h:PrimR l) {p:Nat × Nat} (hp:p∈l) : ∀ (ps:List (Nat × Nat)) (s:Int),(∀ q∈ps,q∈l)→(ps.map (·.1)).Nodup→(p.1:Int)∣dk l ps s - s - (if p∈ps then (p.2:Int) else 0)
 | [], s, _, _ => by simp [dk]
 | q :: ps, s, hs, hnd => by
  rw [List.map_cons,List.nodup_cons] at hnd
  have ih:=mu h hp ps (s+eu l q) (fun r hr=>hs r (List.mem_cons_of_mem _ hr)) hnd.2
  have hq:=hs q List.mem_cons_self
  show (p.1:Int)∣dk l ps (s+eu l q) - s - _
  by_cases e:q=p
  ·subst e
   have hn:q ∉ ps:=fun hm=>hnd.1 (List.mem_map.2 ⟨q,hm,rfl⟩)
   rw [if_neg hn] at ih
   rw [if_pos List.mem_cons_self]
   have h3:=qL h hp
   have:=Int.dvd_add ih h3
   rwa [show dk l ps (s+eu l q) - (s+eu l q) - 0+(eu l q - (q.2:Int))=dk l ps (s+eu l q) - s - (q.2:Int) by omega] at this
  ·have hne:q.1≠p.1:=fun h2=>by
    obtain ⟨i,hi⟩:=List.mem_iff_getElem?.1 hp
    obtain ⟨j,hj⟩:=List.mem_iff_getElem?.1 hq
    have hnd2:=h.nd
    have hil:=(List.getElem?_eq_some_iff.1 hi).1
    have hjl:=(List.getElem?_eq_some_iff.1 hj).1
    have:=(List.getElem_inj (xs:=l.map (·.1)) (i:=i) (j:=j) (h₀:=by simpa using hil) (h₁:=by simpa using hjl) hnd2).1 (by
     rw [List.getElem_map,List.getElem_map,(List.getElem?_eq_some_iff.1 hi).2,(List.getElem?_eq_some_iff.1 hj).2,h2])
    subst this
    rw [hi] at hj
    exact e (Option.some.inj hj).symm
   have h3:=o7 h hp hq hne
   have:=Int.dvd_add ih h3
   have hif:(if p∈q :: ps then (p.2:Int) else 0)=if p∈ps then (p.2:Int) else 0:=by
    by_cases hm:p∈ps
    ·rw [if_pos hm,if_pos (List.mem_cons_of_mem _ hm)]
    ·rw [if_neg hm,if_neg (fun hc=>by rcases List.mem_cons.1 hc with h5 | h5;exact e h5.symm;exact hm h5)]
   rw [hif]
   rwa [show dk l ps (s+eu l q) - (s+eu l q) - (if p∈ps then (p.2:Int) else 0)+eu l q=dk l ps (s+eu l q) - s - (if p∈ps then (p.2:Int) else 0) by omega] at this
def se (l:List (Nat × Nat)):Int:=if (bD l:Int)<dk l l 0 % (bD l:Int)+dk l l 0 % (bD l:Int) then dk l l 0 % (bD l:Int) - (bD l:Int) else dk l l 0 % (bD l:Int)
theorem PrimR.sum {l:List (Nat × Nat)} (h:PrimR l):se l=iz l:=by
 refine h.uniq ?_ h.comb
 have hp:=h.pos
 have h0:=Int.emod_nonneg (dk l l 0) (show (bD l:Int)≠0 by omega)
 have h1:=Int.emod_lt_of_pos (dk l l 0) (show 0<(bD l:Int) by omega)
 have hres : ∀ p∈l,dk l l 0 % (bD l:Int) % (p.1:Int)=(p.2:Int):=fun p hpm=>by
  have hd:=mu h hpm l 0 (fun q hq=>hq) h.nd
  rw [if_pos hpm,Int.sub_zero] at hd
  have hpd:(p.1:Int)∣(bD l:Int):=Int.natCast_dvd_natCast.2 (MadeR.dvd hpm)
  rw [Int.emod_emod_of_dvd _ hpd]
  obtain ⟨_,_,hlt⟩:=h.good p hpm
  rw [Int.emod_eq_emod_iff_emod_sub_eq_zero.2 (Int.emod_eq_zero_of_dvd hd)]
  exact Int.emod_eq_of_lt S S
 unfold se
 generalize dk l l 0 % (bD l:Int)=x at *
 by_cases c:(bD l:Int)<x+x
 ·rw [if_pos c]
  refine ⟨fun p hpm => ?_,by omega,by omega⟩
  obtain ⟨k,hk⟩:=MadeR.dvd hpm
  have:=hres p hpm
  rwa [hk,Int.natCast_mul,Int.sub_mul_emod_self_left]
 ·rw [if_neg c]
  exact ⟨hres,by omega,by omega⟩
end Tor
end
section
namespace Tor
open Go Go.RowKit Go.Proofs
def lG (s:Nat):Nat→Nat × Int→Nat × Int→Nat × Int
 | 0, _, y => y
 | f + 1, x, y => if s < y.1 then lG s f y (x.1 % y.1, x.2 - ((x.1 / y.1 : Nat) : Int) * y.2) else y
theorem jS (s:Nat) : ∀ (f g:Nat) (x y:Nat × Int),y.1<f→y.1<g→lG s f x y=lG s g x y
 | 0, _, _, _, h, _ => absurd h (Nat.not_lt_zero _)
 | _ + 1, 0, _, _, _, h => absurd h (Nat.not_lt_zero _)
 | f + 1, g + 1, x, y, h1, h2 => by
  rw [lG,lG]
  by_cases c:s<y.1
  ·rw [if_pos c,if_pos c]
   have:=Nat.mod_lt x.1 (show 0<y.1 by omega)
   exact jS s f g _ _ (by show x.1 % y.1<f;omega) (by show x.1 % y.1<g;omega)
  ·rw [if_neg c,if_neg c]
structure EucR (m s:Nat) (R:Nat × Int) (x y:Nat × Int):Prop where
 eq : ∀ f,y.1<f→lG s f x y=R
 lt:y.1<x.1
 le:x.1≤m
 w:x.2.natAbs*y.1+y.2.natAbs*x.1≤m
 u:x.2.natAbs≤m
 v:y.2.natAbs≤m
theorem EucR.step {m s:Nat} {R x y:Nat × Int} (h:EucR m s R x y) (hc:s<y.1):EucR m s R y (x.1 % y.1,x.2 - ((x.1 / y.1:Nat):Int)*y.2)∧(((x.1 / y.1:Nat):Int)*y.2).natAbs≤m:=by
 have hy:0<y.1:=by omega
 have hm:=Nat.mod_lt x.1 hy
 have hd:=Nat.div_add_mod x.1 y.1
 have hlt:=h.lt
 have hle:=h.le
 have hw:=h.w
 have e1:(((x.1 / y.1:Nat):Int)*y.2).natAbs=x.1 / y.1*y.2.natAbs:=by rw [Int.natAbs_mul,Int.natAbs_natCast]
 have e2:(x.2 - ((x.1 / y.1:Nat):Int)*y.2).natAbs≤x.2.natAbs+x.1 / y.1*y.2.natAbs:=by rw [← e1]; omega
 have e3:x.1 / y.1*y.2.natAbs≤y.2.natAbs*x.1:=by rw [Nat.mul_comm]; exact Nat.mul_le_mul_left _ (Nat.div_le_self _ _)
 have e4:y.2.natAbs*(x.1 % y.1)+(x.2 - ((x.1 / y.1:Nat):Int)*y.2).natAbs*y.1≤m:=by
  have k1:=Nat.mul_le_mul_right y.1 e2
  have k2:(x.2.natAbs+x.1 / y.1*y.2.natAbs)*y.1+y.2.natAbs*(x.1 % y.1)=x.2.natAbs*y.1+y.2.natAbs*x.1:=by
   conv=>rhs;rw [← hd]
   rw [Nat.add_mul,Nat.mul_add]
   have:x.1 / y.1*y.2.natAbs*y.1=y.2.natAbs*(y.1*(x.1 / y.1)):=by ac_rfl
   omega
  omega
 refine ⟨⟨fun f hf => ?_,hm,by omega,e4,h.v,?_⟩,by rw [e1]; omega⟩
 ·have:=h.eq (y.1+1) S
  rw [lG,if_pos hc] at this
  rw [← this]
  exact jS s _ _ _ _ hf hm
 ·have k3:(x.2 - ((x.1 / y.1:Nat):Int)*y.2).natAbs≤(x.2 - ((x.1 / y.1:Nat):Int)*y.2).natAbs*y.1:=Nat.le_mul_of_pos_right _ hy
  show (x.2 - ((x.1 / y.1:Nat):Int)*y.2).natAbs≤m
  omega
theorem EucR.start {m s r:Nat} (hr:r<m):EucR m s (lG s (m+1) (m,0) (r,1)) (m,0) (r,1) :=
 ⟨fun f hf=>jS s _ _ _ _ hf (by show r<m+1;omega),hr,Nat.le_refl _,by simp,by simp,by show (1:Int).natAbs≤m;omega⟩
theorem EucR.fin {m s:Nat} {R x y:Nat × Int} (h:EucR m s R x y) (hc : ¬ s<y.1):y=R:=by
 have:=h.eq (y.1+1) S
 rwa [lG,if_neg hc] at this
def jo (a:Int) (m s:Nat) (f:Rat):Bool:=decide (f.num.natAbs≤s) && (decide (f.den≤s) && (decide (Nat.gcd f.den m=1) && decide ((f.num - a*f.den) % (m:Int)=0)))
def sf (a:Int) (m s:Nat):Option Rat :=
 let y:=lG s (m+1) (m,0) ((a % (m:Int)).toNat,1)
 if y.2=0 then none else if jo a m s (Rat.divInt (y.1:Int) y.2)=true then some (Rat.divInt (y.1:Int) y.2) else none
def uS:Option Rat→VT
 | some q => jH q
 | none => dM 0 0
theorem tI {a b:Int} : (Rat.divInt a b).num.natAbs≤a.natAbs:=by
 rw [Rat.num_divInt]
 by_cases hb:b=0
 ·subst hb;simp
 ·have h1:b.sign*a=a∨b.sign*a = -a:=by
   rcases Int.lt_trichotomy b 0 with h | h | h
   ·right;rw [Int.sign_eq_neg_one_of_neg h]; omega
   ·exact absurd h hb
   ·left;rw [Int.sign_eq_one_of_pos h]; omega
  have h2:=Int.natAbs_ediv_le_natAbs (b.sign*a) ((b.gcd a:Nat):Int)
  rcases h1 with h | h <;> rw [h] at h2 ⊢ <;> omega
theorem uT {a b:Int} (hb:b≠0):(Rat.divInt a b).den≤b.natAbs:=by
 rw [Rat.den_divInt,if_neg hb]; exact Nat.div_le_self _ _
theorem jp {x:Int} {n:Nat} (h:x.natAbs≤2^n) (hn:n<2048):a4 x:=cD (Nat.lt_of_le_of_lt h (Nat.pow_lt_pow_right (a:=2) (m:=n) (n:=2048) Y hn))
theorem vA {a:Int} {m s:Nat} {f:Rat} : (decide (cF (f.num.natAbs:Int) (s:Int)≤0) == true && (decide (cF (f.den:Int) (s:Int)≤0) == true && (decide (cF ((Nat.gcd f.den m:Nat):Int) 1=0) == true && decide (cH ((f.num - a*(f.den:Int)) % (m:Int))=0) == true)))=jo a m s f:=by
 unfold jo
 have h1 : ∀ x y:Int,cF x y≤0↔x≤y:=fun x y=>by unfold cF;split <;> (try split) <;> omega
 have h2 : ∀ x y:Int,cF x y=0↔x=y:=fun x y=>by unfold cF;split <;> (try split) <;> omega
 have h3 : ∀ x:Int,cH x=0↔x=0:=fun x=>by unfold cH;split <;> (try split) <;> omega
 simp only [h1,h2,h3,beq_true]
 congr 1
 ·congr 1;simp
 ·congr 1
  ·congr 1;simp
  ·congr 1;congr 1;simp;omega
theorem uU {x y:Nat} (h:x≤2^800) (h':y≤2^800):x*y≤2^1600:=by
 have h2:=uv 800 1600 Z
 exact Nat.le_trans (Nat.mul_le_mul h h') (Nat.le_of_eq h2.symm)
theorem tJ {b:Nat} {T:TypeId} {φ ψ φ' ψ':VT} (h:VT.le φ φ') (h':VT.le ψ ψ'):Own.le (bf b T 4 [(0, .agg 2, φ),(2, .agg 2, ψ)]) (bf b T 4 [(0, .agg 2, φ'),(2, .agg 2, ψ')]):=su (fun q hq=>by
 rcases List.mem_cons.1 hq with rfl | hq
 ·exact ⟨_,List.mem_cons_self,h⟩
 ·rcases List.mem_cons.1 hq with rfl | hq
  ·exact ⟨_,List.mem_cons_of_mem _ List.mem_cons_self,h'⟩
  ·cases hq)
instance:QuadOf Try.prog 81 4:=QuadOf.by_info X X X
attribute [local irreducible] J PJ aF one slT cS bP bZ exT cR eP bf be slV VT.le Ret cm fT jC
theorem m9 (a m:Int) (hm:m<2):Ok Try.prog 15 [aS a,aS m] (bZ [dM 0 0,one (.int .i64 1)]):=by
 have h1:=gT 1 Y Y
 have h2:=gT 2 Y Y
 have hcm:=fM m 2
 have hc:cF m 2<0:=by unfold cF;rw [if_pos hm]; decide
 unfold dM
 refine Ok.enter Try.func15 Z Try.ntmps15 Z (fun w O => ?_)
 refine ae (ai ?_)
 refine aO Z Z (ltN Z) (fun b2 => ?_)
 refine aO Z Z (ltN Z) (fun b3 => ?_)
 refine cg (T:=45) Z Z Z (fun b4 => ?_)
 refine Am Z (Ao (aa (ae (ai ?_))))
 refine Ak (aj (h1) Z ⟨A,Ap⟩) ?_
 refine Ak (aj (h2) Z ⟨A,Ap⟩) ?_
 refine av (T:=29) Z (ltN Z) (fun b6 => ?_)
 refine av (T:=29) Z (ltN Z) (fun b7 => ?_)
 refine ao 1 Z Z Z Z Z (leN Z) Z (ao 0 Z Z Z Z Z (leN Z) Z (Ao (aa (ae (ae (ai (Ak (aP 3 Z Z) (Ak (ak 0 Z Z Z) ?_))))))))
 refine Ak (aj (hcm) Z ⟨A,A,Ap⟩) ?_
 refine Ak (sT (by assumption) (bp Z Z)) (Ao (aa (aB Z (ae (ai (stB Z Z Z (BuildK.nil (bg 2 Z Z Z Z (Am Z ?_)))))))))
 refine Ao (aa (aC (aD ?_)))
 refine de Try.results15 (.cellW 2 Z Z (mZ)) (.tmp Z A)
theorem ka (a:Int) (m s:Nat) (hm:2≤m) (hm8:m≤2^800) (ha:a.natAbs≤2^800) (hs1:s*s≤(m - 1) / 2) (hs2:(m - 1) / 2<(s+1)*(s+1)) :
  Ok Try.prog 15 [aS a,aS (m:Int)] (bZ [uS (sf a m s),one (.int .i64 (if (sf a m s).isSome then 0 else 41))]):=by
 have h1:=gT 1 Y Y
 have h2:=gT 2 Y Y
 have hcm:=fM (m:Int) 2
 have hc : ¬ cF (m:Int) 2<0:=by unfold cF;split <;> (try split) <;> omega
 have sma:a4 a:=jp ha Y
 have smm:a4 (m:Int):=jp (n:=800) hm8 Y
 have sm1:a4 1:=cD F
 have sm2:a4 2:=cD F
 have hsu:=kn (m:Int) 1 smm sm1
 rw [show (m:Int) - 1=((m - 1:Nat):Int) by omega] at hsu
 have hd1:=dA ((m - 1:Nat):Int) 2 Y (bE smm S) sm2
 rw [show ((m - 1:Nat):Int) / 2=(((m - 1) / 2:Nat):Int) from (Int.natCast_ediv _ _).symm,show ((m - 1:Nat):Int) % 2=(((m - 1) % 2:Nat):Int) from (Int.natCast_emod _ _).symm] at hd1
 have hro:Ok Try.prog 45 [aS (((m - 1) / 2:Nat):Int)] (bZ [aS (s:Int),one (.int .i64 0)]):=by
  by_cases h0:(m - 1) / 2=0
  ·have:s=0:=by
    rcases Nat.eq_zero_or_pos s with h | h
    ·exact h
    ·have:=Nat.mul_le_mul h h;omega
   rw [h0,this]; exact rK
  ·exact tj _ s (Nat.lt_of_lt_of_le (show (m - 1) / 2<m by omega) hm8) h0 hs1 hs2
 have hd2:=dA a (m:Int) S sma smm
 have hr0:=Int.emod_nonneg a (show (m:Int)≠0 by omega)
 have hr1:=Int.emod_lt_of_pos a (show 0<(m:Int) by omega)
 refine Ok.enter Try.func15 Z Try.ntmps15 Z (fun w O => ?_)
 unfold sf
 dsimp only
 obtain ⟨r,hr⟩ : ∃ r,r=(a % (m:Int)).toNat:=⟨_,rfl⟩
 have hre:a % (m:Int)=(r:Int):=by omega
 have hd2':=hd2
 rw [hre] at hd2'
 rw [← hr]
 have hE:=EucR.start (m:=m) (s:=s) (r:=r) S
 generalize lG s (m+1) (m,0) (r,1)=R at *
 refine ae (ai ?_)
 refine aO Z Z (ltN Z) (fun b2 => ?_)
 refine aO Z Z (ltN Z) (fun b3 => ?_)
 refine cg (T:=45) Z Z Z (fun b4 => ?_)
 refine Am Z (Ao (aa (ae (ai ?_))))
 refine Ak (aj (h1) Z ⟨A,Ap⟩) ?_
 refine Ak (aj (h2) Z ⟨A,Ap⟩) ?_
 refine av (T:=29) Z (ltN Z) (fun b6 => ?_)
 refine av (T:=29) Z (ltN Z) (fun b7 => ?_)
 refine ao 1 Z Z Z Z Z (leN Z) Z (ao 0 Z Z Z Z Z (leN Z) Z (Ao (aa (ae (ae (ai (Ak (aP 3 Z Z) (Ak (ak 0 Z Z Z) ?_))))))))
 refine Ak (aj (hcm) Z ⟨A,A,Ap⟩) ?_
 refine Ak (sF (by assumption) (bp Z Z)) (Ao (aa (az Z (au (aa (ae ?_))))))
 refine fa aR X X ?_
 refine ux (fun B=>aP 3 Z Z) Z Z ?_
 refine ux (fun B=>ak 1 Z Z Z) Z Z ?_
 refine uxk (hsu) Z ⟨A,A,Ap⟩ Z ?_
 refine ux (fun B=>ak 0 Z Z Z) Z Z ?_
 refine uxk (hd1) Z ⟨A,A,Ap⟩ Z ?_
 refine ux (fun B=>ab Z) Z Z ?_
 refine ux (fun B=>an Z Z) Z Z ?_
 refine ux (fun B=>an Z Z) Z Z ?_
 refine ux (fun B=>an Z Z) Z Z ?_
 refine ua Z (ua Z (us Z (us Z ?_)))
 refine ux (fun B=>ah Z) Z Z ?_
 refine RunU.nil (fun γ => ?_)
 refine cw (M' := [_,_,_,_,_,_,_]) Z (aa (ae (ai (Ak (ak 1 Z Z Z) ?_))))
 refine Ak (aj (hro) Z ⟨A,Ap⟩) ?_
 refine Al Z (Ak (an Z Z) (Ak (an Z Z) ?_))
 refine av (T:=29) Z (ltN Z) (fun b11 => ?_)
 refine ao 0 Z Z Z Z Z (leN Z) Z (Am Z (Ao (aa (ae (ai (Ak (aP 7 Z Z) (Ak (aP 6 Z Z) ?_)))))))
 refine Ak (aj (hd2') Z ⟨A,A,Ap⟩) ?_
 refine Al Z (Ak (an Z Z) (Ak (an Z Z) (Ak (an Z Z) ?_)))
 refine av (T:=29) Z (ltN Z) (fun b13 => ?_)
 refine av (T:=29) Z (ltN Z) (fun b14 => ?_)
 refine ao 1 Z Z Z Z Z (leN Z) Z (ao 0 Z Z Z Z Z (leN Z) Z (Am Z (Ao (aa (ae ?_)))))
 refine fa aR X X ?_
 refine ux (fun B=>aP 8 Z Z) Z Z ?_
 refine uB Z Z Z (BuildK.nil (uB Z Z Z (BuildK.cons Z Z Z (BuildK.cons Z Z Z (BuildK.nil ?_)))))
 refine ux (fun B=>ak 0 Z Z Z) Z Z ?_
 refine ux (fun B=>ak 6 Z Z Z) Z Z ?_
 refine uB Z Z Z (BuildK.cons Z Z Z (BuildK.cons Z Z Z (BuildK.nil (ua Z (ua Z (us Z (us Z ?_)))))))
 refine RunU.nil (fun γ => ?_)
 refine cw (M' := [_,_,_,_,_,_,_,_,_,_,_,_]) Z (ky (gK.refl _) (.keep f6 (.keep f6 (SubM.refl _))) (aa (ae (aw (cl (Γ' := [(2,_),(3,_),(4,_),(5,_),(6,_),(11,_),(16,_),(17,_)]) Ag (SubM.refl _) ?_)))))
 refine bA (σ:=(Nat × Int) × (Nat × Int)) (Γk := [(2,_),(3,_),(4,_),(5,_),(6,_),(11,_),(16,_),(17,_)]) Ag (fun p => []) (fun p M0=>((M0.set 0 (bf (γ 17) 76 4 [(0, .agg 2,aS (p.2.1:Nat)),(2, .agg 2,aS p.2.2)])).set 1 (bf (γ 16) 76 4 [(0, .agg 2,aS (p.1.1:Nat)),(2, .agg 2,aS p.1.2)]))) (fun p=>EucR m s R p.1 p.2) (fun p=>p.2.1) (((m,0),(r,1))) (hE) Ah (.keep Aj (.keep (tJ A dz) (.keep Aj (.keep Aj (.keep Aj (.keep Aj (.keep Aj (.keep Aj (.keep Aj (.keep Aj (.keep Aj (.keep Aj (.nil))))))))))))) (fun p hp => ?_)
 refine bS (Γ' := [(2,_),(3,_),(4,_),(5,_),(6,_),(11,_),(16,_),(17,_)]) (M' := [_,_,_,_,_,_,_,_,_,_,_,_]) Z Z ?_
 obtain ⟨x,y⟩:=p
 dsimp only at hp ⊢
 have hcy:=fM (y.1:Int) (s:Int)
 have q1:=hp.lt
 have q2:=hp.le
 have q3:=hp.u
 have q4:=hp.v
 by_cases hys:s<y.1
 ·have hcc:0<cF (y.1:Int) (s:Int):=by unfold cF;rw [if_neg S,if_pos S]; decide
  obtain ⟨n1,n2⟩:=hp.step hys
  have q5:=Nat.div_le_self x.1 y.1
  have hnx:=tn (x.1:Int) x.2 (y.1:Int) y.2 S (bE smm S) (bE smm S) (bE smm S) (bE smm S) (bE smm (by rw [← Int.natCast_ediv,Int.natAbs_natCast,Int.natAbs_natCast]; exact Nat.le_trans q5 q2)) (bE smm (by rw [← Int.natCast_ediv,Int.natAbs_natCast]; exact n2))
  rw [← Int.natCast_ediv, ← Int.natCast_emod] at hnx
  refine ae (ae (ai (Ak (am Z) (Ak (ak 0 Z Z Z) (Ak (ak 4 Z Z Z) ?_)))))
  refine Ak (aj (hcy) Z ⟨A,A,Ap⟩) ?_
  refine Ak (sT (by assumption) (cT Z Z)) (Ao (aa (aB Z (au (aa (aw (ek 4 aR X Y (Ak (aP 0 Z Z) (Ak (aP 1 Z Z) ?_)))))))))
  refine Ak (aP 0 Z Z) ?_
  refine Ak (aj (hnx) Z ⟨A,A,Ap⟩) ?_
  refine Ao (bg 1 Z Z Z Z (bg 0 Z Z Z Z (Ao (aK ?_))))
  refine aN ((y,(x.1 % y.1,x.2 - ((x.1 / y.1:Nat):Int)*y.2))) (n1) (Nat.mod_lt _ S) Ah (.keep Aj (.keep Aj (.keep Aj (.keep Aj (.keep Aj (.keep Aj (.keep Aj (.keep Aj (.keep Aj (.keep Aj (.keep Aj (.keep Aj (.nil)))))))))))))
 ·have hcc : ¬ 0<cF (y.1:Int) (s:Int):=by unfold cF;split <;> (try split) <;> omega
  have hyR:=hp.fin hys
  subst hyR
  by_cases hy0:y.2=0
  ·rw [if_pos hy0]
   have hq:=tk (y.1:Int)
   rw [hy0]
   unfold dM at hq
   unfold uS dM
   refine ae (ae (ai (Ak (am Z) (Ak (ak 0 Z Z Z) (Ak (ak 4 Z Z Z) ?_)))))
   refine Ak (aj (hcy) Z ⟨A,A,Ap⟩) ?_
   refine Ak (sF (by assumption) (cT Z Z)) (Ao (aa (az Z (a6 (ay (ay (aI (aa (ae ?_)))))))))
   refine ai (Ak (am Z) (Ak (ak 0 Z Z Z) (Ak (am Z) (Ak (ak 0 Z Z Z) ?_))))
   refine Ak (aj (hq) Z ⟨A,A,Ap⟩) ?_
   refine Al Z (Ak (an Z Z) (Ak (an Z Z) ?_))
   refine cg (T:=45) Z Z Z (fun b18 => ?_)
   refine bg 0 Z Z Z Z (Am Z (Ao (aa (ae (ae (ai (Al Z (Ak (sT S (gl Z Z)) (Ao ?_)))))))))
   refine aa (aB Z (ae (ai (stB Z Z Z (BuildK.nil (bg 10 Z Z Z Z (Am Z (Ao (aa ?_)))))))))
   refine aC (aD ?_)
   refine de Try.results15 (.cellW 10 Z Z (mZ)) (.tmp Z A)
  ·rw [if_neg hy0]
   have smy1:a4 (y.1:Int):=bE smm S
   have smy2:a4 y.2:=bE smm S
   have hq:=uw (y.1:Int) y.2 hy0 smy1 smy2
   have hnl:=tI (a:=(y.1:Int)) (b:=y.2)
   have hdl:=uT (a:=(y.1:Int)) hy0
   have hden0:=(Rat.divInt (y.1:Int) y.2).den_nz
   generalize Rat.divInt (y.1:Int) y.2=f at *
   unfold jH dM at hq
   have smn:a4 f.num:=bE smm S
   have smd:a4 (f.den:Int):=bE smm S
   have hp1:(a*(f.den:Int)).natAbs≤2^1600:=by
    rw [Int.natAbs_mul]
    exact uU ha S
   have hmu:=ie a (f.den:Int) sma smd
   have smp:=jp (n:=1600) hp1 Y
   have hsb:=kn f.num (a*(f.den:Int)) smn smp
   have smq:a4 (f.num - a*(f.den:Int)):=jp (n:=1601) (by
    have e:2^1601=2^1600+2^1600:=oP 1600 1601 Z
    have e2:2^800≤2^1600:=Nat.pow_le_pow_right (n:=2) (i:=800) (j:=1600) Y Y
    rw [e]
    generalize 2^1600=z at *
    generalize 2^800=z2 at *
    generalize a*(f.den:Int)=q at *
    omega) Y
   have hdm:=dA (f.num - a*(f.den:Int)) (m:Int) S smq smm
   have hab:=sQ f.num smn
   have hc1:=fM (f.num.natAbs:Int) (s:Int)
   have hc2:=fM (f.den:Int) (s:Int)
   have hgc:=rH (f.den:Int) (m:Int) smd smm
   rw [Int.natAbs_natCast,Int.natAbs_natCast] at hgc
   have hc3:=fM (Nat.gcd f.den m:Nat) 1
   have hsi:=f8 ((f.num - a*(f.den:Int)) % (m:Int))
   refine ae (ae (ai (Ak (am Z) (Ak (ak 0 Z Z Z) (Ak (ak 4 Z Z Z) ?_)))))
   refine Ak (aj (hcy) Z ⟨A,A,Ap⟩) ?_
   refine Ak (sF (by assumption) (cT Z Z)) (Ao (aa (az Z (a6 (ay (ay (aI (aa (ae ?_)))))))))
   refine ai (Ak (am Z) (Ak (ak 0 Z Z Z) (Ak (am Z) (Ak (ak 0 Z Z Z) ?_))))
   refine Ak (aj (hq) Z ⟨A,A,Ap⟩) ?_
   refine Al Z (Ak (an Z Z) (Ak (an Z Z) ?_))
   refine cg (T:=45) Z Z Z (fun b18 => ?_)
   refine bg 0 Z Z Z Z (Am Z (Ao (aa (ae (ae (ai (Al Z (Ak (sF S (gl Z Z)) (Ao ?_)))))))))
   refine aa (az Z (au (aa (ae ?_))))
   refine fa aR X X ?_
   refine ux (fun B=>am Z) Z Z ?_
   refine ux (fun B=>ak 0 Z Z Z) Z Z ?_
   refine ux (fun B=>aP 12 Z Z) Z Z ?_
   refine ux (fun B=>am Z) Z Z ?_
   refine ux (fun B=>ak 0 Z Z Z) Z Z ?_
   refine uxk (hmu) Z ⟨A,A,Ap⟩ Z ?_
   refine uxk (hsb) Z ⟨A,A,Ap⟩ Z ?_
   refine ux (fun B=>aP 11 Z Z) Z Z ?_
   refine uxk (hdm) Z ⟨A,A,Ap⟩ Z ?_
   refine ux (fun B=>ab Z) Z Z ?_
   refine ux (fun B=>an Z Z) Z Z ?_
   refine ux (fun B=>an Z Z) Z Z ?_
   refine ux (fun B=>an Z Z) Z Z ?_
   refine ua Z (ua Z (us Z (us Z ?_)))
   refine ux (fun B=>ah Z) Z Z ?_
   refine RunU.nil (fun γ => ?_)
   refine cw (M' := [_,_,_,_,_,_,_,_,_,_,_,_,_,_,_]) Z (aa (ae ?_))
   refine fa aR X X ?_
   refine ux (fun B=>am Z) Z Z ?_
   refine ux (fun B=>ak 2 Z Z Z) Z Z ?_
   refine uxk (hab) Z ⟨A,Ap⟩ Z ?_
   refine ux (fun B=>ak 7 Z Z Z) Z Z ?_
   refine uxk (hc1) Z ⟨A,A,Ap⟩ Z ?_
   refine ux (fun B=>kw Z Z) Z Z ?_
   refine ux (fun B=>am Z) Z Z ?_
   refine ux (fun B=>ak 2 Z Z Z) Z Z ?_
   refine ux (fun B=>ak 7 Z Z Z) Z Z ?_
   refine uxk (hc2) Z ⟨A,A,Ap⟩ Z ?_
   refine ux (fun B=>kw Z Z) Z Z ?_
   refine ux (fun B=>am Z) Z Z ?_
   refine ux (fun B=>ak 2 Z Z Z) Z Z ?_
   refine ux (fun B=>aP 13 Z Z) Z Z ?_
   refine uxk (hgc) Z ⟨A,A,Ap⟩ Z ?_
   refine ux (fun B=>ak 11 Z Z Z) Z Z ?_
   refine uxk (hc3) Z ⟨A,A,Ap⟩ Z ?_
   refine ux (fun B=>bW Z Z) Z Z ?_
   refine ux (fun B=>ak 0 Z Z Z) Z Z ?_
   refine uxk (hsi) Z ⟨A,Ap⟩ Z ?_
   refine ux (fun B=>bW Z Z) Z Z ?_
   refine uB Z Z Z (BuildK.cons Z Z Z (BuildK.cons Z Z Z (BuildK.cons Z Z Z (BuildK.cons Z Z Z (BuildK.nil (ua Z (us Z ?_)))))))
   refine RunU.nil (fun γ => ?_)
   refine cw (M' := [_,_,_,_,_,_,_,_,_,_,_,_,_,_,_,_]) Z (ky (gK.refl _) (.keep f6 (SubM.refl _)) (aa (ae (ae (ai (Ak (aP 0 Z Z) (stB Z Z Z (BuildK.cons Z Z Z (BuildK.cons Z Z Z ?_)))))))))
   refine BuildK.cons Z Z Z (BuildK.cons Z Z Z (BuildK.nil (Ak (vf Z Z) (Ao (aa (nm (t:=115) (ψ:=one (.bool (!jo a m s f))) Z (aq (by rw [vA])) ?_))))))
   unfold uS jH dM
   cases hrc:jo a m s f
   ·rw [if_neg Y]
    refine aB Z (ae (ai (stB Z Z Z (BuildK.nil (bg 13 Z Z Z Z (Am Z (Ao (aa (aC ?_)))))))))
    refine aD ?_
    refine de Try.results15 (.cellW 13 Z Z (mZ)) (.tmp Z A)
   ·rw [if_pos Z]
    refine az Z (au (aa (ae (ai (Ak (aP 3 Z Z) (bg 13 Z Z Z Z (Am Z (Ao (aa ?_)))))))))
    refine aC ?_
    refine de Try.results15 (.cellW 13 Z Z A) (.tmp Z A)
end Tor
end
section
namespace Tor
open Go Go.RowKit Go.Proofs
theorem kq {a:Nat × Nat} {φ:VT} (h:φ=eU a):VT.le (slT (.agg 2) 1 (fun _=>φ)) (cq [a]):=by
 subst h
 exact bK Z (fun q hq=>by
  match q,hq with
  | 0, _ => rfl)
theorem ot {a:Nat × Nat} {φ:VT} (h:φ=eU a):VT.le (slT (.agg 2) 1 (fun q => [φ].reverse.getD q cm)) (cq [a]):=by
 subst h
 exact bK Z (fun q hq=>by
  match q,hq with
  | 0, _ => rfl)
theorem na {a b:Nat × Nat} {φ ψ:VT} (h:φ=eU a) (h':ψ=eU b):VT.le (slT (.agg 2) 2 (fun q => [ψ, φ].reverse.getD q cm)) (cq [a,b]):=by
 subst h h'
 exact bK Z (fun q hq=>by
  match q,hq with
  | 0, _ => rfl
  | 1, _ => rfl)
theorem nf:VT.le (one (.slice none 0 0)) (cq []):=hH
theorem gh {l:List (Nat × Nat)} (h:(l.all fun p=>decide (p.1<18446744073709551616) && decide (p.2<18446744073709551616))=true):eZ l:=fun p hp=>by
 have:=List.all_eq_true.1 h p hp
 simpa using this
attribute [local irreducible] J PJ aF one slT cS bP bZ exT cR eP bf be slV VT.le Ret cm fT jC
theorem uV (n d:Int) (hd:d≠0) (h1 : -9223372036854775808≤n) (h2:n≤9223372036854775807) (h3 : -9223372036854775808≤d) (h4:d≤9223372036854775807):Ok Try.prog 18 [one (.int .i64 n),one (.int .i64 d)] (jH (Rat.divInt n d)):=by
 have e1:bU n:=ff (Nat.lt_of_le_of_lt (show n.natAbs≤9223372036854775808 by omega) F)
 have e2:bU d:=ff (Nat.lt_of_le_of_lt (show d.natAbs≤9223372036854775808 by omega) F)
 have hq:=tq n d hd e1 e2
 unfold jH dM at *
 refine Ok.enter Try.func18 Z Try.ntmps18 Z (fun w O => ?_)
 refine ae (ai ?_)
 refine cg (T:=45) Z Z Z (fun b4 => ?_)
 refine Ao (aa (ae (ai (Al Z ?_))))
 refine Ak (aj (di _ (by assumption) (by assumption)) Z ⟨A,Ap⟩) ?_
 refine Al Z ?_
 refine Ak (aj (di _ (by assumption) (by assumption)) Z ⟨A,Ap⟩) ?_
 refine Ak (aj (hq) Z ⟨A,A,Ap⟩) ?_
 refine Al Z (Ak (an Z Z) (Ak (an Z Z) ?_))
 refine cg (T:=45) Z Z Z (fun b5 => ?_)
 refine bg 0 Z Z Z Z (Am Z (Ao (aa (ae (ai (Ak (aP 0 Z Z) (bg 1 Z Z Z Z (Ao (aa ?_)))))))))
 refine aC ?_
 refine aJ Try.results18 (.cellW 1 Z Z A)
theorem sg:a4 (-7):=cD F
theorem uW:a4 5:=cD F
set_option maxRecDepth 20000 in
theorem qM:Ok Try.prog 4 [] (one (.bool true)):=by
 have c1:=gy [(3,2),(5,3)] (gh Z) Y F
 rw [show iz [(3,2),(5,3)] = -7 by decide +kernel] at c1
 have c2:=gy [(2,1)] (gh Z) Y F
 rw [show iz [(2,1)]=1 by decide +kernel] at c2
 have c3:=gy [] (gh Z) Y F
 rw [show iz []=0 by decide +kernel] at c3
 have c4:=eV [(4,1)] (gh Z) F
 have c5:=eV [(3,3)] (gh Z) F
 have c6:=eV [(3,1),(3,1)] (gh Z) F
 have c7:=eV [(2147483659,1)] (gh Z) F
 have r1:=ka 67 100 7 Y (Nat.le_trans Y (Nat.pow_le_pow_right (n:=2) (i:=7) (j:=800) Y Y)) (Nat.le_trans Y (Nat.pow_le_pow_right (n:=2) (i:=7) (j:=800) Y Y)) Y Y
 rw [show sf 67 100 7=some (Rat.divInt 1 3) by decide +kernel] at r1
 have r2:=ka 50 100 7 Y (Nat.le_trans Y (Nat.pow_le_pow_right (n:=2) (i:=7) (j:=800) Y Y)) (Nat.le_trans Y (Nat.pow_le_pow_right (n:=2) (i:=7) (j:=800) Y Y)) Y Y
 rw [show sf 50 100 7=none by decide +kernel] at r2
 have r3:=m9 5 1 Y
 have p1:=gw [(3,0),(5,9)] (gh Z) Y
 have p2:=gw [] (gh Z) Y
 have k1:=dB [(3,2)] (-7) (gh Z) sg
 rw [show (bY [] [(3,2)] && ew [(3,2)] (-7))=true by decide +kernel] at k1
 have k2:=dB [(3,1)] (-7) (gh Z) sg
 rw [show (bY [] [(3,1)] && ew [(3,1)] (-7))=false by decide +kernel] at k2
 have k3:=dB [] 5 (gh Z) uW
 rw [show (bY [] [] && ew [] 5)=true by decide +kernel] at k3
 refine Ok.enter Try.func4 Z Try.ntmps4 Z (fun w O => ?_)
 refine ae (ai (Am Z (Ao (aa (ae (ai (stB Z Z Z (BuildK.cons Z Z Z (BuildK.cons Z Z Z ?_)))))))))
 refine BuildK.nil (stB Z Z Z (BuildK.cons Z Z Z (BuildK.cons Z Z Z (BuildK.nil (stS Z Z Z Z (PartsK.cons Z (PartsK.cons Z (PartsK.nil ?_))))))))
 refine Ak (aj (c1) Z ⟨(na Z Z),Ap⟩) ?_
 refine Al Z (Ak (an Z Z) (Ak (an Z Z) ?_))
 refine av (T:=29) Z (ltN Z) (fun b1 => ?_)
 refine ao 0 Z Z Z Z Z (leN Z) Z (Am Z (Ao (aa (ae (ai (stB Z Z Z (BuildK.cons Z Z Z (BuildK.cons Z Z Z (BuildK.nil ?_)))))))))
 refine kb Z Z Z Z ?_
 refine Ak (aj (c2) Z ⟨(kq Z),Ap⟩) ?_
 refine Al Z (Ak (an Z Z) (Ak (an Z Z) ?_))
 refine av (T:=29) Z (ltN Z) (fun b3 => ?_)
 refine ao 0 Z Z Z Z Z (leN Z) Z (Am Z (Ao (aa (ae (ai ?_)))))
 refine Ak (aj (c3) Z ⟨(nf),Ap⟩) ?_
 refine Al Z (Ak (an Z Z) (Ak (an Z Z) ?_))
 refine av (T:=29) Z (ltN Z) (fun b5 => ?_)
 refine ao 0 Z Z Z Z Z (leN Z) Z (Am Z (Ao (aa (ae (ai (stB Z Z Z (BuildK.cons Z Z Z (BuildK.cons Z Z Z (BuildK.nil ?_)))))))))
 refine kb Z Z Z Z ?_
 refine Ak (aj (c4) Z ⟨(kq Z),Ap⟩) ?_
 refine Al Z (Ak (an Z Z) (Ak (an Z Z) ?_))
 refine av (T:=29) Z (ltN Z) (fun b7 => ?_)
 refine ao 0 Z Z Z Z Z (leN Z) Z (Am Z (Ao (aa (ae (ai (stB Z Z Z (BuildK.cons Z Z Z (BuildK.cons Z Z Z (BuildK.nil ?_)))))))))
 refine kb Z Z Z Z ?_
 refine Ak (aj (c5) Z ⟨(kq Z),Ap⟩) ?_
 refine Al Z (Ak (an Z Z) (Ak (an Z Z) ?_))
 refine av (T:=29) Z (ltN Z) (fun b9 => ?_)
 refine ao 0 Z Z Z Z Z (leN Z) Z (Am Z (Ao (aa (ae (ai (stB Z Z Z (BuildK.cons Z Z Z (BuildK.cons Z Z Z (BuildK.nil ?_)))))))))
 refine stB Z Z Z (BuildK.cons Z Z Z (BuildK.cons Z Z Z (BuildK.nil (stS Z Z Z Z (PartsK.cons Z (PartsK.cons Z (PartsK.nil ?_)))))))
 refine Ak (aj (c6) Z ⟨(na Z Z),Ap⟩) ?_
 refine Al Z (Ak (an Z Z) (Ak (an Z Z) ?_))
 refine av (T:=29) Z (ltN Z) (fun b11 => ?_)
 refine ao 0 Z Z Z Z Z (leN Z) Z (Am Z (Ao (aa (ae (ai (stB Z Z Z (BuildK.cons Z Z Z (BuildK.cons Z Z Z (BuildK.nil ?_)))))))))
 refine kb Z Z Z Z ?_
 refine Ak (aj (c7) Z ⟨(kq Z),Ap⟩) ?_
 refine Al Z (Ak (an Z Z) (Ak (an Z Z) ?_))
 refine av (T:=29) Z (ltN Z) (fun b13 => ?_)
 refine ao 0 Z Z Z Z Z (leN Z) Z (Am Z (Ao (aa (ae (ai ?_)))))
 refine Ak (aj (di _ S S) Z ⟨A,Ap⟩) ?_
 refine Ak (aj (di _ S S) Z ⟨A,Ap⟩) ?_
 refine Ak (aj (r1) Z ⟨A,A,Ap⟩) ?_
 refine Al Z (Ak (an Z Z) (Ak (an Z Z) ?_))
 refine cg (T:=45) Z Z Z (fun b15 => ?_)
 refine bg 0 Z Z Z Z (Am Z (Ao (aa (ae (ai ?_)))))
 refine Ak (aj (di _ S S) Z ⟨A,Ap⟩) ?_
 refine Ak (aj (di _ S S) Z ⟨A,Ap⟩) ?_
 refine Ak (aj (r2) Z ⟨A,A,Ap⟩) ?_
 refine Al Z (Ak (an Z Z) (Ak (an Z Z) ?_))
 refine cg (T:=45) Z Z Z (fun b17 => ?_)
 refine bg 0 Z Z Z Z (Am Z (Ao (aa (ae (ai ?_)))))
 refine Ak (aj (di _ S S) Z ⟨A,Ap⟩) ?_
 refine Ak (aj (di _ S S) Z ⟨A,Ap⟩) ?_
 refine Ak (aj (r3) Z ⟨A,A,Ap⟩) ?_
 refine Al Z (Ak (an Z Z) (Ak (an Z Z) ?_))
 refine cg (T:=45) Z Z Z (fun b19 => ?_)
 refine bg 0 Z Z Z Z (Am Z (Ao (aa (ae (aU 25 aR X Y (Al Z (Ak (sT S (bW Z Z)) (Al Z (An (ab Z) ?_)))))))))
 refine An (sT S (bW Z Z)) (Ak (a9 Z Z) (Al Z (An (ab Z) (An (sT S (bW Z Z)) (Ak (a9 Z Z) (Al Z (An (ak 9 Z Z Z) ?_)))))))
 refine An (aj (di _ S S) Z ⟨A,Ap⟩) ?_
 refine An (sT S (aj (dx _ _) Z ⟨A,A,Ap⟩)) ?_
 refine Ak (a9 Z Z) (Al Z (An (ak 8 Z Z Z) ?_))
 refine An (aj (di _ S S) Z ⟨A,Ap⟩) ?_
 refine An (sT S (aj (dx _ _) Z ⟨A,A,Ap⟩)) ?_
 refine Ak (a9 Z Z) (Al Z (An (ak 7 Z Z Z) ?_))
 refine An (aj (di _ S S) Z ⟨A,Ap⟩) ?_
 refine An (sT S (aj (dx _ _) Z ⟨A,A,Ap⟩)) ?_
 refine Ak (a9 Z Z) (Ao (Am Z (Ao (aa (ae (ai (Al Z (Ak (sT S (bW Z Z)) (Al Z ?_)))))))))
 refine An (ab Z) (An (sT S (bW Z Z)) (Ak (a9 Z Z) (Al Z (An (ab Z) (An (sT S (bW Z Z)) (Ak (a9 Z Z) (Al Z (An (ab Z) (An (sT S (bW Z Z)) ?_)))))))))
 refine Ak (a9 Z Z) (Al Z (An (ab Z) (An (sT (rfl) (bW Z Z)) (Ak (a9 Z Z) (Al Z (An (ab Z) (An (sT S (bW Z Z)) (Ak (a9 Z Z) (Am Z ?_)))))))))
 refine Ao (aa (ae (aU 43 aR X Y (Al Z (Al Z (An (ab Z) (Ak (a9 Z Z) (Al Z (An (ab Z) ?_)))))))))
 refine An (sT (rfl) (bW Z Z)) (Ak (a9 Z Z) (Al Z (An (aP 2 Z Z) ?_)))
 refine An (aj (uV _ _ S S S S S) Z ⟨A,A,Ap⟩) ?_
 refine An (sT (rfl) (aj (qx _ _) Z ⟨A,A,Ap⟩)) ?_
 refine Ak (a9 Z Z) (Al Z (sK Z Z Z Z Z (BuildK.cons Z Z Z (BuildK.nil (sK Z Z Z Z Z (BuildK.cons Z Z Z (BuildK.cons Z Z Z (BuildK.nil (ug Z Z Z Z Z Z ?_)))))))))
 refine PartsK.cons Z (PartsK.cons Z (PartsK.nil ?_))
 refine An (aj (p1) Z ⟨(na Z Z),Ap⟩) ?_
 refine An (aj (di _ S S) Z ⟨A,Ap⟩) ?_
 refine An (sT (rfl) (aj (dx _ _) Z ⟨A,A,Ap⟩)) ?_
 refine Ak (a9 Z Z) (Al Z ?_)
 refine An (aj (p2) Z ⟨(nf),Ap⟩) ?_
 refine An (aj (di _ S S) Z ⟨A,Ap⟩) ?_
 refine An (sT (rfl) (aj (dx _ _) Z ⟨A,A,Ap⟩)) ?_
 refine Ak (a9 Z Z) (Al Z (sK Z Z Z Z Z (BuildK.cons Z Z Z (BuildK.cons Z Z Z (BuildK.nil (ug Z Z Z Z Z Z (PartsK.cons Z (PartsK.nil ?_))))))))
 refine An (aj (di _ S S) Z ⟨A,Ap⟩) ?_
 refine An (aj (k1) Z ⟨(ot Z),A,Ap⟩) ?_
 refine Ak (a9 Z Z) (Al Z (sK Z Z Z Z Z (BuildK.cons Z Z Z (BuildK.cons Z Z Z (BuildK.nil (ug Z Z Z Z Z Z (PartsK.cons Z (PartsK.nil ?_))))))))
 refine An (aj (di _ S S) Z ⟨A,Ap⟩) ?_
 refine An (aj (k2) Z ⟨(ot Z),A,Ap⟩) ?_
 refine An (cv Z) (Ak (a9 Z Z) (Al Z ?_))
 refine An (aj (di _ S S) Z ⟨A,Ap⟩) ?_
 refine An (aj (k3) Z ⟨(nf),A,Ap⟩) ?_
 refine Ak (a9 Z Z) (Ao (Am Z (Ao (aa (aC ?_)))))
 refine aJ Try.results4 (.tmp Z A)
end Tor
end
section
namespace Tor
open Go Go.RowKit Go.Proofs
theorem qN (l:List (Nat × Nat)):(fF l).length≤l.length:=by
 have:=lh l []
 unfold fF;simpa using this
attribute [local irreducible] J PJ aF one slT cS bP bZ exT cR eP bf be slV VT.le Ret cm fT jC
theorem uX {l:List (Nat × Nat)} (h:(∀ p∈l,(p.1:Int)≤IntKind.max .u8∧(p.2:Int)≤IntKind.max .u32)∧True):pJ l:=fun p hp=>by
 have:=h.1 p hp
 simp only [IntKind.max,IntKind.signed,IntKind.bits] at this
 simp at this
 omega
end Tor
end
section
namespace Tor
open Go Go.RowKit Go.Proofs
def sh (l:List Nat) (n:Bool):VT:=bP 2 [(0, .one,bC l),(1, .one,one (.bool n))]
def si (l:List Nat) (n:Bool) (k:Nat):Int:=if n then -(lv (l.take k):Int) else (lv (l.take k):Int)
theorem tK {l:List Nat} {n:Bool} {k:Nat} (h:aW l):(si l n k).natAbs<2^(32*k):=by
 have:=gv h k
 unfold si
 cases n
 ·rw [if_neg Y]; omega
 ·rw [if_pos Z]; omega
theorem qO {l:List Nat} {k:Nat} {m:Int} (h:aW l) (hk:k≤16) (hm:m=min (l.length:Int) k):VT.le (slT .one (m - 0).toNat (fun i=>one (.int .u32 (l.getD (Int.toNat 0+i) 0:Nat)))) (kT (lv (l.take k))):=by
 refine VT.le_trans (bK (m:=(l.take k).length) (ψ:=ep (l.take k)) (by rw [List.length_take]; omega) (fun i hi => ?_)) (fb (h.take k) Z (by rw [List.length_take]; omega))
 have e:Int.toNat 0+i=i:=Nat.zero_add i
 unfold ep
 rw [e]
 have:i<k:=by omega
 simp [List.getD,List.getElem?_take,this]
attribute [local irreducible] J PJ aF one slT cS bP bZ exT cR eP bf be slV VT.le Ret cm fT jC
theorem qP (l:List Nat) (n:Bool) (k:Nat) (h:aW l) (hk:k≤16):Ok Try.prog 5 [sh l n,one (.int .i64 (k:Int))] (aS (si l n k)):=by
 have hmd:=cp n (lv (l.take k))
 unfold sh
 refine Ok.enter Try.func5 Z Try.ntmps5 Z (fun w O => ?_)
 refine ae (ai ?_)
 refine aO Z Z (ltN Z) (fun b2 => ?_)
 refine av (T:=29) Z (ltN Z) (fun b4 => ?_)
 refine Ao (aa (ae (aU 11 aR X Y (Ak (am Z) (Ak (ak 1 Z Z Z) (Ak (am Z) (Ak (ak 1 Z Z Z) (Ak (aM Z) (Al Z ?_)))))))))
 refine Ak (u5 Z Z) ?_
 refine Ak (g8 Z Z Z Z (fun _=>rfl) S S S S) ?_
 refine Ak (am Z) (Ak (ak 1 Z Z Z) ?_)
 refine Ak (aj (hmd) Z ⟨(qO h hk Z),A,Ap⟩) ?_
 refine Ao (ao 0 Z Z Z Z Z (leN Z) Z (Ao (aa (aC ?_))))
 refine aJ Try.results5 (.cellB 0 Z Z Z A)
end Tor
end
