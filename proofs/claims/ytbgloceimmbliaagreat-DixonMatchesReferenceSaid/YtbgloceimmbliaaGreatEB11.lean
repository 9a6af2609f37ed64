/-
  Theorems that the proofs of laws of this seat rest on.
  No condition.
-/
import Derived.Test.YtbgloceimmbliaaGreatEB10
set_option maxHeartbeats 20000000
set_option linter.unusedVariables false
set_option linter.unusedSimpArgs false
section
namespace Tor
namespace Lin
theorem cramer_to {n j:Nat} (hj:j<n) (F:Nat→Nat→Rat) (c:Nat→Rat) : ∀ m,m≤n→det n (fun i k=>if i=j then sm m (fun t=>c t*F t k) else F i k)=if j<m then c j*det n F else 0
 | 0, _ => by
  rw [if_neg (Nat.not_lt_zero j),iX 0 0 (p:=j) (G:=F) (FA:=F) hj (fun k _=>by rw [if_pos Y]; show (0:Rat)=_;grind) (fun i k _ _ hi=>by rw [if_neg hi]) (fun i k _ _ hi=>by rw [if_neg hi])]
  grind
 | m + 1, hm => by
  have ih:=cramer_to hj F c m X
  rw [iX 1 (c m) (p:=j) (G:=fun i k=>if i=j then sm m (fun t=>c t*F t k) else F i k) (FA:=fun i k=>if i=j then F m k else F i k) hj
   (fun k _=>by rw [if_pos Y,if_pos Y,if_pos Y]; show sm m (fun t=>c t*F t k)+c m*F m k=_;grind) (fun i k _ _ hi=>by rw [if_neg hi,if_neg hi]) (fun i k _ _ hi=>by rw [if_neg hi,if_neg hi]),ih]
  by_cases e:m=j
  ·subst e
   have h:det n (fun i k=>if i=m then F m k else F i k)=det n F:=bM fun i k _ _=>by
    by_cases h:i=m
    ·rw [if_pos h,h]
    ·rw [if_neg h]
   rw [h,if_neg (Nat.lt_irrefl m),if_pos (Nat.lt_succ_self m)]
   grind
  ·have h:det n (fun i k=>if i=j then F m k else F i k)=0:=by
    rcases Nat.lt_or_gt_of_ne e with h | h
    ·exact fD fR h hj (fun k _=>by rw [if_neg X,if_pos Y])
    ·exact fD fR h X (fun k _=>by rw [if_pos Y,if_neg X])
   rw [h]
   by_cases h2:j<m
   ·rw [if_pos h2,if_pos X]; grind
   ·rw [if_neg h2,if_neg X]; grind
end Lin
def l0 (F:Nat→Nat→Int) (j:Nat) (b:Nat→Int):Nat→Nat→Int:=fun i k=>if i=j then b k else F i k
theorem EK {n j:Nat} {F:Nat→Nat→Int} {b c:Nat→Int} {d:Int} (hj:j<n) (hd:d≠0) (h : ∀ k,k<n→bD n (fun t=>c t*F t k)=d*b k):d*Lin.bK n (l0 F j b)=c j*Lin.bK n F:=by
 have h1:=Lin.cramer_to hj (fun i k=>(F i k:Rat)) (fun t=>(c t:Rat)) n (Nat.le_refl _)
 rw [if_pos hj] at h1
 have h2:Lin.det n (fun i k=>if i=j then Lin.sm n (fun t=>(c t:Rat)*(F t k:Rat)) else (F i k:Rat))=(d:Rat)*Lin.det n (fun i k=>((l0 F j b i k:Int):Rat)):=by
  rw [Lin.iX (d:Rat) 0 (p:=j) (G:=fun i k=>((l0 F j b i k:Int):Rat)) (FA:=fun i k=>((l0 F j b i k:Int):Rat)) hj (fun k hk=>by
   rw [if_pos Y]
   unfold l0
   rw [if_pos Y]
   have:=congrArg (fun z:Int=>(z:Rat)) (h k hk)
   rw [iK,Rat.intCast_mul] at this
   rw [show (fun t=>(c t:Rat)*(F t k:Rat))=fun t=>((c t*F t k:Int):Rat) by funext t;rw [Rat.intCast_mul],this]
   grind) (fun i k _ _ hi=>by unfold l0;rw [if_neg hi,if_neg hi]) (fun i k _ _ hi=>by unfold l0;rw [if_neg hi,if_neg hi])]
  grind
 rw [h2, ← Lin.di, ← Lin.di, ← Rat.intCast_mul, ← Rat.intCast_mul] at h1
 exact Rat.intCast_inj.1 h1
structure AdjI (n:Nat) (F G:Nat→Nat→Int) (d:Int):Prop where
 fg : ∀ i j,i<n→j<n→bD n (fun k=>F i k*G k j)=if i=j then d else 0
 gf : ∀ i j,i<n→j<n→bD n (fun k=>G i k*F k j)=if i=j then d else 0
theorem l3 (n:Nat) (F:Nat→Nat→Int) : ∃ G,AdjI n F G (Lin.bK n F):=⟨_,fun i j hi hj=>(uv n F i j hi hj).1,fun i j hi hj=>(uv n F i j hi hj).2⟩
theorem Bo (n m:Nat) (f:Nat→Nat→Int):bD n (fun i=>bD m (fun j=>f i j))=bD m (fun j=>bD n (fun i=>f i j)):=by
 induction n with
 | zero => exact ((dO (n := m) (f := fun _ => (0 : Int)) (g := fun _ => (0 : Int) * 0) (fun _ _ => rfl)).trans ((dS m 0 _).trans (Int.zero_mul _))).symm
 | succ n ih => rw [bD, ih, ← g7]; rfl
theorem p7 {n:Nat} {G F:Nat→Nat→Int} {u:Nat→Int} (j:Nat):bD n (fun h=>G j h*bD n (fun k=>F h k*u k))=bD n (fun k=>bD n (fun h=>G j h*F h k)*u k):=by
 have e1:(fun h=>G j h*bD n (fun k=>F h k*u k))=fun h=>bD n (fun k=>G j h*F h k*u k):=by
  funext h
  rw [← dS]
  exact congrArg (bD n) (funext fun k=>by rw [Int.mul_assoc])
 have e2:(fun k=>bD n (fun h=>G j h*F h k)*u k)=fun k=>bD n (fun h=>G j h*F h k*u k):=by
  funext k
  rw [Int.mul_comm, ← dS]
  exact congrArg (bD n) (funext fun h=>Int.mul_comm _ _)
 rw [e1,e2]
 exact Bo n n _
theorem nK {n j:Nat} {d:Int} {u:Nat→Int} (hj:j<n):bD n (fun k=>(if j=k then d else 0)*u k)=d*u j:=by
 rw [iH hj fun k _ hne=>by rw [if_neg (fun e=>hne e.symm),Int.zero_mul],if_pos Y]
theorem Bp {p n:Nat} {F G:Nat→Nat→Int} {d:Int} (hp:Lin.Pr p) (h:AdjI n F G d) (hd : ¬ (p:Int)∣d):vB p n F:=fun u hu j hj=>by
 have h1:(p:Int)∣bD n (fun h=>G j h*bD n (fun k=>F h k*u k)):=sf fun k hk=>Int.dvd_mul_of_dvd_right (hu k hk)
 rw [p7,dO (g:=fun k=>(if j=k then d else 0)*u k) (fun k hk=>by rw [h.gf j k hj hk]),nK hj] at h1
 have h2:=Int.natAbs_dvd_natAbs.2 h1
 rw [Int.natAbs_natCast,Int.natAbs_mul] at h2
 rcases hp.mul h2 with h3 | h3
 ·exact absurd (Int.ofNat_dvd_left.2 h3) hd
 ·exact Int.ofNat_dvd_left.2 h3
def crB (n:Nat) (b:Nat→Int) (G:Nat→Nat→Int) (j:Nat):Int:=bD n (fun i=>b i*G i j)
theorem xc {n k:Nat} {F G:Nat→Nat→Int} {d:Int} {b:Nat→Int} (h:AdjI n F G d) (hk:k<n):bD n (fun t=>crB n b G t*F t k)=d*b k:=by
 have e:(fun t=>crB n b G t*F t k)=fun t=>F t k*bD n (fun i=>G i t*b i):=by
  funext t
  rw [Int.mul_comm]
  exact congrArg (F t k * ·) (congrArg (bD n) (funext fun i=>Int.mul_comm _ _))
 rw [e,show (fun t=>F t k*bD n (fun i=>G i t*b i))=fun t=>(fun a c=>F c a) k t*bD n (fun i=>(fun a c=>G c a) t i*b i) from rfl,p7 (G:=fun a c=>F c a) (F:=fun a c=>G c a) k,
  dO (g:=fun i=>(if k=i then d else 0)*b i) (fun i hi=>by
   have:=h.gf i k hi hk
   rw [dO (g:=fun t=>G i t*F t k) (fun t _=>Int.mul_comm _ _),this]
   by_cases e:i=k
   ·rw [if_pos e,if_pos e.symm]
   ·rw [if_neg e,if_neg fun e'=>e e'.symm]),nK hk]
theorem xd {n j:Nat} {F G:Nat→Nat→Int} {b:Nat→Int} (h:AdjI n F G (Lin.bK n F)) (hd:Lin.bK n F≠0) (hj:j<n):crB n b G j=Lin.bK n (l0 F j b):=by
 have:=EK (F:=F) (b:=b) (c:=crB n b G) hj hd (fun k hk=>xc h hk)
 rw [Int.mul_comm (crB n b G j)] at this
 exact (Int.eq_of_mul_eq_mul_left hd this).symm
theorem uw {n j:Nat} {m d:Int} {F G:Nat→Nat→Int} {b FB:Nat→Int} (h:AdjI n F G d) (hS : ∀ i,i<n→m∣b i - bD n (fun t=>FB t*F t i)) (hj:j<n):m∣crB n b G j - d*FB j:=by
 have h1:m∣bD n (fun i=>(b i - bD n (fun t=>FB t*F t i))*G i j):=sf fun i hi=>Int.dvd_mul_of_dvd_left (hS i hi)
 have e:(fun i=>(b i - bD n (fun t=>FB t*F t i))*G i j)=fun i=>b i*G i j+(-1)*((fun a c=>G c a) j i*bD n (fun t=>(fun a c=>F c a) i t*FB t)):=by
  funext i
  dsimp only
  rw [Int.sub_mul,Int.mul_comm (bD n _) (G i j),show (fun t=>FB t*F t i)=fun t=>F t i*FB t by funext t;exact Int.mul_comm _ _]
  omega
 rw [e,g7,dS,p7 (G:=fun a c=>G c a) (F:=fun a c=>F c a) j,dO (f:=fun k=>bD n (fun i=>(fun a c=>G c a) j i*(fun a c=>F c a) i k)*FB k) (g:=fun k=>(if j=k then d else 0)*FB k) (fun k hk=>by
   have:=h.fg k j hk hj
   dsimp only
   rw [dO (g:=fun i=>F k i*G i j) (fun i _=>Int.mul_comm _ _),this]
   by_cases e:k=j
   ·rw [if_pos e,if_pos e.symm]
   ·rw [if_neg e,if_neg fun e'=>e e'.symm]),nK hj] at h1
 unfold crB
 rwa [show bD n (fun i=>b i*G i j) - d*FB j=bD n (fun i=>b i*G i j) + -1*(d*FB j) by omega]
end Tor
end
section
namespace Tor
open Go Go.RowKit Go.Proofs
theorem uy {a:Int} {m s:Nat} {f:Rat} : jU a m s f=true↔f.num.natAbs≤s∧f.den≤s∧Nat.gcd f.den m=1∧(f.num - a*f.den) % (m:Int)=0:=by
 unfold jU
 simp only [Bool.and_eq_true,decide_eq_true_eq]
structure EucI (a:Int) (m s:Nat) (x y:Nat × Int):Prop where
 det:(x.1:Int)*y.2 - (y.1:Int)*x.2=m∨(x.1:Int)*y.2 - (y.1:Int)*x.2 = -(m:Int)
 sg:x.2*y.2≤0
 gx:s<x.1
 ax:(m:Int)∣(x.1:Int) - a*x.2
 ay:(m:Int)∣(y.1:Int) - a*y.2
theorem uz (q:Int):0≤q*q:=by
 rcases Int.le_total 0 q with h | h
 ·exact Int.mul_nonneg h h
 ·exact Int.mul_nonneg_of_nonpos_of_nonpos h h
theorem EucI.step {a:Int} {m s:Nat} {x y:Nat × Int} (h:EucI a m s x y) (hc:s<y.1):EucI a m s y (x.1 % y.1,x.2 - ((x.1 / y.1:Nat):Int)*y.2):=by
 have hd:(y.1:Int)*((x.1 / y.1:Nat):Int)+((x.1 % y.1:Nat):Int)=(x.1:Int):=by
  have:=Nat.div_add_mod x.1 y.1
  rw [← Int.natCast_mul, ← Int.natCast_add,this]
 have hq:(0:Int)≤((x.1 / y.1:Nat):Int):=Int.natCast_nonneg _
 obtain ⟨u,v,w,k1,k2⟩:=h
 refine ⟨?_,?_,hc,k2,?_⟩ <;> dsimp only at *
 ·generalize ((x.1 / y.1:Nat):Int)=q at *
  generalize ((x.1 % y.1:Nat):Int)=r at *
  have e:(y.1:Int)*(x.2 - q*y.2) - r*y.2 = -((x.1:Int)*y.2 - (y.1:Int)*x.2):=by grind
  rw [e]
  rcases u with u | u <;> rw [u]
  ·right;rfl
  ·left;omega
 ·generalize ((x.1 / y.1:Nat):Int)=q at *
  have e:y.2*(x.2 - q*y.2)=x.2*y.2 - q*(y.2*y.2):=by grind
  rw [e]
  have:=Int.mul_nonneg hq (uz y.2)
  omega
 ·generalize ((x.1 / y.1:Nat):Int)=q at *
  generalize ((x.1 % y.1:Nat):Int)=r at *
  have e:r - a*(x.2 - q*y.2)=((x.1:Int) - a*x.2) - q*((y.1:Int) - a*y.2):=by grind
  rw [e]
  exact Int.dvd_sub k1 (Int.dvd_mul_of_dvd_right k2)
theorem uA {a:Int} {m s:Nat} : ∀ (f:Nat) (x y:Nat × Int),y.1<f→EucI a m s x y → ∃ x',EucI a m s x' (lZ s f x y)∧(lZ s f x y).1≤s
 | 0, _, _, h, _ => absurd h (Nat.not_lt_zero _)
 | f + 1, x, y, h, hi => by
  rw [lZ]
  by_cases c:s<y.1
  ·rw [if_pos c]
   exact uA f _ _ (by have:=Nat.mod_lt x.1 (show 0<y.1 by omega);show x.1 % y.1<f;omega) (hi.step c)
  ·rw [if_neg c]
   exact ⟨x,hi,by omega⟩
theorem vS {m z:Int} (h:m∣z) (hl:z.natAbs<m.natAbs):z=0:=by
 obtain ⟨k,rfl⟩:=h
 rw [Int.natAbs_mul] at hl
 by_cases hk:k=0
 ·rw [hk,Int.mul_zero]
 ·have:=Nat.le_mul_of_pos_right m.natAbs (show 0<k.natAbs by omega)
  omega
theorem uC {P Q:Int} (h:0≤P*Q):Q.natAbs≤(P+Q).natAbs:=by
 rcases Int.lt_trichotomy P 0 with p | p | p
 ·rcases Int.lt_trichotomy Q 0 with q | q | q
  ·omega
  ·omega
  ·have:=Int.mul_neg_of_neg_of_pos p q;omega
 ·omega
 ·rcases Int.lt_trichotomy Q 0 with q | q | q
  ·have:=Int.mul_neg_of_pos_of_neg p q;omega
  ·omega
  ·omega
theorem C5 {a n d:Int} {m s:Nat} {x y:Nat × Int} (h:EucI a m s x y) (hy:y.1≤s) (hm:2*(s*s)<m) (hn:n.natAbs≤s) (hd:d.natAbs≤s) (hd0:0<d) (hc:(m:Int)∣n - a*d) :
  n*y.2=(y.1:Int)*d∧y.2≠0:=by
 obtain ⟨u,v,w,k1,k2⟩:=h
 have hA:(m:Int)∣n*y.2 - (y.1:Int)*d:=by
  have e:n*y.2 - (y.1:Int)*d=(n - a*d)*y.2 - ((y.1:Int) - a*y.2)*d:=by grind
  rw [e]
  exact Int.dvd_sub (Int.dvd_mul_of_dvd_left hc) (Int.dvd_mul_of_dvd_left k2)
 have hB:(m:Int)∣(x.1:Int)*d - n*x.2:=by
  have e:(x.1:Int)*d - n*x.2=((x.1:Int) - a*x.2)*d - (n - a*d)*x.2:=by grind
  rw [e]
  exact Int.dvd_sub (Int.dvd_mul_of_dvd_left k1) (Int.dvd_mul_of_dvd_left hc)
 have hm0:(m:Int)≠0:=by omega
 obtain ⟨α,hα⟩:=hA
 obtain ⟨β,hβ⟩:=hB
 -- with the sign of the determinant taken into the factors
 obtain ⟨α, β,eα,e1,e2⟩ : ∃ α' β':Int,(α=α'∨α = -α')∧n=α'*x.1+β'*y.1∧d=α'*x.2+β'*y.2:=by
  rcases u with u | u
  ·refine ⟨α, β, .inl Y,Int.eq_of_mul_eq_mul_left hm0 ?_,Int.eq_of_mul_eq_mul_left hm0 ?_⟩ <;> grind
  ·refine ⟨-α, -β, .inr X,Int.eq_of_mul_eq_mul_left hm0 ?_,Int.eq_of_mul_eq_mul_left hm0 ?_⟩ <;> grind
 have hx1:(s:Int)<(x.1:Int):=by omega
 have hy1:(0:Int)≤(y.1:Int):=Int.natCast_nonneg _
 by_cases h0:α=0
 ·rw [h0,Int.zero_mul,Int.zero_add] at e1 e2
  refine ⟨by rw [e1,e2]; ac_rfl,fun k => ?_⟩
  rw [k,Int.mul_zero] at e2
  omega
 ·exfalso
  by_cases hs:y.2.natAbs≤s
  ·have hl:(n*y.2 - (y.1:Int)*d).natAbs<(m:Int).natAbs:=by
    have t1:=Nat.mul_le_mul hn hs
    have t2:=Nat.mul_le_mul hy hd
    rw [← Int.natAbs_mul] at t1
    have t3:((y.1:Int)*d).natAbs≤s*s:=by rw [Int.natAbs_mul,Int.natAbs_natCast]; exact t2
    rw [Int.natAbs_natCast]
    omega
   have hz:=vS ⟨_,hα⟩ hl
   rw [hα] at hz
   rcases Int.mul_eq_zero.1 hz with k | k <;> omega
  ·rcases Int.lt_trichotomy α 0 with p | p | p
   ·rcases Int.lt_trichotomy β 0 with q | q | q
    ·have t1:=Int.mul_le_mul_of_nonneg_right (show α ≤ -1 by omega) (show (0:Int)≤x.1 by omega)
     have t2:=Int.mul_le_mul_of_nonneg_right (show β≤0 by omega) hy1
     omega
    ·have t1:=Int.mul_le_mul_of_nonneg_right (show α ≤ -1 by omega) (show (0:Int)≤x.1 by omega)
     rw [q,Int.zero_mul] at e1
     omega
    ·have t1:0≤(α*x.2)*(β*y.2):=by
      have e:(α*x.2)*(β*y.2)=(α*β)*(x.2*y.2):=by ac_rfl
      rw [e]
      exact Int.mul_nonneg_of_nonpos_of_nonpos (by have:=Int.mul_neg_of_neg_of_pos p q;omega) v
     have t2:=uC t1
     rw [← e2,Int.natAbs_mul] at t2
     have t3:=Nat.le_mul_of_pos_left y.2.natAbs (show 0<β.natAbs by omega)
     omega
   ·exact h0 p
   ·rcases Int.lt_trichotomy β 0 with q | q | q
    ·have t1:0≤(α*x.2)*(β*y.2):=by
      have e:(α*x.2)*(β*y.2)=(α*β)*(x.2*y.2):=by ac_rfl
      rw [e]
      exact Int.mul_nonneg_of_nonpos_of_nonpos (by have:=Int.mul_neg_of_pos_of_neg p q;omega) v
     have t2:=uC t1
     rw [← e2,Int.natAbs_mul] at t2
     have t3:=Nat.le_mul_of_pos_left y.2.natAbs (show 0<β.natAbs by omega)
     omega
    ·have t1:=Int.mul_le_mul_of_nonneg_right (show 1≤α by omega) (show (0:Int)≤x.1 by omega)
     rw [q,Int.zero_mul] at e1
     omega
    ·have t1:=Int.mul_le_mul_of_nonneg_right (show 1≤α by omega) (show (0:Int)≤x.1 by omega)
     have t2:=Int.mul_le_mul_of_nonneg_right (show 0≤β by omega) hy1
     omega
theorem xe {a n d:Int} {m s:Nat} (hm:2*(s*s)<m) (hsm:s<m) (hn:n.natAbs≤s) (hd:d.natAbs≤s) (hd0:0<d) (hg:Nat.gcd d.natAbs m=1) (hc:(m:Int)∣n - a*d) :
  vM a m s=some (Rat.divInt n d):=by
 have hm0:(m:Int)≠0:=by omega
 have n1:=Int.emod_nonneg a hm0
 have n2:=Int.emod_lt_of_pos a (show 0<(m:Int) by omega)
 obtain ⟨x,hi,hy⟩:=uA (a:=a) (m:=m) (s:=s) (m+1) (m,0) ((a % (m:Int)).toNat,1) (show (a % (m:Int)).toNat<m+1 by omega)
  ⟨.inl (by simp),by simp,hsm,by simp,by
   show (m:Int)∣((a % (m:Int)).toNat:Int) - a*1
   rw [Int.toNat_of_nonneg n1,Int.mul_one]
   have:=Int.dvd_self_sub_emod (x:=a) (m:=(m:Int))
   have e:a % (m:Int) - a = -(a - a % (m:Int)):=by omega
   rw [e]; exact Int.dvd_neg.2 this⟩
 unfold vM
 dsimp only
 generalize lZ s (m+1) (m,0) ((a % (m:Int)).toNat,1)=y at *
 obtain ⟨l1,l2⟩:=C5 hi hy hm hn hd hd0 hc
 have hE:Rat.divInt (y.1:Int) y.2=Rat.divInt n d:=(Rat.divInt_eq_divInt_iff l2 X).2 l1.symm
 rw [if_neg l2,hE,if_pos]
 have g0:((Nat.gcd n.natAbs d.natAbs:Nat):Int)≠0:=ve X
 obtain ⟨p1,p2⟩:=r8 (n:=n) hd0
 have d1:((Nat.gcd n.natAbs d.natAbs:Nat):Int)∣n:=Int.gcd_dvd_left ..
 have d2:((Nat.gcd n.natAbs d.natAbs:Nat):Int)∣d:=Int.gcd_dvd_right ..
 have hgm:Nat.gcd (Nat.gcd n.natAbs d.natAbs) m=1:=Nat.eq_one_of_dvd_one (hg▸Nat.dvd_gcd (Nat.dvd_trans (Nat.gcd_dvd_left _ _) (Nat.gcd_dvd_right _ _)) (Nat.gcd_dvd_right _ _))
 have b1:=wZ (a:=n) (b:=d)
 have b2:=A1 (a:=n) (b:=d) X
 rw [uy]
 generalize Nat.gcd n.natAbs d.natAbs=g at *
 obtain ⟨n',hn'⟩:=d1
 obtain ⟨d',hd'⟩:=d2
 rw [Int.ediv_eq_of_eq_mul_right g0 hn'] at p1
 rw [Int.ediv_eq_of_eq_mul_right g0 hd'] at p2
 refine ⟨by omega,by omega,?_,?_⟩
 ·refine Nat.eq_one_of_dvd_one (hg▸Nat.dvd_gcd (Nat.dvd_trans (Nat.gcd_dvd_left _ _) ?_) (Nat.gcd_dvd_right _ _))
  have t:=congrArg Int.natAbs hd'
  rw [Int.natAbs_mul,p2,Int.natAbs_natCast,Int.natAbs_natCast] at t
  exact ⟨g,by rw [t]; exact Nat.mul_comm _ _⟩
 ·refine Int.emod_eq_zero_of_dvd ?_
  rw [← p1, ← p2]
  have e:n - a*d=(g:Int)*(n' - a*d'):=by
   conv=>lhs;rw [hn',hd']
   grind
  rw [e] at hc
  have t:=Int.natAbs_dvd_natAbs.2 hc
  rw [Int.natAbs_mul,Int.natAbs_natCast,Int.natAbs_natCast] at t
  have hcop:Nat.Coprime m g:=(Nat.gcd_comm m g).trans hgm
  exact Int.natAbs_dvd_natAbs.1 (by rw [Int.natAbs_natCast]; exact hcop.dvd_of_dvd_mul_left t)
end Tor
end
section
namespace Tor
theorem jZ {n:Nat} {g:Nat→Int} (h : ∀ i,i<n→0≤g i):0≤prZ n g:=by
 induction n with
 | zero => exact Int.zero_le_ofNat 1
 | succ n ih => exact Int.mul_nonneg (ih fun i hi => h i X) (h n (Nat.lt_succ_self n))
theorem mY {n:Nat} {f g:Nat→Int} (h : ∀ i,i<n→f i=g i):prZ n f=prZ n g:=by
 induction n with
 | zero => rfl
 | succ n ih => rw [prZ, prZ, ih fun i hi => h i X, h n (Nat.lt_succ_self n)]
theorem xf {t:Nat} {x:Int} {g:Nat→Int} : ∀ {m},t<m→prZ m (fun i=>if i=t then x else g i)*g t=prZ m g*x
 | m + 1, h => by
  by_cases e:t=m
  ·subst e
   rw [prZ,prZ,if_pos Y,mY (g:=g) fun i hi=>if_neg X,Int.mul_assoc,Int.mul_assoc,Int.mul_comm x]
  ·have ih:=xf (x:=x) (g:=g) (show t<m by omega)
   rw [prZ,prZ,if_neg (fun h=>e h.symm),Int.mul_assoc,Int.mul_comm (g m), ← Int.mul_assoc,ih,Int.mul_assoc,Int.mul_comm x, ← Int.mul_assoc]
theorem xg {n t:Nat} {g:Nat→Int} (ht:t≤n):dU (n+1) g n≤g t:=by
 have h1:g t∈lst (n+1) (dU (n+1) g):=(fx g (Nat.le_refl (n+1))).mem_iff.2 (List.mem_map.2 ⟨t,List.mem_range.2 X,rfl⟩)
 obtain ⟨a,ha,e⟩:=List.mem_map.1 h1
 have ha:=List.mem_range.1 ha
 rw [← e]
 by_cases h:a=n
 ·rw [h]; exact Int.le_refl _
 ·exact mS g (n+1) a n X (Nat.lt_succ_self n)
theorem l4 {n:Nat} {g:Nat→Int} (hg : ∀ i,0≤g i) {a:Nat} (ha:a<n):0≤dU n g a:=by
 have h1:dU n g a∈lst n g:=(fx g (Nat.le_refl n)).mem_iff.1 (List.mem_map.2 ⟨a,List.mem_range.2 ha,rfl⟩)
 obtain ⟨i,_,e⟩:=List.mem_map.1 h1
 rw [← e]; exact hg i
theorem p8 {A B x y:Int} (hA:0≤A) (hB:0≤B) (hx:0<x) (hy:y≤x) (h:A*x=B*y):A≤B:=by
 have h1:B*y≤B*x:=Int.mul_le_mul_of_nonneg_left hy hB
 rw [← h] at h1
 exact Int.le_of_mul_le_mul_right h1 hx
theorem yN {n t:Nat} {g:Nat→Int} (hg : ∀ i,0≤g i) (ht:t<n) (h0:0<g t):prZ n (fun i=>if i=t then g n else g i)≤prZ n (dU (n+1) g) :=
 p8 (jZ fun i _=>by split <;> exact hg _) (jZ fun i hi=>l4 hg X) h0 (xg (g:=g) (n:=n) (t:=t) X) (by
  rw [xf ht]
  exact (uc (n+1) g).symm)
theorem yP {n:Nat} {g:Nat→Int} (hg : ∀ i,0≤g i):prZ n g≤prZ n (dU (n+1) g):=by
 have h1:=xg (g:=g) (Nat.le_refl n)
 have h2:=l4 hg (n:=n+1) (Nat.lt_succ_self n)
 by_cases e:dU (n+1) g n=g n
 ·have hp:=fx g (Nat.le_refl (n+1))
  rw [f6,f6,e] at hp
  rw [oD,oD,ub ((List.perm_append_right_iff _).1 hp)]
  exact Int.le_refl _
 ·exact p8 (jZ fun i _=>hg i) (jZ fun i hi=>l4 hg X) X h1 (uc (n+1) g).symm
def lC (n:Nat) (F:Nat→Nat→Int) (b:Nat→Int):Nat:=if n=0 then 1 else upN (prN n (nF (n+1) n (dC n F (fun _=>b))))
theorem Bq {n:Nat} {F:Nat→Nat→Int} {b:Nat→Int} : ((prN n (nF (n+1) n (dC n F (fun _=>b))):Nat):Int)=prZ n (dU (n+1) (fun i=>(fk n (dC n F (fun _=>b) i):Int))):=by
 rw [mT]
 exact mY fun i hi=>rc X
theorem vT {n i:Nat} {F:Nat→Nat→Int} {b:Nat→Int} (hi:i<n):dC n F (fun _=>b) i=F i:=funext fun k=>if_pos hi
theorem Fh {n:Nat} {F:Nat→Nat→Int} {b:Nat→Int} : dC n F (fun _=>b) n=b:=funext fun k=>if_neg (Nat.lt_irrefl n)
theorem xh {n:Nat} {F:Nat→Nat→Int} {b:Nat→Int} : (Lin.bK n F).natAbs≤lC n F b:=by
 unfold lC
 by_cases h0:n=0
 ·subst h0;rw [if_pos Y]; exact Nat.le_refl 1
 ·rw [if_neg h0]
  refine Bn (Int.ofNat_le.1 ?_)
  rw [Bq,Int.natCast_mul,Int.natAbs_mul_self']
  refine Int.le_trans (oF n F) ?_
  rw [mT,mY (g:=fun i=>(fk n (dC n F (fun _=>b) i):Int)) fun i hi=>by rw [vT hi]]
  exact yP fun i=>Int.natCast_nonneg _
theorem C6 {n j:Nat} {F:Nat→Nat→Int} (hd:Lin.bK n F≠0) (hj:j<n):0<fk n (F j):=by
 rcases Nat.eq_zero_or_pos (fk n (F j)) with h | h
 ·exfalso
  have h1:=oF n F
  have h2 : ∀ m,j<m→prN m (fun i=>fk n (F i))=0:=fun m hm=>by
   induction m with
   | zero => omega
   | succ m ih =>
    rw [prN]
    by_cases e:j=m
    ·rw [← e,h,Nat.mul_zero]
    ·rw [ih X,Nat.zero_mul]
  rw [h2 n hj] at h1
  have h3:Lin.bK n F*Lin.bK n F=0:=Int.le_antisymm h1 (lY _)
  rcases Int.mul_eq_zero.1 h3 with h | h <;> exact hd h
 ·exact h
theorem xi {n j:Nat} {F:Nat→Nat→Int} {b:Nat→Int} (hd:Lin.bK n F≠0) (hj:j<n):(Lin.bK n (l0 F j b)).natAbs≤lC n F b:=by
 unfold lC
 rw [if_neg X]
 refine Bn (Int.ofNat_le.1 ?_)
 rw [Bq,Int.natCast_mul,Int.natAbs_mul_self']
 refine Int.le_trans (oF n _) ?_
 have hlen : ∀ i,i<n→((fk n (l0 F j b i):Nat):Int)=(fun i=>if i=j then (fun i=>(fk n (dC n F (fun _=>b) i):Int)) n else (fun i=>(fk n (dC n F (fun _=>b) i):Int)) i) i:=fun i hi=>by
  dsimp only
  by_cases e:i=j
  ·rw [if_pos e,Fh]; unfold l0 fk;rw [e]; simp
  ·rw [if_neg e,vT hi]; unfold l0 fk;simp [e]
 rw [mT,mY hlen]
 exact yN (g:=fun i=>(fk n (dC n F (fun _=>b) i):Int)) (fun i=>Int.natCast_nonneg _) hj (by rw [vT hj]; exact Int.natCast_pos.2 (C6 hd hj))
theorem xj {n:Nat} {F:Nat→Nat→Int} {b:Nat→Int} (hn:n≤4) (hF : ∀ i j,(F i j).natAbs≤34359738368) (hb : ∀ i,(b i).natAbs≤1152921504606846976):lC n F b≤2^380:=by
 unfold lC
 split
 ·decide +kernel
 ·have h1:prN n (nF (n+1) n (dC n F (fun _=>b)))≤(4*(1152921504606846976*1152921504606846976))^n:=so (n:=n+1) (fun i hi=>w5 (B:=4*(1152921504606846976*1152921504606846976)) (fun i hi=>Nat.le_trans (p6 (B:=1152921504606846976) fun k=>by
   unfold dC;split
   ·exact Nat.le_trans (hF _ _) U
   ·exact hb _) (Nat.mul_le_mul_right _ hn)) hi) n X
  have h2:(4*(1152921504606846976*1152921504606846976))^n≤(4*(1152921504606846976*1152921504606846976))^4:=Nat.pow_le_pow_right U hn
  generalize prN n (nF (n+1) n (dC n F (fun _=>b)))=a at *
  rcases Nat.eq_zero_or_pos (upN a) with h0 | h0
  ·rw [h0]; exact Nat.zero_le _
  ·have h3:=Eu h0
   rcases Nat.lt_or_ge (2^380) (upN a) with h4 | h4
   ·have h5:2^380≤upN a - 1:=Nat.le_sub_one_of_lt h4
    exact absurd (Nat.lt_of_le_of_lt (Nat.mul_le_mul h5 h5) (Nat.lt_of_lt_of_le h3 (Nat.le_trans h1 h2))) H
   ·exact h4
theorem uD (c d:Int):Rat.divInt (-c) (-d)=Rat.divInt c d:=by
 rw [Rat.divInt_eq_div,Rat.divInt_eq_div,Rat.intCast_neg,Rat.intCast_neg]
 grind
theorem Fi {p n k s:Nat} {F:Nat→Nat→Int} {b FB:Nat→Int} (hp:Lin.Pr p) (hd : ¬ (p:Int)∣Lin.bK n F) (hk:2*(lC n F b*lC n F b)<p^k) (hS : ∀ i,i<n→((p:Int)^k)∣b i - bD n (fun t=>FB t*F t i)) {j:Nat} (hj:j<n)
  (hs1:s*s≤(p^k - 1) / 2) (hs2:(p^k - 1) / 2<(s+1)*(s+1)):vM (FB j) (p^k) s=some (Rat.divInt (Lin.bK n (l0 F j b)) (Lin.bK n F)):=by
 have hd0:Lin.bK n F≠0:=fun e=>hd (e▸Int.dvd_zero _)
 obtain ⟨G,hG⟩:=l3 n F
 have h1:=uw hG hS hj
 rw [xd hG hd0 hj] at h1
 have hL:lC n F b≤s:=by
  rcases Nat.lt_or_ge s (lC n F b) with h | h
  ·have:(s+1)*(s+1)≤lC n F b*lC n F b:=Nat.mul_le_mul h h
   omega
  ·exact h
 have b1:=Nat.le_trans (xi (b:=b) hd0 hj) hL
 have b2:=Nat.le_trans (xh (F:=F) (b:=b)) hL
 have hm0:0<p^k:=by omega
 have hm:2*(s*s)<p^k:=by omega
 have hsm:s<p^k:=by
  rcases Nat.eq_zero_or_pos s with h | h
  ·omega
  ·have:=Nat.le_mul_of_pos_right s h
   omega
 have hg:Nat.gcd (Lin.bK n F).natAbs (p^k)=1:=by
  have h2 : ¬ p∣(Lin.bK n F).natAbs:=fun h=>hd (Int.ofNat_dvd_left.2 h)
  exact Nat.Coprime.symm ((hp.coprime h2).pow_left k)
 rw [← Int.natCast_pow] at h1
 generalize Lin.bK n F=d at *
 generalize Lin.bK n (l0 F j b)=c at *
 rcases Int.lt_or_gt_of_ne hd0 with h | h
 ·have:=xe (a:=FB j) (n := -c) (d := -d) (m:=p^k) (s:=s) hm hsm X X X (by rw [Int.natAbs_neg]; exact hg) (by
   obtain ⟨q,hq⟩:=h1
   exact ⟨-q,by rw [Int.mul_neg,Int.mul_neg, ← hq,Int.mul_comm (FB j)]; omega⟩)
  rw [this]
  congr 1
  exact uD c d
 ·exact xe hm hsm b1 b2 h hg (by rw [Int.mul_comm (FB j)]; exact h1)
end Tor
end
section
namespace Tor
/-! ### Trial division by one gcd -/
def p9:Nat→Nat→Nat
 | 0, d => d
 | k + 1, d => p9 k d * p9 k (d + 2 ^ k)
theorem nL : ∀ {k d e:Nat},d≤e→e<d+2^k→e∣p9 k d
 | 0, d, e, h1, h2 => by
  have:e=d:=by simp at h2;omega
  subst this;exact Nat.dvd_refl _
 | k + 1, d, e, h1, h2 => by
  rw [Nat.pow_succ] at h2
  rcases Nat.lt_or_ge e (d+2^k) with hl | hl
  ·exact Nat.dvd_trans (nL h1 hl) (Nat.dvd_mul_right _ _)
  ·exact Nat.dvd_trans (nL hl X) (Nat.dvd_mul_left _ _)
theorem nM {n:Nat} : ∀ {k d:Nat},(∀ e,d≤e→e<d+2^k→Nat.Coprime n e)→Nat.Coprime n (p9 k d)
 | 0, d, h => h d (Nat.le_refl _) (by simp)
 | k + 1, d, h => by
  refine Nat.Coprime.mul_right (nM fun e h1 h2=>h e h1 ?_) (nM fun e h1 h2=>h e ?_ ?_)
  ·rw [Nat.pow_succ]; omega
  ·have:=Nat.two_pow_pos k;omega
  ·rw [Nat.pow_succ]; omega
theorem yQ {n d:Nat} (hT:qU n) (h1:1≤d) (h2:d<n):Nat.Coprime n d:=by
 have hg:=Nat.gcd_dvd_left n d
 have hd:=Nat.gcd_dvd_right n d
 have hp:0<Nat.gcd n d:=Nat.gcd_pos_of_pos_right _ X
 have hle:Nat.gcd n d≤d:=Nat.le_of_dvd X hd
 show Nat.gcd n d=1
 generalize Nat.gcd n d=g at *
 rcases Nat.lt_or_ge g 2 with h | h
 ·omega
 ·exfalso
  obtain ⟨m,hm⟩:=hg
  by_cases hs:g*g≤n
  ·exact hT g h hs (by rw [hm]; exact Nat.mul_mod_right _ _)
  ·have hmg:m<g:=by
    rcases Nat.lt_or_ge m g with h' | h'
    ·exact h'
    ·have:=Nat.mul_le_mul_left g h';omega
   have hm2:2≤m:=by
    rcases Nat.lt_or_ge m 2 with h' | h'
    ·have:m=0∨m=1:=by omega
     rcases this with rfl | rfl
     ·simp at hm;omega
     ·simp at hm;omega
    ·exact h'
   refine hT m hm2 ?_ (by rw [hm,Nat.mul_comm]; exact Nat.mul_mod_right _ _)
   rw [hm]; exact Nat.mul_le_mul (Nat.le_of_lt hmg) (Nat.le_refl _)
theorem yR {n k:Nat} (h1:2+2^k≤n) (h2:n<(2+2^k)*(2+2^k)):Nat.gcd n (p9 k 2)=1↔qU n:=by
 constructor
 ·intro h d hd hs hz
  have hlt:d<2+2^k:=by
   rcases Nat.lt_or_ge d (2+2^k) with h' | h'
   ·exact h'
   ·have:=Nat.mul_le_mul h' h';omega
  have:=Nat.dvd_gcd (Nat.dvd_of_mod_eq_zero hz) (nL hd hlt)
  rw [h] at this
  have:=Nat.le_of_dvd U this
  omega
 ·intro hT
  exact nM fun e h3 h4=>yQ hT X X
/-! ### The prime test, for evaluation -/
noncomputable def yS (p:Nat) (f:Nat):Nat→Nat→Nat→Nat := @Nat.rec (fun _=>Nat→Nat→Nat→Nat) (fun r _ _=>r)
 (fun _ ih r a e => @Nat.rec (fun _=>Nat) r (fun e' _ => @Bool.rec (fun _=>Nat) (ih r (Nat.mod (Nat.mul a a) p) (Nat.div (Nat.succ e') 2)) (ih (Nat.mod (Nat.mul r a) p) (Nat.mod (Nat.mul a a) p) (Nat.div (Nat.succ e') 2)) (Nat.beq (Nat.mod (Nat.succ e') 2) 1)) e) f
theorem xk (p:Nat) : ∀ (f r a e:Nat),yS p f r a e=nt f p r a e
 | 0, _, _, _ => rfl
 | f + 1, r, a, 0 => rfl
 | f + 1, r, a, e + 1 => by
  rw [nt,if_neg X, ← xk p f]
  show @Bool.rec (fun _=>Nat) (yS p f r (a*a % p) ((e+1) / 2)) (yS p f (r*a % p) (a*a % p) ((e+1) / 2)) (Nat.beq ((e+1) % 2) 1)=_
  by_cases h:(e+1) % 2=1
  ·rw [if_pos h,h]; rfl
  ·have h0:(e+1) % 2=0:=by omega
   rw [if_neg h,h0]; rfl
noncomputable def EM (n:Nat) (c:Nat):Nat→Bool := @Nat.rec (fun _=>Nat→Bool) (fun _=>false)
 (fun _ ih x => @Bool.rec (fun _=>Bool) (ih (Nat.mod (Nat.mul x x) n)) true (Nat.beq (Nat.mod (Nat.mul x x) n) (Nat.sub n 1))) c
theorem mZ (a b:Nat):Nat.beq a b=decide (a=b):=by
 by_cases h:a=b
 ·rw [decide_eq_true h]; exact Nat.beq_eq.mpr h
 ·rw [decide_eq_false h, ← Bool.not_eq_true]; exact fun e=>h (Nat.eq_of_beq_eq_true e)
theorem xl (n:Nat) : ∀ (c x:Nat),EM n c x=sqrF n c x
 | 0, _ => rfl
 | c + 1, x => by
  rw [sqrF, ← xl n c]
  show @Bool.rec (fun _=>Bool) (EM n c (x*x % n)) true (Nat.beq (x*x % n) (n - 1))=_
  rw [mZ]
  by_cases h:x*x % n=n - 1
  ·rw [if_pos h,decide_eq_true h]
  ·rw [if_neg h,decide_eq_false h]
noncomputable def ll (n O T b:Nat):Bool := @Bool.rec (fun _=>Bool) (@Bool.rec (fun _=>Bool) (EM n (Nat.sub T 1) (yS n 64 (Nat.mod 1 n) b O)) true (Nat.beq (yS n 64 (Nat.mod 1 n) b O) (Nat.sub n 1))) true (Nat.beq (yS n 64 (Nat.mod 1 n) b O) 1)
theorem vU (n O T b:Nat):ll n O T b=ec n O T b:=by
 unfold ll ec
 rw [xk,xl,mZ,mZ]
 show @Bool.rec (fun _=>Bool) (@Bool.rec (fun _=>Bool) (sqrF n (T - 1) (nt 64 n (1 % n) b O)) true (decide (nt 64 n (1 % n) b O=n - 1))) true (decide (nt 64 n (1 % n) b O=1))=_
 cases decide (nt 64 n (1 % n) b O=1) <;> cases decide (nt 64 n (1 % n) b O=n - 1) <;> rfl
noncomputable def EN (n O T:Nat):Bool := @Bool.rec (fun _=>Bool) false (@Bool.rec (fun _=>Bool) false (@Bool.rec (fun _=>Bool) false (ll n O T 7) (ll n O T 5)) (ll n O T 3)) (ll n O T 2)
theorem C7 {n O T:Nat} (h7:7<n):EN n O T=qQ n O T 4 0:=by
 have hb : ∀ j,n≠ev j:=fun j h=>by have:=(pC j).1;omega
 unfold EN
 simp only [qQ,if_neg (hb _),vU]
 show @Bool.rec (fun _=>Bool) false (@Bool.rec (fun _=>Bool) false (@Bool.rec (fun _=>Bool) false (ec n O T 7) (ec n O T 5)) (ec n O T 3)) (ec n O T 2)=(ec n O T 2 && (ec n O T 3 && (ec n O T 5 && (ec n O T 7 && true))))
 cases ec n O T 2 <;> cases ec n O T 3 <;> cases ec n O T 5 <;> cases ec n O T 7 <;> rfl
noncomputable def vV (k:Nat→Nat→Bool) (f:Nat):Nat→Nat→Bool := @Nat.rec (fun _=>Nat→Nat→Bool) (fun o t=>k o t)
 (fun _ ih o t => @Bool.rec (fun _=>Bool) (k o t) (ih (Nat.div o 2) (Nat.succ t)) (Nat.beq (Nat.mod o 2) 0)) f
theorem ri (k:Nat→Nat→Bool) : ∀ (f o t:Nat),vV k f o t=k (dW f o t).1 (dW f o t).2
 | 0, _, _ => rfl
 | f + 1, o, t => by
  rw [dW]
  show @Bool.rec (fun _=>Bool) (k o t) (vV k f (o / 2) (t+1)) (Nat.beq (o % 2) 0)=_
  rw [mZ]
  by_cases h:o % 2=0
  ·rw [if_pos h,decide_eq_true h]; exact ri k f _ _
  ·rw [if_neg h,decide_eq_false h]
noncomputable def l5 (n:Nat):Bool:=vV (EN n) 32 (Nat.sub n 1) 0
theorem yT {n:Nat} (h7:7<n) (h31:n<2147483648) (ho:n % 2=1):l5 n=cJ n:=by
 rw [kE h7]
 unfold l5 r7
 rw [if_neg X,if_neg X,ri]
 exact C7 h7
/-! ### Runs of numbers -/
noncomputable def Br (f:Nat→Bool) (k:Nat):Nat→Bool := @Nat.rec (fun _=>Nat→Bool) f (fun k ih d => @Bool.rec (fun _=>Bool) false (ih (Nat.add d (Nat.pow 2 k))) (ih d)) k
theorem sC {f:Nat→Bool} : ∀ {k d:Nat},Br f k d=true → ∀ e,d≤e→e<d+2^k→f e=true
 | 0, d, h, e, h1, h2 => by
  have:e=d:=by simp at h2;omega
  subst this;exact h
 | k + 1, d, h, e, h1, h2 => by
  have h : @Bool.rec (fun _=>Bool) false (Br f k (d+2^k)) (Br f k d)=true:=h
  rw [Nat.pow_succ] at h2
  cases ha:Br f k d with
  | false => rw [ha] at h; cases h
  | true =>
   rw [ha] at h
   rcases Nat.lt_or_ge e (d+2^k) with hl | hl
   ·exact sC ha e h1 hl
   ·exact sC h e hl X
noncomputable def EO (k n:Nat):Bool := @Bool.rec (fun _=>Bool) true (@Bool.rec (fun _=>Bool) (@Bool.rec (fun _=>Bool) true false (l5 n)) (l5 n) (Nat.beq (Nat.gcd n (p9 k 2)) 1)) (Nat.beq (Nat.mod n 2) 1)
theorem C8 {n k:Nat} (h1:2+2^k≤n) (h2:n<(2+2^k)*(2+2^k)) (h7:7<n) (h31:n<2147483648) (h:EO k n=true):cJ n=ep n:=by
 have hT:=yR h1 h2
 by_cases ho:n % 2=1
 ·rw [← yT h7 h31 ho]
  unfold EO at h
  rw [show Nat.beq (Nat.mod n 2) 1=true from Nat.beq_eq.mpr ho,mZ] at h
  by_cases hg:Nat.gcd n (p9 k 2)=1
  ·rw [decide_eq_true hg] at h
   have h:l5 n=true:=h
   rw [h,vj.2 ⟨by omega,h31,hT.1 hg⟩]
  ·rw [decide_eq_false hg] at h
   have hf:l5 n=false:=by
    cases hq:l5 n with
    | false => rfl
    | true => rw [hq] at h; cases h
   rw [hf]
   exact (Bool.eq_false_iff.2 fun e=>hg (hT.2 (vj.1 e).2.2)).symm
 ·have hp:cJ n=false:=by
   unfold cJ
   rw [if_neg X,if_pos X,decide_eq_false X]
  rw [hp]
  exact (Bool.eq_false_iff.2 fun e=>(vj.1 e).2.2 2 (Nat.le_refl _) X X).symm
theorem C9:Br (EO 16) 12 2147479552=true:=by decide +kernel
theorem lm {n:Nat} (h:2147479552≤n) (h':n<2147483648):cJ n=ep n :=
 C8 (k:=16) (by show 65538≤n;omega) (by show n<65538*65538;omega) X h' (sC C9 n h (by show n<2147479552+4096;omega))
end Tor
end
section
namespace Tor
open Go Go.RowKit Go.Proofs
theorem Lin.Pr.invP {p:Nat} (hp:Lin.Pr p):vA p:=fun x hx h0=>by
 have h1 : ¬ p∣x:=fun h=>absurd (Nat.le_of_dvd (Nat.pos_of_ne_zero h0) h) X
 have h2:=hp.inverse h1
 rw [Nat.mod_mul_mod,Nat.mul_comm]; exact h2
theorem uE:((List.range 17).all fun i => !r7 (2147483630+i))=true:=by decide +kernel
theorem Bs:bf cJ 2147483648=2147483647:=by
 show iM cJ (2147483647+1)=_
 rw [iM,if_pos gr]
theorem Bt : ∀ k,k≤17→iM cJ (2147483630+k)=2147483629
 | 0, _ => by
  show iM cJ (2147483629+1)=_
  rw [iM,if_pos gu]
 | k + 1, h => by
  have h1:=List.all_eq_true.1 uE k (List.mem_range.2 X)
  rw [← Nat.add_assoc,iM,kE X,if_neg (by simpa using h1)]
  exact Bt k X
theorem EP:bf cJ 2147483647=2147483629:=Bt 17 U
theorem Fj {p:Nat} (h:2147479552≤p) (h':p<2147483648) (hb:cJ p=true):Lin.Pr p:=by
 rw [lm h h'] at hb
 exact Lin.Pr.of_trial X (vj.1 hb).2.2
def eS (d:Int):Nat:=if d % 2147483647=0 then 2147483629 else 2147483647
def lD (d:Int):Prop:=d % 2147483647=0→d % 2147483629≠0
theorem qa (d:Int):eS d=2147483629∨eS d=2147483647:=by
 unfold eS;split
 ·exact .inl Y
 ·exact .inr Y
theorem vW (d:Int):cJ (eS d)=true:=by
 rcases qa d with h | h <;> rw [h]
 ·exact gu
 ·exact gr
theorem m0 (d:Int):2147483629≤eS d∧eS d<2147483648:=by
 rcases qa d with h | h <;> rw [h] <;> decide
theorem jd (d:Int):Lin.Pr (eS d):=Fj (by have:=m0 d;omega) (m0 d).2 (vW d)
theorem jC {d:Int} (h:lD d) : ¬ ((eS d:Nat):Int)∣d:=by
 unfold eS
 split
 ·rename_i h1;exact fun h2=>h h1 (Int.emod_eq_zero_of_dvd h2)
 ·rename_i h1;exact fun h2=>h1 (Int.emod_eq_zero_of_dvd h2)
theorem xm (d:Int) (hs:bE d) (h:lD d):Ok Tryz.prog 56 [aO d] (one (.int .u64 (eS d:Nat))):=by
 unfold eS
 split
 ·rename_i h1
  exact yw d 2147483647 2147483629 hs Bs EP U U U h1 (h h1)
 ·rename_i h1
  exact ys d 2147483647 hs Bs U U h1
def m4 (n:Nat) (F:Nat→Nat→Int) (b:Nat→Int) (j:Nat):Rat:=Rat.divInt (Lin.bK n (l0 F j b)) (Lin.bK n F)
theorem jD {n:Nat} (hn:n≤4):t7 2 n:=⟨by decide,Nat.le_trans (Nat.mul_le_mul_left 3 (Nat.pow_le_pow_right (n:=2) U hn)) U⟩
theorem nN {x:Int} (h:x.natAbs≤34359738368):lz 2 x:=cw (k:=2) X
theorem rj {n:Nat} {F:Nat→Nat→Int} (hn:n≤4) (hF : ∀ i j,(F i j).natAbs≤34359738368):bE (Lin.bK n F):=Nat.le_trans (Ep (jD hn) fun i j=>nN (hF i j)) U
theorem vX (n:Nat) (F:Nat→Nat→Int) (b:Nat→Int) (hn:n≤4) (hF : ∀ i j,(F i j).natAbs≤34359738368) (hb : ∀ i,(b i).natAbs≤1152921504606846976) :
  Ok Tryz.prog 53 [bO (n+1) n (dC n F (fun _=>b)),one (.int .i64 (n:Nat))] (aO (lC n F b:Nat)):=by
 unfold lC
 split
 ·rename_i h;subst h;exact yC 1 0 _ 0 U
 ·have hB : ∀ i k,(dC n F (fun _=>b) i k).natAbs≤1152921504606846976:=fun i k=>by
   unfold dC;split
   ·exact Nat.le_trans (hF _ _) U
   ·exact hb _
  refine A4 (n+1) n _ n (4*(1152921504606846976*1152921504606846976)) X X X X (fun i j=>Nat.le_trans (hB i j) H) U ?_ (fun i _=>Nat.le_trans (p6 (B:=1152921504606846976) (hB i)) (Nat.mul_le_mul_right _ hn))
  exact Nat.lt_of_le_of_lt (Nat.pow_le_pow_right (n:=4*(1152921504606846976*1152921504606846976)) (j:=5) U X) H
theorem je (n:Nat) (F:Nat→Nat→Int) (b:Nat→Int) (hn:n≤4) (hF : ∀ i j,(F i j).natAbs≤34359738368) (hb : ∀ i,(b i).natAbs≤1152921504606846976) (hd:Lin.bK n F≠0) (hg:lD (Lin.bK n F)) :
  Ok Tryz.prog 13 [bO n n F,bw n b] (bj [vO n (m4 n F b),one (.int .i64 0)]):=by
 obtain ⟨G,hG⟩:=l3 n F
 have hp:=m0 (Lin.bK n F)
 exact vQ (eS (Lin.bK n F)) n F b (Lin.bK n F) (lC n F b) (m4 n F b) (vW _) X hp.2 (jd _).invP (Bp (jd _) hG (jC hg)) X
  (fun i j=>Nat.le_trans (hF i j) U) (fun i=>Nat.le_trans (hb i) U) (si n F 2 X (jD hn) (fun i j=>nN (hF i j))) hd (xm _ (rj hn hF) hg) (vX n F b hn hF hb) (xj hn hF hb)
  (fun k FB hk hS j hj s hs1 hs2=>Fi (jd _) (jC hg) hk hS hj hs1 hs2)
theorem n9 (n:Nat) (F:Nat→Nat→Int) (b:Nat→Int) (hn:n≤4) (hF : ∀ i j,(F i j).natAbs≤34359738368) (hd:Lin.bK n F=0) :
  Ok Tryz.prog 13 [bO n n F,bw n b] (bj [vO 0 (fun _=>0),one (.int .i64 110)]):=by
 have h:=si n F 2 X (jD hn) (fun i j=>nN (hF i j))
 rw [hd] at h
 exact yG n F b h
theorem j5 (n k:Nat) (F:Nat→Nat→Int) (b:Nat→Int) (hn:n≤4) (hF : ∀ i j,(F i j).natAbs≤34359738368) (hb : ∀ i,(b i).natAbs≤1152921504606846976) (hd:Lin.bK n F≠0) (hg:lD (Lin.bK n F)) (hk:k≤64) :
  Ok Tryz.prog 15 [bO n n F,bw n b,one (.int .i64 (k:Nat))] (exT fun pre:List (Nat→Int)=>cn (gQ (eS (Lin.bK n F)) n F b pre∧pre.length=k) (bj [kf n pre,one (.int .u64 (eS (Lin.bK n F):Nat)),one (.int .i64 0)])):=by
 obtain ⟨G,hG⟩:=l3 n F
 have hp:=m0 (Lin.bK n F)
 exact yz (eS (Lin.bK n F)) n k F b (Lin.bK n F) (vW _) X hp.2 (jd _).invP (Bp (jd _) hG (jC hg)) X
  (fun i j=>Nat.le_trans (hF i j) U) (fun i=>Nat.le_trans (hb i) U) (si n F 2 X (jD hn) (fun i j=>nN (hF i j))) hd (xm _ (rj hn hF) hg) hk
theorem sD (n:Nat) (F:Nat→Nat→Int) (b:Nat→Int) (k:Int) (hn:n≤4) (hF : ∀ i j,(F i j).natAbs≤34359738368) (hd:Lin.bK n F=0) (h1:0≤k) (h2:k≤64) :
  Ok Tryz.prog 15 [bO n n F,bw n b,one (.int .i64 k)] (bj [kf 0 [],one (.int .u64 0),one (.int .i64 110)]):=by
 have h:=si n F 2 X (jD hn) (fun i j=>nN (hF i j))
 rw [hd] at h
 exact vL n F b k h1 h2 h
end Tor
end
section
namespace Tor.Lin
theorem Bu {n m:Nat} {f:Nat→Rat} (h:m≤n) (h0 : ∀ j,m≤j→j<n→f j=0):sm n f=sm m f:=by
  induction n with
  | zero => have : m = 0 := by omega
            rw [this]
  | succ n ih =>
    by_cases e:m=n+1
    · rw [e]
    · rw [sm,ih X (fun j h1 h2=>h0 j h1 X),h0 n X X,Rat.add_zero]
theorem rk {l:List Nat} (h:l.Pairwise (· < ·)) {i j:Nat} (hi:i<l.length) (hj:j<l.length) (e:l.getD i 0=l.getD j 0):i=j:=by
 rcases Nat.lt_trichotomy i j with h1 | h1 | h1
 ·have:=pO h h1 hj;omega
 ·exact h1
 ·have:=pO h h1 hi;omega
end Tor.Lin
end
section
namespace Tor
open Go Go.RowKit Go.Proofs
theorem j6 {α:Type} [Inhabited α] {n:Nat} {P:Nat→α→Prop} (h : ∀ t,t<n → ∃ z,P t z) : ∃ Fy:Nat→α, ∀ t,t<n→P t (Fy t):=by
 refine ⟨fun t=>if h':t<n then Classical.choose (h t h') else default,fun t ht => ?_⟩
 have:=Classical.choose_spec (h t ht)
 dsimp only
 rw [dif_pos ht]; exact this
def Ech (B:Nat→Nat→Rat) (n k:Nat):Prop:=(∀ i,i<k→bp (B i) n<n) ∧ ∀ i j,i<j→j<k→B j (bp (B i) n)=0
theorem qb {B:Nat→Nat→Rat} {n k:Nat} (h:Ech B n k) (a:Nat→Rat) : ∀ i,i≤k → ∀ t,t<i→dA B n a i (bp (B t) n)=0
 | 0, _, t, ht => absurd ht (Nat.not_lt_zero _)
 | i + 1, hi, t, ht => by
  show dA B n a i (bp (B t) n) - dA B n a i (bp (B i) n) / B i (bp (B i) n)*B i (bp (B t) n)=0
  by_cases e:t=i
  ·subst e
   have h0:=(fF (h.1 t X)).1
   grind
  ·rw [qb h a i X t X,h.2 t i X X]; grind
theorem m5 (B:Nat→Nat→Rat) (n:Nat) (a:Nat→Rat) : ∀ i j,dA B n a i j=a j - Lin.sm i (fun t=>dA B n a t (bp (B t) n) / B t (bp (B t) n)*B t j)
 | 0, j => by show a j = a j - 0; grind
 | i + 1, j => by
  show dA B n a i j - dA B n a i (bp (B i) n) / B i (bp (B i) n)*B i j=a j - (Lin.sm i _+_)
  rw [m5 B n a i j]; grind
theorem Bv {B:Nat→Nat→Rat} {n k:Nat} (h:Ech B n k) {g:Nat→Rat} (h0 : ∀ t,t<k→Lin.sm k (fun s=>g s*B s (bp (B t) n))=0) : ∀ t,t<k→g t=0:=by
 intro t
 induction t using Nat.strongRecOn with
 | _ t ih =>
  intro ht
  have z:=h0 t ht
  rw [Lin.gm ht (fun i hi hne=>by
   rcases Nat.lt_or_ge i t with h1 | h1
   ·rw [ih i h1 hi]; exact Rat.zero_mul _
   ·rw [h.2 t i X hi]; exact Rat.mul_zero _)] at z
  have hb:=(fF (h.1 t ht)).1
  rcases Rat.mul_eq_zero.1 z with h1 | h1
  ·exact h1
  ·exact absurd h1 hb
theorem uF {l:List (Nat→Rat)} {n:Nat} {R:Nat→Rat} (h:Ech (ct l) n l.length) (h1:bp R n<n) (h2 : ∀ t,t<l.length→R (bp (ct l t) n)=0):Ech (ct (l ++ [R])) n (l ++ [R]).length:=by
 have hl:(l ++ [R]).length=l.length+1:=by simp
 rw [hl]
 refine ⟨fun i hi => ?_,fun i j hij hj => ?_⟩
 ·by_cases e:i<l.length
  ·rw [g9 e]; exact h.1 i e
  ·rw [show i=l.length by omega,gK]; exact h1
 ·rw [g9 (show i<l.length by omega)]
  by_cases e:j<l.length
  ·rw [g9 e]; exact h.2 i j hij e
  ·rw [show j=l.length by omega,gK]; exact h2 i X
structure NewJ (r c:Nat) (F:Nat→Nat→Int) (i:Nat) (s:List Nat × List (Nat→Rat)):Prop where
 ech:Ech (ct s.2) c s.2.length
 sp : ∀ i',i'<i → ∃ y:Nat→Rat, ∀ j,(F i' j:Rat) - Lin.sm s.2.length (fun t=>y t*ct s.2 t j)=0∨c≤j
 cb : ∀ t,t<s.2.length → ∃ z:Nat→Rat,(∀ q,i≤q→z q=0) ∧ ∀ j,ct s.2 t j=Lin.sm r (fun q=>z q*(F q j:Rat))
 nw:s.1=Lin.jn c r (fun i j=>F j i) i
theorem m6 {l:List (Nat→Rat)} {R:Nat→Rat} {y:Nat→Rat} {j:Nat} : Lin.sm (l ++ [R]).length (fun t=>y t*ct (l ++ [R]) t j)=Lin.sm l.length (fun t=>y t*ct l t j)+y l.length*R j:=by
 rw [show (l ++ [R]).length=l.length+1 by simp,Lin.sm,gK]
 congr 1
 exact Lin.aU fun t ht=>by rw [g9 ht]
theorem Bw {r c:Nat} {F:Nat→Nat→Int} : ∀ i,i≤r→NewJ r c F i (f8 c F i)
 | 0, _ => ⟨⟨fun i h => absurd h (Nat.not_lt_zero _), fun i j _ h => absurd h (Nat.not_lt_zero _)⟩, fun i h => absurd h (Nat.not_lt_zero _), fun t h => absurd h (Nat.not_lt_zero _), rfl⟩
 | i + 1, hi => by
  have ih:=Bw (r:=r) (c:=c) (F:=F) i X
  show NewJ r c F (i+1) (if _ then _ else f8 c F i)
  have hz:=qb ih.ech (fun j=>(F i j:Rat)) _ (Nat.le_refl _)
  obtain ⟨co,hsp⟩ : ∃ co:Nat→Rat, ∀ j,dA (ct (f8 c F i).2) c (fun j=>(F i j:Rat)) (f8 c F i).2.length j=(F i j:Rat) - Lin.sm (f8 c F i).2.length (fun t=>co t*ct (f8 c F i).2 t j):=⟨_,fun j=>m5 (ct (f8 c F i).2) c (fun j=>(F i j:Rat)) (f8 c F i).2.length j⟩
  generalize hR:dA (ct (f8 c F i).2) c (fun j=>(F i j:Rat)) (f8 c F i).2.length=R at *
  clear hR
  generalize f8 c F i=FB at *
  -- a row of the basis and the row i as combinations of the rows
  have hcR : ∃ z:Nat→Rat,z i=1∧(∀ q,i<q→z q=0) ∧ ∀ j,R j=Lin.sm r (fun q=>z q*(F q j:Rat)):=by
   have hch:=j6 ih.cb
   obtain ⟨Fy,hZ⟩:=hch
   refine ⟨fun q=>(if q=i then 1 else 0) - Lin.sm FB.2.length (fun t=>co t*Fy t q),?_,fun q hq => ?_,fun j => ?_⟩
   ·show (if i=i then (1:Rat) else 0) - _=1
    rw [if_pos Y,Lin.eZ (fun t ht=>by rw [(hZ t ht).1 i (Nat.le_refl _)]; exact Rat.mul_zero _)]; grind
   ·show (if q=i then (1:Rat) else 0) - _=0
    rw [if_neg X,Lin.eZ (fun t ht=>by rw [(hZ t ht).1 q X]; exact Rat.mul_zero _)]; grind
   ·rw [hsp j]
    rw [Lin.aU (f:=fun q=>((if q=i then 1 else 0) - Lin.sm FB.2.length (fun t=>co t*Fy t q))*(F q j:Rat)) (g:=fun q=>(if q=i then (F q j:Rat) else 0) - Lin.sm FB.2.length (fun t=>co t*(Fy t q*(F q j:Rat)))) (fun q _=>by
     have e:Lin.sm FB.2.length (fun t=>co t*(Fy t q*(F q j:Rat)))=Lin.sm FB.2.length (fun t=>co t*Fy t q)*(F q j:Rat):=by
      rw [← Lin.dR]; exact Lin.aU fun t _=>by grind
     rw [e]; split <;> grind),Lin.lQ,Lin.jL X,Lin.gV]
    congr 1
    exact Lin.aU fun t ht=>by
     rw [(hZ t ht).2 j,Rat.mul_comm, ← Lin.dR]
     exact Lin.aU fun q _=>by grind
  by_cases hf:bp R c<c
  ·rw [if_pos hf]
   refine ⟨uF ih.ech hf hz,fun i' hi' => ?_,fun t ht => ?_,?_⟩
   ·by_cases e:i'=i
    ·subst e
     refine ⟨fun t=>if t<FB.2.length then co t else 1,fun j => .inl ?_⟩
     show _ - Lin.sm (FB.2 ++ [R]).length (fun t=>(if t<FB.2.length then co t else 1)*ct (FB.2 ++ [R]) t j)=0
     rw [m6 (y:=fun t=>if t<FB.2.length then co t else 1),if_neg (Nat.lt_irrefl _),hsp j,Lin.aU (g:=fun t=>co t*ct FB.2 t j) (fun t ht=>by rw [if_pos ht])]
     grind
    ·obtain ⟨y,hy⟩:=ih.sp i' X
     refine ⟨fun t=>if t<FB.2.length then y t else 0,fun j=>(hy j).imp (fun h => ?_) id⟩
     show _ - Lin.sm (FB.2 ++ [R]).length (fun t=>(if t<FB.2.length then y t else 0)*ct (FB.2 ++ [R]) t j)=0
     rw [m6 (y:=fun t=>if t<FB.2.length then y t else 0),if_neg (Nat.lt_irrefl _),Lin.aU (g:=fun t=>y t*ct FB.2 t j) (fun t ht=>by rw [if_pos ht])]
     grind
   ·have hl:(FB.2 ++ [R]).length=FB.2.length+1:=by simp
    have ht:t<(FB.2 ++ [R]).length:=ht
    show ∃ z:Nat→Rat,(∀ q,i+1≤q→z q=0) ∧ ∀ j,ct (FB.2 ++ [R]) t j=Lin.sm r (fun q=>z q*(F q j:Rat))
    by_cases e:t<FB.2.length
    ·obtain ⟨z,z1,z2⟩:=ih.cb t e
     exact ⟨z,fun q hq=>z1 q X,fun j=>by rw [g9 e]; exact z2 j⟩
    ·obtain ⟨z,_,z1,z2⟩:=hcR
     exact ⟨z,fun q hq=>z1 q X,fun j=>by rw [show t=FB.2.length by omega,gK]; exact z2 j⟩
   ·show FB.1 ++ [i]=_
    rw [Lin.lG, ← ih.nw]
    rintro ⟨y,y1,y2,y3⟩
    have hch:=j6 ih.sp
    obtain ⟨Fw,hY⟩:=hch
    -- the row i is a combination of the basis
    have e1 : ∀ j,j<c→R j=Lin.sm FB.2.length (fun t=>(- Lin.sm i (fun q=>y q*Fw q t) - co t)*ct FB.2 t j):=fun j hj=>by
     have z:=y3 j hj
     rw [Lin.Bu (show i+1≤r by omega) (fun q h1 _=>by rw [y2 q X]; exact Rat.zero_mul _),Lin.sm,y1] at z
     rw [Lin.aU (g:=fun t=>(-1:Rat)*(Lin.sm i (fun q=>y q*Fw q t)*ct FB.2 t j)+(-1:Rat)*(co t*ct FB.2 t j)) (fun t _=>by grind),Lin.lP,hsp j]
     have e2:Lin.sm FB.2.length (fun t=>Lin.sm i (fun q=>y q*Fw q t)*ct FB.2 t j)=Lin.sm i (fun q=>y q*(F q j:Rat)):=by
      rw [Lin.aU (g:=fun t=>Lin.sm i (fun q=>y q*Fw q t*ct FB.2 t j)) (fun t _=>by rw [Lin.dR]),Lin.gV]
      refine Lin.aU fun q hq => ?_
      rcases hY q hq j with h | h
      ·have h:(F q j:Rat)=Lin.sm FB.2.length (fun t=>Fw q t*ct FB.2 t j):=by grind
       rw [h,Rat.mul_comm, ← Lin.dR]
       exact Lin.aU fun t _=>by grind
      ·omega
     rw [e2]
     have z:Lin.sm i (fun j_1=>y j_1*(F j_1 j:Rat))+1*(F i j:Rat)=0:=z
     grind
    have g0:=Bv ih.ech (g:=fun t => - Lin.sm i (fun q=>y q*Fw q t) - co t) (fun t ht=>by
     have hlt:=ih.ech.1 t ht
     rw [← e1 _ hlt]; exact hz t ht)
    have:R (bp R c)=0:=by
     rw [e1 _ hf]
     exact Lin.eZ fun t ht=>by rw [g0 t ht]; exact Rat.zero_mul _
    exact (fF hf).1 this
  ·rw [if_neg hf]
   have hR0 : ∀ j,j<c→R j=0:=by
    rcases g8 R c with ⟨_,h⟩ | ⟨h,_⟩
    ·exact h
    ·exact absurd h hf
   refine ⟨ih.ech,fun i' hi' => ?_,fun t ht => ?_,?_⟩
   ·by_cases e:i'=i
    ·subst e
     refine ⟨co,fun j => ?_⟩
     by_cases hj:j<c
     ·exact .inl (by rw [← hsp j]; exact hR0 j hj)
     ·exact .inr X
    ·exact ih.sp i' X
   ·obtain ⟨z,z1,z2⟩:=ih.cb t ht
    exact ⟨z,fun q hq=>z1 q X,z2⟩
   ·rw [Lin.lH, ← ih.nw]
    obtain ⟨z,z0,z1,z2⟩:=hcR
    exact Classical.not_not.2 ⟨z,z0,z1,fun j hj=>by
     have:=z2 j
     rw [hR0 j hj] at this
     exact this.symm⟩
theorem yU {r c i:Nat} {F:Nat→Nat→Int} (h:i≤r):(f8 c F i).1=Lin.jn c r (fun i j=>F j i) i:=(Bw i h).nw
end Tor
end
section
namespace Tor
open Go Go.RowKit Go.Proofs
def cm (n:Nat) (L:Nat→Nat→Rat):Nat→List (Nat→Rat)
 | 0 => []
 | j + 1 => if bp (dA (ct (cm n L j)) n (L j) (cm n L j).length) n < n then cm n L j ++ [dA (ct (cm n L j)) n (L j) (cm n L j).length] else cm n L j
def jf (n:Nat) (L:Nat→Nat→Rat) (j:Nat):Prop:=bp (dA (ct (cm n L j)) n (L j) (cm n L j).length) n<n∨dA (ct (cm n L j)) n (L j) (cm n L j).length n=0
structure BasI (n:Nat) (L:Nat→Nat→Rat) (j:Nat) (B:List (Nat→Rat)):Prop where
 le:B.length≤j
 ech:Ech (ct B) n B.length
 cb : ∀ t,t<B.length → ∃ z:Nat→Rat, ∀ p,ct B t p=Lin.sm j (fun q=>z q*L q p)
 sp:(∀ q,q<j→jf n L q) → ∀ q,q<j → ∃ y:Nat→Rat, ∀ p,p≤n→L q p=Lin.sm B.length (fun t=>y t*ct B t p)
theorem uG {n j:Nat} {L:Nat→Nat→Rat} {B:List (Nat→Rat)} (h : ∀ t,t<B.length → ∃ z:Nat→Rat, ∀ p,ct B t p=Lin.sm j (fun q=>z q*L q p)) : ∃ z:Nat→Rat,z j=1 ∧ ∀ p,dA (ct B) n (L j) B.length p=Lin.sm (j+1) (fun q=>z q*L q p):=by
 obtain ⟨Fy,hZ⟩:=j6 h
 obtain ⟨co,hco⟩ : ∃ co:Nat→Rat, ∀ p,dA (ct B) n (L j) B.length p=L j p - Lin.sm B.length (fun t=>co t*ct B t p):=⟨_,fun p=>m5 (ct B) n (L j) B.length p⟩
 refine ⟨fun q=>if q=j then 1 else - Lin.sm B.length (fun t=>co t*Fy t q),if_pos Y,fun p => ?_⟩
 rw [hco p,Lin.sm]; dsimp only;rw [if_pos Y]
 have e:Lin.sm B.length (fun t=>co t*ct B t p) = - Lin.sm j (fun q=>(if q=j then 1 else - Lin.sm B.length (fun t=>co t*Fy t q))*L q p):=by
  rw [Lin.aU (n:=j) (g:=fun q=>(-1:Rat)*Lin.sm B.length (fun t=>co t*(Fy t q*L q p))+0*(0:Rat)) (fun q hq=>by
   rw [if_neg X]
   have:Lin.sm B.length (fun t=>co t*(Fy t q*L q p))=Lin.sm B.length (fun t=>co t*Fy t q)*L q p:=by
    rw [← Lin.dR]; exact Lin.aU fun t _=>by grind
   rw [this]; grind),Lin.lP,Lin.oy,Lin.gV]
  rw [Lin.aU (f:=fun t=>Lin.sm j (fun q=>co t*(Fy t q*L q p))) (g:=fun t=>co t*ct B t p) (fun t ht=>by
   rw [hZ t ht p,Rat.mul_comm, ← Lin.dR]; exact Lin.aU fun q _=>by grind)]
  grind
 rw [e]; grind
theorem sE (n:Nat) (L:Nat→Nat→Rat) : ∀ j,BasI n L j (cm n L j)
 | 0 => ⟨Nat.le_refl _, ⟨fun i h => absurd h (Nat.not_lt_zero _), fun i j _ h => absurd h (Nat.not_lt_zero _)⟩, fun t h => absurd h (Nat.not_lt_zero _), fun _ q h => absurd h (Nat.not_lt_zero _)⟩
 | j + 1 => by
  have ih:=sE n L j
  have hz:=qb ih.ech (L j) _ (Nat.le_refl _)
  obtain ⟨z,z1,hcR⟩:=uG (n:=n) ih.cb
  obtain ⟨co,hsp⟩ : ∃ co:Nat→Rat, ∀ p,dA (ct (cm n L j)) n (L j) (cm n L j).length p=L j p - Lin.sm (cm n L j).length (fun t=>co t*ct (cm n L j) t p):=⟨_,fun p=>m5 (ct (cm n L j)) n (L j) (cm n L j).length p⟩
  have hcons:jf n L j↔(bp (dA (ct (cm n L j)) n (L j) (cm n L j).length) n<n∨dA (ct (cm n L j)) n (L j) (cm n L j).length n=0):=Iff.rfl
  show BasI n L (j+1) (if _ then _ else cm n L j)
  have ext : ∀ t,t<(cm n L j).length → ∃ z:Nat→Rat, ∀ p,ct (cm n L j) t p=Lin.sm (j+1) (fun q=>z q*L q p):=fun t ht=>by
   obtain ⟨z,hz⟩:=ih.cb t ht
   refine ⟨fun q=>if q<j then z q else 0,fun p => ?_⟩
   rw [Lin.sm]; dsimp only;rw [if_neg (Nat.lt_irrefl _),hz p,Lin.aU (g:=fun q=>(if q<j then z q else 0)*L q p) (fun q hq=>by rw [if_pos hq])]
   grind
  generalize dA (ct (cm n L j)) n (L j) (cm n L j).length=R at *
  generalize cm n L j=B at *
  by_cases hf:bp R n<n
  ·rw [if_pos hf]
   have hl:(B ++ [R]).length=B.length+1:=by simp
   refine ⟨by rw [hl]; have:=ih.le;omega,uF ih.ech hf hz,fun t ht => ?_,fun hc q hq => ?_⟩
   ·by_cases e:t<B.length
    ·rw [g9 e]; exact ext t e
    ·rw [show t=B.length by omega,gK]; exact ⟨z,hcR⟩
   ·by_cases e:q=j
    ·subst e
     refine ⟨fun t=>if t<B.length then co t else 1,fun p hp => ?_⟩
     rw [m6 (y:=fun t=>if t<B.length then co t else 1),if_neg (Nat.lt_irrefl _),hsp p,Lin.aU (f:=fun t=>(if t<B.length then co t else 1)*ct B t p) (g:=fun t=>co t*ct B t p) (fun t ht=>by rw [if_pos ht])]
     grind
    ·obtain ⟨y,hy⟩:=ih.sp (fun q hq=>hc q X) q X
     refine ⟨fun t=>if t<B.length then y t else 0,fun p hp => ?_⟩
     rw [m6 (y:=fun t=>if t<B.length then y t else 0),if_neg (Nat.lt_irrefl _),hy p hp,Lin.aU (f:=fun t=>(if t<B.length then y t else 0)*ct B t p) (g:=fun t=>y t*ct B t p) (fun t ht=>by rw [if_pos ht])]
     grind
  ·rw [if_neg hf]
   refine ⟨by have:=ih.le;omega,ih.ech,ext,fun hc q hq => ?_⟩
   by_cases e:q=j
   ·subst e
    refine ⟨co,fun p hp => ?_⟩
    have h0:R p=0:=by
     by_cases hp':p<n
     ·rcases g8 R n with ⟨_,h⟩ | ⟨h,_⟩
      ·exact h p hp'
      ·exact absurd h hf
     ·rw [show p=n by omega]
      exact (hcons.1 (hc q X)).resolve_left hf
    have:=hsp p
    grind
   ·exact ih.sp (fun q hq=>hc q X) q X
def l6 (b:Nat→Rat) (n:Nat) (x:Nat→Rat) (rows:List Nat) (f:Nat):Nat→Rat
 | 0 => b n
 | j + 1 => if j = f then l6 b n x rows f j else l6 b n x rows f j - b j * x (rows.getD j 0)
theorem xn (b:Nat→Rat) (n:Nat) (x:Nat→Rat) (rows:List Nat) (f:Nat) : ∀ j,l6 b n x rows f j=b n - Lin.sm j (fun p=>if p=f then 0 else b p*x (rows.getD p 0))
 | 0 => by show b n = b n - 0; grind
 | j + 1 => by
  show (if j=f then l6 b n x rows f j else l6 b n x rows f j - b j*x (rows.getD j 0))=b n - (Lin.sm j _+_)
  rw [xn b n x rows f j]
  split <;> grind
def xQ (n:Nat) (B:Nat→Nat→Rat) (rows:List Nat) (k:Nat):Nat→Nat→Rat
 | 0 => fun _ => 0
 | d + 1 => fun i => if i = rows.getD (bp (B (k - 1 - d)) n) 0 then l6 (B (k - 1 - d)) n (xQ n B rows k d) rows (bp (B (k - 1 - d)) n) n / B (k - 1 - d) (bp (B (k - 1 - d)) n) else xQ n B rows k d i
theorem Bx {n:Nat} {B:Nat→Nat→Rat} {rows:List Nat} {k:Nat} (hr:rows.length=n) (hB : ∀ t,t<k→bp (B t) n<n) {i:Nat} (hi:i ∉ rows) : ∀ d,d≤k→xQ n B rows k d i=0
 | 0, _ => rfl
 | d + 1, hd => by
  show (if i=rows.getD (bp (B (k - 1 - d)) n) 0 then _ else xQ n B rows k d i)=0
  have h1:=hB (k - 1 - d) X
  rw [if_neg (fun e=>hi (by rw [e]; simp [List.getD,hr,h1]))]
  exact Bx hr hB hi d X
theorem rm {n:Nat} {B:Nat→Nat→Rat} {rows:List Nat} {k:Nat} (hr:rows.length=n) (hs:rows.Pairwise (· < ·)) (hB:Ech B n k) : ∀ d,d≤k → ∀ t,t<k→k≤t+d→Lin.sm n (fun p=>B t p*xQ n B rows k d (rows.getD p 0))=B t n
 | 0, _, t, h1, h2 => absurd h2 X
 | d + 1, hd, t, h1, h2 => by
  have hf:=hB.1 (k - 1 - d) X
  have hne:=(fF hf).1
  have val : ∀ p,p<n→xQ n B rows k (d+1) (rows.getD p 0)=if p=bp (B (k - 1 - d)) n then l6 (B (k - 1 - d)) n (xQ n B rows k d) rows (bp (B (k - 1 - d)) n) n / B (k - 1 - d) (bp (B (k - 1 - d)) n) else xQ n B rows k d (rows.getD p 0):=fun p hp=>by
   show (if rows.getD p 0=rows.getD (bp (B (k - 1 - d)) n) 0 then _ else _)=_
   by_cases e:p=bp (B (k - 1 - d)) n
   ·rw [if_pos e,if_pos (by rw [← e])]
   ·rw [if_neg e,if_neg (fun h=>e (Lin.rk hs X X h))]
  rw [Lin.aU (fun p hp=>by rw [val p hp])]
  by_cases e:t=k - 1 - d
  ·subst e
   rw [xn]
   generalize bp (B (k - 1 - d)) n=f at *
   generalize B (k - 1 - d)=b at *
   generalize xQ n B rows k d=x at *
   rw [Lin.aU (g:=fun p=>(if p=f then b f*((b n - Lin.sm n (fun p=>if p=f then 0 else b p*x (rows.getD p 0))) / b f) else 0)+(if p=f then 0 else b p*x (rows.getD p 0))) (fun p hp=>by
    by_cases e:p=f
    ·rw [if_pos e,if_pos e,if_pos e,e]; grind
    ·rw [if_neg e,if_neg e,if_neg e]; grind)]
   have hadd : ∀ (m:Nat) (f g:Nat→Rat),Lin.sm m (fun i=>f i+g i)=Lin.sm m f+Lin.sm m g:=fun m f g=>by
    have:=Lin.lP 1 1 m f g
    rw [Rat.one_mul,Rat.one_mul] at this
    rw [← this]; exact Lin.aU fun i _=>by rw [Rat.one_mul,Rat.one_mul]
   rw [hadd,Lin.jL hf (fun p=>b f*((b n - Lin.sm n (fun p=>if p=f then 0 else b p*x (rows.getD p 0))) / b f))]
   generalize Lin.sm n (fun p=>if p=f then 0 else b p*x (rows.getD p 0))=FB at *
   grind
  ·have ih:=rm hr hs hB d X t h1 X
   rw [← ih]
   refine Lin.aU fun p hp => ?_
   by_cases e2:p=bp (B (k - 1 - d)) n
   ·rw [if_pos e2,e2,hB.2 (k - 1 - d) t X h1,Rat.zero_mul,Rat.zero_mul]
   ·rw [if_neg e2]
theorem Da {r:Nat} {rows:List Nat} {x g:Nat→Rat} (hs:rows.Pairwise (· < ·)) (hr : ∀ i∈rows,i<r) (h0 : ∀ i,i ∉ rows→x i=0):Lin.sm r (fun i=>x i*g i)=Lin.sm rows.length (fun p=>x (rows.getD p 0)*g (rows.getD p 0)):=by
 have e : ∀ i,x i*g i=Lin.sm rows.length (fun p=>if i=rows.getD p 0 then x i*g i else 0):=fun i=>by
  by_cases hi:i∈rows
  ·obtain ⟨p,hp,e⟩:=List.mem_iff_getElem.1 hi
   have e':rows.getD p 0=i:=by simp [List.getD,hp,e]
   rw [Lin.gm hp (fun q hq hne=>by rw [if_neg]; exact fun h=>hne (Lin.rk hs hq hp (by rw [← h,e']))),if_pos e'.symm]
  ·rw [h0 i hi,Rat.zero_mul,Lin.eZ fun p _=>by split <;> rfl]
 rw [Lin.aU (fun i _=>e i),Lin.gV]
 exact Lin.aU fun p hp=>Lin.jL (hr _ (by simp [List.getD,hp])) (fun i=>x i*g i)
def cu (n c:Nat) (F:Nat→Nat→Int) (b:Nat→Int) (rows:List Nat) (j:Nat):Nat→Rat:=fun p=>if p<n then (F (rows.getD p 0) j:Rat) else if p=n then (b j:Rat) else if p=n+1+j then 1 else 0
section
variable {r c:Nat} {F:Nat→Nat→Int} {b:Nat→Int} {rows:List Nat}
theorem EQ (hs:rows.Pairwise (· < ·)) (hr : ∀ i∈rows,i<r) (hc : ∀ j,j<c→jf rows.length (cu rows.length c F b rows) j) {j:Nat} (hj:j<c) :
  Lin.sm r (fun i=>xQ rows.length (ct (cm rows.length (cu rows.length c F b rows) c)) rows (cm rows.length (cu rows.length c F b rows) c).length (cm rows.length (cu rows.length c F b rows) c).length i*(F i j:Rat))=(b j:Rat):=by
 have hI:=sE rows.length (cu rows.length c F b rows) c
 generalize cm rows.length (cu rows.length c F b rows) c=B at *
 rw [Da hs hr (fun i hi=>Bx Y hI.ech.1 hi _ (Nat.le_refl _))]
 have hS:=fun t ht=>rm Y hs hI.ech B.length (Nat.le_refl _) t ht (Nat.le_add_left _ _)
 generalize xQ rows.length (ct B) rows B.length B.length=x at *
 obtain ⟨y,hy⟩:=hI.sp hc j hj
 have h1:(b j:Rat)=cu rows.length c F b rows j rows.length:=by unfold cu;rw [if_neg (Nat.lt_irrefl _),if_pos Y]
 rw [h1,hy _ (Nat.le_refl _),Lin.aU (g:=fun p=>Lin.sm B.length (fun t=>y t*(ct B t p*x (rows.getD p 0)))) (fun p hp=>by
  have h2:(F (rows.getD p 0) j:Rat)=cu rows.length c F b rows j p:=by unfold cu;rw [if_pos hp]
  rw [h2,hy p X,Rat.mul_comm, ← Lin.dR]
  exact Lin.aU fun t _=>by grind),Lin.gV]
 refine Lin.aU fun t ht => ?_
 rw [← hS t ht,Lin.aU (g:=fun p=>(ct B t p*x (rows.getD p 0))*y t) (fun p _=>by grind),Lin.dR]
 grind
theorem Db {x:Nat→Rat} (hx : ∀ j,j<c→Lin.sm rows.length (fun p=>x p*(F (rows.getD p 0) j:Rat))=(b j:Rat)) {j:Nat} (hj:j<c):jf rows.length (cu rows.length c F b rows) j:=by
 have hI:=sE rows.length (cu rows.length c F b rows) j
 unfold jf
 by_cases hf:bp (dA (ct (cm rows.length (cu rows.length c F b rows) j)) rows.length (cu rows.length c F b rows j) (cm rows.length (cu rows.length c F b rows) j).length) rows.length<rows.length
 ·exact .inl hf
 ·refine .inr ?_
  obtain ⟨z,z1,hcR⟩:=uG (n:=rows.length) hI.cb
  have h0 : ∀ p,p<rows.length→Lin.sm (j+1) (fun q=>z q*cu rows.length c F b rows q p)=0:=fun p hp=>by
   rw [← hcR p]
   rcases g8 (dA (ct (cm rows.length (cu rows.length c F b rows) j)) rows.length (cu rows.length c F b rows j) (cm rows.length (cu rows.length c F b rows) j).length) rows.length with ⟨_,h⟩ | ⟨h,_⟩
   ·exact h p hp
   ·exact absurd h hf
  rw [hcR]
  have e : ∀ q,q<j+1→z q*cu rows.length c F b rows q rows.length=Lin.sm rows.length (fun p=>x p*(z q*cu rows.length c F b rows q p)):=fun q hq=>by
   have h1:cu rows.length c F b rows q rows.length=(b q:Rat):=by unfold cu;rw [if_neg (Nat.lt_irrefl _),if_pos Y]
   rw [h1, ← hx q X,Rat.mul_comm, ← Lin.dR]
   exact Lin.aU fun p hp=>by
    have h2:cu rows.length c F b rows q p=(F (rows.getD p 0) q:Rat):=by unfold cu;rw [if_pos hp]
    rw [h2]; grind
  rw [Lin.aU e,Lin.gV]
  refine Lin.eZ fun p hp => ?_
  rw [Lin.aU (g:=fun q=>(z q*cu rows.length c F b rows q p)*x p) (fun q _=>by grind),Lin.dR,h0 p hp,Rat.zero_mul]
end
end Tor
end
section
namespace Tor
open Go Go.RowKit Go.Proofs
theorem By {α n:Nat} {L:Nat→Nat→Rat} (hL : ∀ j p,qz α (L j p)) (hα:1≤α) : ∀ j, ∀ k,k<(cm n L j).length→bp (ct (cm n L j) k) n<n ∧ ∀ p,qz (ee α (cm n L j).length) (ct (cm n L j) k p)
 | 0 => fun k h => absurd h (Nat.not_lt_zero _)
 | j + 1 => by
  have ih:=By (n:=n) hL hα j
  have hr:=pZ (n:=n) (cm n L j).length (fun p=>hL j p) ih (cm n L j).length (Nat.le_refl _)
  show ∀ k,k<(if bp (dA (ct (cm n L j)) n (L j) (cm n L j).length) n<n then cm n L j ++ [dA (ct (cm n L j)) n (L j) (cm n L j).length] else cm n L j).length→_
  have e:cm n L (j+1)=if bp (dA (ct (cm n L j)) n (L j) (cm n L j).length) n<n then cm n L j ++ [dA (ct (cm n L j)) n (L j) (cm n L j).length] else cm n L j:=rfl
  rw [e]
  split
  ·rename_i h
   generalize dA (ct (cm n L j)) n (L j) (cm n L j).length=r at *
   generalize cm n L j=FB at *
   intro k hk
   have hl:(FB ++ [r]).length=FB.length+1:=by simp
   rw [hl] at hk ⊢
   by_cases h1:k<FB.length
   ·rw [g9 h1]
    exact ⟨(ih k h1).1,fun j=>((ih k h1).2 j).mono (nI _ _)⟩
   ·rw [show k=FB.length by omega,gK]
    exact ⟨h,hr⟩
  ·exact ih
def suB (β x:Nat):Nat→Nat
 | 0 => β
 | j + 1 => suB β x j + (β + x) + 1
def xB (β n:Nat):Nat→Nat
 | 0 => 1
 | d + 1 => xB β n d + suB β (xB β n d) n + β
theorem Bz {β x i k:Nat} (h:i≤k):suB β x i≤suB β x k:=by
  induction k with
  | zero => have : i = 0 := by omega
            subst this;exact Nat.le_refl _
  | succ k ih =>
    by_cases e:i=k+1
    · rw [e]; exact Nat.le_refl _
    · have:=ih X
      show suB β x i≤suB β x k+(β+x)+1
      omega
theorem Dc {β n i k:Nat} (h:i≤k):xB β n i≤xB β n k:=by
  induction k with
  | zero => have : i = 0 := by omega
            subst this;exact Nat.le_refl _
  | succ k ih =>
    by_cases e:i=k+1
    · rw [e]; exact Nat.le_refl _
    · have:=ih X
      show xB β n i≤xB β n k+_+_
      omega
theorem sG {β x n:Nat} {b Fx:Nat→Rat} {rows:List Nat} {f:Nat} (hb : ∀ p,qz β (b p)) (hX : ∀ i,qz x (Fx i)) : ∀ j,qz (suB β x j) (l6 b n Fx rows f j)
 | 0 => hb n
 | j + 1 => by
  have ih:=sG (n:=n) (rows:=rows) (f:=f) hb hX j
  show qz (suB β x j+(β+x)+1) (if j=f then _ else _)
  split
  ·exact ih.mono X
  ·exact pX ih (nG (hb j) (hX _))
theorem DB {β n k:Nat} {B:Nat→Nat→Rat} {rows:List Nat} (hB : ∀ t,t<k→bp (B t) n<n ∧ ∀ p,qz β (B t p)) : ∀ d,d≤k → ∀ i,qz (xB β n d) (xQ n B rows k d i)
 | 0, _, i => w8 _ (Nat.le_refl _)
 | d + 1, hd, i => by
  have ih:=DB (rows:=rows) hB d X
  obtain ⟨h1,h2⟩:=hB (k - 1 - d) X
  show qz (xB β n d+suB β (xB β n d) n+β) (if i=rows.getD (bp (B (k - 1 - d)) n) 0 then _ else _)
  split
  ·exact (jX (sG h2 ih n) (h2 _) (fF h1).1).mono X
  ·exact (ih i).mono X
theorem Dd {α n c:Nat} {F:Nat→Nat→Int} {b:Nat→Int} {rows:List Nat} (hα:1≤α) (hF : ∀ i j,lz α (F i j)) (hb : ∀ j,lz α (b j)) : ∀ j p,qz α (cu n c F b rows j p):=fun j p=>by
 unfold cu
 split
 ·exact gN hα (hF _ _)
 ·split
  ·exact gN hα (hb _)
  ·split
   ·exact gN (a:=1) hα (sh hα)
   ·exact w8 _ hα
theorem De {n c j:Nat} {F:Nat→Nat→Int} {b:Nat→Int} {rows:List Nat} (q:Nat):(if q<n+1 then if q<n then cj (F (rows.getD q 0) j:Rat) else cj (b j:Rat) else cj ((fun i:Nat=>if (i:Int)=(j:Int) then (1:Rat) else 0) (q - (n+1))))=cj (cu n c F b rows j q):=by
 unfold cu
 by_cases h1:q<n
 ·rw [if_pos X,if_pos h1,if_pos h1]
 ·by_cases h2:q=n
  ·rw [if_pos X,if_neg h1,if_neg h1,if_pos h2]
  ·rw [if_neg X,if_neg h1,if_neg h2]
   by_cases h3:q=n+1+j
   ·rw [if_pos h3]; dsimp only;rw [if_pos X]
   ·rw [if_neg h3]; dsimp only;rw [if_neg X]
theorem Df {sv:Option Nat} {T:TypeId} {cap r n k d:Nat} {B:Nat→Nat→Rat} {rows:List Nat} : Own.le (aH sv T (.agg 4) cap r (upd (fun i=>cj (xQ n B rows k d i)) (rows.getD (bp (B (k - 1 - d)) n) 0) (cj (l6 (B (k - 1 - d)) n (xQ n B rows k d) rows (bp (B (k - 1 - d)) n) n / B (k - 1 - d) (bp (B (k - 1 - d)) n))))) (aH sv T (.agg 4) cap r (fun i=>cj (xQ n B rows k (d+1) i))):=a7 fun q _=>by
 show (if q=rows.getD (bp (B (k - 1 - d)) n) 0 then cj _ else cj (xQ n B rows k d q))=cj (if q=rows.getD (bp (B (k - 1 - d)) n) 0 then _ else _)
 by_cases h:q=rows.getD (bp (B (k - 1 - d)) n) 0
 ·rw [if_pos h,if_pos h]
 ·rw [if_neg h,if_neg h]
attribute [local irreducible] J PJ aM one slT bW bH bj exT cn eP aX aH slV VT.le Ret bP xO
attribute [local irreducible] aO cj bw
theorem vY (n:Nat) (hn:n≤1048576):OkM (σ:=Option Nat × Nat) Tryz.prog 108 [one (.int .i64 (n:Nat)),one (.int .i64 (-1))] (fun s=>one (slV s.1 n s.2)) (fun s => [aH s.1 58 (.agg 4) s.2 n (fun _=>cj 0)]):=by
 have h0:=eR 0 U U
 refine OkM.enter Tryz.func108 Y Tryz.ntmps108 Y (fun w O => ?_)
 refine ae (ai (FJ Y (FL (aa (ae (ai (iL (n:=0) Y Y Y Y Y ?_)))))))
 refine PartsK.nil (fun bl => ?_)
 refine FJ Y (FL (aa (ae (ae (ai (FJ Y (FL (aa (au ?_)))))))))
 refine cf (Γ' := [(0,_),(1,_),(4,_),(5,_),(6,_)]) FC (SubM.refl _) ?_
 refine bk (σ:=Nat × Option Nat × Nat) (Γk := [(0,_),(1,_),(4,_)]) FC (fun s => [(6,one (.int .i64 (s.1:Nat))),(5,one (slV s.2.1 s.1 s.2.2))]) (fun s M0=>(M0.set 0 (aH s.2.1 58 (.agg 4) s.2.2 s.1 (fun q=>cj ((0:Int):Rat))))) (fun s=>s.1≤n) (fun s=>n - s.1) ((0,some bl,0)) (Nat.zero_le _) FD (.keep (a7 (fun q hq=>absurd hq (Nat.not_lt_zero _))) (.nil)) (fun s hs => ?_)
 refine bI (Γ' := [(6,_),(5,_),(0,_),(1,_),(4,_)]) (M' := [_]) Y Y ?_
 obtain ⟨i,sv,cap⟩:=s
 dsimp only at hs ⊢
 by_cases hi:i<n
 ·refine ae (ae (ai (FI Y (FI Y (FH (sT X (a6 Y Y)) (FL (aa (aD Y (aw ?_)))))))))
  refine aa (ae (au (ai (FI Y ?_))))
  refine FH (am (h0) Y ⟨S,FM⟩) ?_
  refine eH Y Y Y Y ?_
  (refine cq 0 Y Y Y (leN Y) ?_ ?_ Y (ltN Y) (fun sv16 cap16 => ?_);omega;omega)
  refine FJ Y (FL (aF (aa (ai (FI Y (FH (bC _ 1 Y Y X) (FJ Y (FL ?_))))))))
  refine aK ((i+1,sv16,cap16)) (hi) X FD (.keep (a7 (fun q hq=>by split <;> rfl)) (.nil))
 ·have he:i=n:=by omega
  subst he
  refine ae (ae (ai (FI Y (FI Y (FH (sF X (a6 Y Y)) (FL (aa (aA Y (aV ?_)))))))))
  refine av (av (aE (aa (ae (ae (ai (FI Y (FH (sF X (eu Y Y)) (FI Y ?_)))))))))
  refine sn0 Y Y Y Y Y (sn0 Y Y Y Y Y (sn0 Y Y Y Y Y (FH (bG Y Y) (FL (aa (aA Y (aw (aa (ae ?_)))))))))
  refine ai (FI Y (FJ Y (FL (aa (aG ?_)))))
  exact kb (σ:=Option Nat × Nat) (ψ:=fun s=>one (slV s.1 i s.2)) (Ms:=fun s => [aH s.1 58 (.agg 4) s.2 i (fun _=>cj 0)]) (sv,cap) Tryz.results108 (.tmp Y S) (.keep (a7 fun q hq=>rfl) .nil)
set_option maxRecDepth 100000 in
theorem vZ (p:Bool) (jb:Nat) (r c:Nat) (F:Nat→Nat→Int) (b:Nat→Int) (α:Nat) (rows:List Nat) (hrows:(f8 c F r).1=rows) (hr:r≤1024) (hc:c≤1024) (hα:1≤α) (hF : ∀ i j,lz α (F i j)) (hb : ∀ j,lz α (b j)) (hz:ee α r≤1099511627700) (hz2:ee α (c+1)≤1099511627700) (hz3:xB (ee α c) rows.length (c+1)≤1099511627700) (hz4 : ∀ k,k≤c→2*iP α (ee α k) k≤1099511627700) (hrl:rows.length≤r) (hrm : ∀ i,i<rows.length→rows.getD i 0<r)
  (hp:p=true ↔ ∀ j,j<c→jf rows.length (cu rows.length c F b rows) j) (hjb : ∀ j,j<c → ¬ jf rows.length (cu rows.length c F b rows) j→jb≤j ∧ ¬ jf rows.length (cu rows.length c F b rows) jb) :
  Ok Tryz.prog 61 [bO r c F,bw c b] (if p=true then bj [cN r (xQ rows.length (ct (cm rows.length (cu rows.length c F b rows) c)) rows (cm rows.length (cu rows.length c F b rows) c).length (cm rows.length (cu rows.length c F b rows) c).length),cN 0 (fun _=>0),one (.bool true)]
   else bj [cN 0 (fun _=>0),cN c (fun k=>dA (ct (cm rows.length (cu rows.length c F b rows) jb)) rows.length (cu rows.length c F b rows jb) (cm rows.length (cu rows.length c F b rows) jb).length (rows.length+1+k) / dA (ct (cm rows.length (cu rows.length c F b rows) jb)) rows.length (cu rows.length c F b rows jb) (cm rows.length (cu rows.length c F b rows) jb).length rows.length),one (.bool false)]):=by
 have hnew:=Bd r c F α hr hc hα hF hz
 rw [hrows] at hnew
 have htr:=qm r c F X X
 have hun:=vY r X
 have hunit:=fun j:Nat=>yM c (j:Int) X
 have hqL:=Dd (n:=rows.length) (c:=c) (rows:=rows) hα hF hb
 have hBq:=By (n:=rows.length) hqL hα
 have hBI:=sE rows.length (cu rows.length c F b rows)
 unfold bO bw Fa lB at *
 refine Ok.enter Tryz.func61 Y Tryz.ntmps61 Y (fun w O => ?_)
 refine ae (ai ?_)
 refine aQ Y Y (ltN Y) (fun b2 => ?_)
 refine FJ Y (FJ Y (FJ Y (FL (aa (ae ?_)))))
 refine eh a4 Z Z ?_
 refine ux (fun B=>aI 0 Y Y) Y Y ?_
 refine uxk (hnew) Y ⟨S,FM⟩ Y ?_
 refine ux (fun B=>aI 0 Y Y) Y Y ?_
 refine uxk (htr) Y ⟨S,FM⟩ Y ?_
 refine ua Y ?_
 refine ux (fun B=>ah Y) Y Y ?_
 refine us Y ?_
 refine RunU.nil (fun γ => ?_)
 refine cR (M' := [_,_]) Y (io (dV.refl _) (.keep jt (SubM.refl _)) (aa (ae (ai (FI Y (FH (aY Y) (FH (aj Y) (FH (ak 1 Y Y Y) ?_))))))))
 refine gz (hun) Y ⟨S,S,FM⟩ Y Y (fun s29 => ?_)
 refine iL (n:=0) Y Y Y Y Y ?_
 refine PartsK.nil (fun bl => ?_)
 refine FJ Y (FJ Y (FJ Y (FL (aa (ae (ae (ai (FJ Y (FL ?_)))))))))
 refine aa (au ?_)
 clear hun hnew htr
 refine cf (Γ' := [(1,_),(2,_),(4,_),(5,_),(6,_),(7,_),(8,_),(9,_),(10,_),(11,_),(12,_)]) FC (SubM.refl _) ?_
 refine bk (σ:=Nat × Option Nat × Nat) (Γk := [(1,_),(2,_),(7,_),(8,_),(9,_),(10,_)]) FC (fun s => [(12,one (.int .i64 (s.1:Nat))),(11,one (slV s.2.1 (cm rows.length (cu rows.length c F b rows) s.1).length s.2.2))]) (fun s M0=>(M0.set 0 (aH s.2.1 39 .one s.2.2 (cm rows.length (cu rows.length c F b rows) s.1).length (fun q=>cN (rows.length+1+c) (ct (cm rows.length (cu rows.length c F b rows) s.1) q))))) (fun s=>s.1≤c ∧ ∀ q,q<s.1→jf rows.length (cu rows.length c F b rows) q) (fun s=>c - s.1) ((0,some bl,0)) (⟨Nat.zero_le _,fun q h=>absurd h (Nat.not_lt_zero _)⟩) FD (.keep (a7 (fun q hq=>absurd hq (Nat.not_lt_zero _))) (.keep FG (.keep FG (.keep FG (.nil))))) (fun s hs => ?_)
 refine bI (Γ' := [(12,_),(11,_),(1,_),(2,_),(7,_),(8,_),(9,_),(10,_)]) (M' := [_,_,_,_]) Y Y ?_
 obtain ⟨j,svb,capb⟩:=s
 obtain ⟨hs,hcons⟩:=hs
 dsimp only at hs hcons ⊢
 by_cases hj:j<c
 ·refine ae (ae (ai (FI Y (FH (aj Y) (FH (ak 3 Y Y Y) (FH (sT X (a6 Y Y)) (FL (aa (aD Y ?_)))))))))
  refine aw (aa (ae (au (ae (ai (iL (n:=0) Y Y Y Y Y ?_))))))
  refine PartsK.nil (fun bl => ?_)
  refine FJ Y (FL (aa (ae (ae (ai (FJ Y (FL (aa (au ?_)))))))))
  refine cf (Γ' := [(1,_),(2,_),(7,_),(8,_),(9,_),(10,_),(11,_),(12,_),(13,_),(14,_)]) FC (SubM.refl _) ?_
  refine bk (σ:=Nat × Option Nat × Nat) (Γk := [(1,_),(2,_),(7,_),(8,_),(9,_),(10,_),(11,_),(12,_)]) FC (fun t => [(14,one (.int .i64 (t.1:Nat))),(13,one (slV t.2.1 t.1 t.2.2))]) (fun t M0=>(M0.set 0 (aH t.2.1 58 (.agg 4) t.2.2 t.1 (fun q=>cj (F (rows.getD q 0) j:Rat))))) (fun t=>t.1≤rows.length) (fun t=>rows.length - t.1) ((0,some bl,0)) (Nat.zero_le _) FD (.keep (a7 (fun q hq=>absurd hq (Nat.not_lt_zero _))) (.keep FG (.keep FG (.keep FG (.keep FG (.nil)))))) (fun t ht => ?_)
  refine bI (Γ' := [(14,_),(13,_),(1,_),(2,_),(7,_),(8,_),(9,_),(10,_),(11,_),(12,_)]) (M' := [_,_,_,_,_]) Y Y ?_
  obtain ⟨i,svl,capl⟩:=t
  dsimp only at ht ⊢
  by_cases hi:i<rows.length
  ·have hw:=iI (F (rows.getD i 0) j)
   have hri:=hrm i hi
   refine ae (ae (ai (FI Y (FI Y (FH (sT X (a6 Y Y)) (FL (aa (aD Y (aw ?_)))))))))
   refine aa (ae (au (oq 16 14 a4 Z U (FI Y (FH (aj Y) (FH (ak 3 Y Y Y) (FI Y (FH (aC Y Y X) (FH (aN Y) ?_)))))))))
   refine FI Y (FI Y (FH (aC Y Y X) (FH (aN Y) (FH (aC Y Y X) (FH (aN Y) ?_)))))
   refine FH (am (hw) Y ⟨S,FM⟩) ?_
   refine eH Y Y Y Y (FL ?_)
   (refine cq 0 Y Y Y (leN Y) ?_ ?_ Y (ltN Y) (fun sv57 cap57 => ?_);omega;omega)
   refine FJ Y (FL (aF (aa (ai (FI Y (FH (bC _ 1 Y Y X) (FJ Y (FL ?_))))))))
   refine aK ((i+1,sv57,cap57)) (hi) X FD (.keep (mW (h:=fun q=>(F (rows.getD q 0) j:Rat)) Y) (.keep FG (.keep FG (.keep FG (.keep FG (.nil))))))
  ·have hie:i=rows.length:=by omega
   subst hie
   have hw:=iI (b j)
   have hu:=hunit j
   refine ae (ae (ai (FI Y (FI Y (FH (sF X (a6 Y Y)) (FL (aa (aA Y (aV ?_)))))))))
   refine av (av (aE (aa (ae (ai (FI Y (FI Y (FI Y (FH (aC Y Y X) ?_)))))))))
   refine FH (aN Y) ?_
   refine FH (am (hw) Y ⟨S,FM⟩) ?_
   refine eH Y Y Y Y ?_
   (refine cq 0 Y Y Y (leN Y) ?_ ?_ Y (ltN Y) (fun sv65 cap65 => ?_);omega;omega)
   refine FJ Y (FL (aa (ae (ai (FI Y (FH (aj Y) (FH (ak 4 Y Y Y) (FI Y ?_))))))))
   refine FH (am (hunit _) Y ⟨S,S,FM⟩) ?_
   (refine cq 0 Y Y Y (leN Y) ?_ ?_ Y (ltN Y) (fun sv71 cap71 => ?_);omega;omega)
   refine FI Y (FI Y ?_)
   have hB:=hBq j
   have hI:=hBI j
   have hz1:ee α ((cm rows.length (cu rows.length c F b rows) j).length+1)≤1099511627700:=Nat.le_trans (li (by have:=hI.le;omega)) hz2
   have hred:=mX rows.length (rows.length+1+c) (cm rows.length (cu rows.length c F b rows) j).length (cu rows.length c F b rows j) (ct (cm rows.length (cu rows.length c F b rows) j)) svb capb α (ee α (cm rows.length (cu rows.length c F b rows) j).length) X X (by have:=hI.le;omega) (hqL j) hB hz1
   have hfi:=jY rows.length (rows.length+1+c) (dA (ct (cm rows.length (cu rows.length c F b rows) j)) rows.length (cu rows.length c F b rows j) (cm rows.length (cu rows.length c F b rows) j).length) X X
   refine gg (t:=71) (j:=0) Y Y ?_
   refine FH (mw (Min := [_]) (Kp := [_,_,_]) hred Y ⟨dE (fun q hq=>fK (De q)),S,S,FM⟩ (List.Perm.refl _)) ?_
   have hsucc:cm rows.length (cu rows.length c F b rows) (j+1)=if bp (dA (ct (cm rows.length (cu rows.length c F b rows) j)) rows.length (cu rows.length c F b rows j) (cm rows.length (cu rows.length c F b rows) j).length) rows.length<rows.length then cm rows.length (cu rows.length c F b rows) j ++ [dA (ct (cm rows.length (cu rows.length c F b rows) j)) rows.length (cu rows.length c F b rows j) (cm rows.length (cu rows.length c F b rows) j).length] else cm rows.length (cu rows.length c F b rows) j:=rfl
   have hcj:(bp (dA (ct (cm rows.length (cu rows.length c F b rows) j)) rows.length (cu rows.length c F b rows j) (cm rows.length (cu rows.length c F b rows) j).length) rows.length<rows.length∨dA (ct (cm rows.length (cu rows.length c F b rows) j)) rows.length (cu rows.length c F b rows j) (cm rows.length (cu rows.length c F b rows) j).length rows.length=0)↔jf rows.length (cu rows.length c F b rows) j:=Iff.rfl
   have hpf : ¬ jf rows.length (cu rows.length c F b rows) j→p=false∧jb=j:=fun hn=>by
    obtain ⟨h1,h2⟩:=hjb j hj hn
    refine ⟨?_,?_⟩
    ·cases hpp:p with
     | false => rfl
     | true => exact absurd (hp.1 hpp j hj) hn
    ·rcases Nat.lt_or_ge jb j with h3 | h3
     ·exact absurd (hcons jb h3) h2
     ·omega
   have hnx:jf rows.length (cu rows.length c F b rows) j → ∀ q,q<j+1→jf rows.length (cu rows.length c F b rows) q:=fun h q hq=>by
    by_cases e:q=j
    ·exact e▸h
    ·exact hcons q X
   have hqR:=pZ (n:=rows.length) (cm rows.length (cu rows.length c F b rows) j).length (hqL j) hB (cm rows.length (cu rows.length c F b rows) j).length (Nat.le_refl _)
   have hz1':2*iP α (ee α (cm rows.length (cu rows.length c F b rows) j).length) (cm rows.length (cu rows.length c F b rows) j).length≤1099511627700:=hz4 _ (Nat.le_trans hI.le hs)
   have hgoal:jb=j→(fun k=>dA (ct (cm rows.length (cu rows.length c F b rows) jb)) rows.length (cu rows.length c F b rows jb) (cm rows.length (cu rows.length c F b rows) jb).length (rows.length+1+k) / dA (ct (cm rows.length (cu rows.length c F b rows) jb)) rows.length (cu rows.length c F b rows jb) (cm rows.length (cu rows.length c F b rows) jb).length rows.length)=(fun k=>dA (ct (cm rows.length (cu rows.length c F b rows) j)) rows.length (cu rows.length c F b rows j) (cm rows.length (cu rows.length c F b rows) j).length (rows.length+1+k) / dA (ct (cm rows.length (cu rows.length c F b rows) j)) rows.length (cu rows.length c F b rows j) (cm rows.length (cu rows.length c F b rows) j).length rows.length):=fun h=>by rw [h]
   generalize dA (ct (cm rows.length (cu rows.length c F b rows) j)) rows.length (cu rows.length c F b rows j) (cm rows.length (cu rows.length c F b rows) j).length=R at *
   have hle:=hI.le
   clear hred hB hBq hBI hI
   by_cases hf:bp R rows.length<rows.length
   ·rw [if_pos hf] at hsucc
    have l2:(cm rows.length (cu rows.length c F b rows) (j+1)).length=(cm rows.length (cu rows.length c F b rows) j).length+1:=by rw [hsucc]; simp
    refine FJ Y (FL (aa (ae (ae (ai (FI Y (FI Y ?_)))))))
    refine FH (am (hfi) Y ⟨S,S,FM⟩) ?_
    refine FI Y (FH (sT X (a6 Y Y)) (FL (aa (aD Y (ae (ai (FI Y (FI Y (eH Y Y Y Y ?_)))))))))
    (refine cq 0 Y Y Y (leN Y) ?_ ?_ Y (ltN Y) (fun sv83 cap83 => ?_);omega;omega)
    refine FJ Y (FL (aa (aV (av (aE (aa (ai (FI Y (FH (bC _ 1 Y Y X) ?_)))))))))
    refine FJ Y (FL ?_)
    refine aK ((j+1,sv83,cap83)) (⟨hj,hnx (hcj.1 (.inl hf))⟩) X (by (repeat (first | exact dV.nil | refine dV.cons Y S ?_ | refine dV.cons Y (gB (by dsimp only;omega)) ?_))) (.keep (uq hsucc) (.keep FG (.keep FG (.keep FG (.nil)))))
   ·rw [if_neg hf] at hsucc
    have l2:=congrArg List.length hsucc
    have hsg:=ig (R rows.length)
    by_cases h0:R rows.length=0
    ·rw [(dY (R rows.length).num).2 (Rat.num_eq_zero.2 h0)] at hsg
     refine FJ Y (FL (aa (ae (ae (ai (FI Y (FI Y ?_)))))))
     refine FH (am (hfi) Y ⟨S,S,FM⟩) ?_
     refine FI Y (FH (sF X (a6 Y Y)) (FL (aa (aA Y (aw (aa (ae (ai (FI Y ?_)))))))))
     refine FI Y (FH (aC Y Y X) (FH (aN Y) ?_))
     refine FH (am (hsg) Y ⟨S,FM⟩) ?_
     refine FH (sF X (dj Y Y)) (FL (aa (aA Y (aw (aF (aa (ai (FI Y (FH (bC _ 1 Y Y X) ?_)))))))))
     refine FJ Y (FL ?_)
     refine aK ((j+1,svb,capb)) (⟨hj,hnx (hcj.1 (.inr h0))⟩) X (by (repeat (first | exact dV.nil | refine dV.cons Y S ?_ | refine dV.cons Y (gB (by dsimp only;omega)) ?_))) (.keep (ur hsucc) (.keep FG (.keep FG (.keep FG (.nil)))))
    ·have hs0:dn (R rows.length).num≠0:=fun h=>h0 (Rat.num_eq_zero.1 ((dY (R rows.length).num).1 h))
     obtain ⟨hp0,hjj⟩:=hpf (fun h=>by rcases hcj.2 h with h | h;exact hf h;exact h0 h)
     rw [hgoal hjj,hp0,if_neg (show ¬ false=true by simp)]
     clear hgoal hpf hcj hnx hsucc l2 hcons hp hjb
     generalize dn (R rows.length).num=sg at *
     refine FJ Y (FL (aa (ae (ae (ai (FI Y (FI Y ?_)))))))
     refine FH (am (hfi) Y ⟨S,S,FM⟩) ?_
     refine FI Y (FH (sF X (a6 Y Y)) (FL (aa (aA Y (aw (aa (ae (ai (FI Y ?_)))))))))
     refine FI Y (FH (aC Y Y X) (FH (aN Y) ?_))
     refine FH (am (hsg) Y ⟨S,FM⟩) ?_
     refine FH (sT (by assumption) (dj Y Y)) (FL (aa (aD Y (ae (ai (iL (n:=0) Y Y Y Y Y ?_))))))
     refine PartsK.nil (fun bl => ?_)
     refine FJ Y (FL (aa (ae (ae (ai (FJ Y (FL (aa (au ?_)))))))))
     refine cf (Γ' := [(1,_),(2,_),(7,_),(8,_),(9,_),(10,_),(11,_),(12,_),(13,_),(15,_),(16,_)]) FC (SubM.refl _) ?_
     refine bk (σ:=Nat × Option Nat × Nat) (Γk := [(1,_),(2,_),(7,_),(8,_),(9,_),(10,_),(11,_),(12,_),(13,_)]) FC (fun u => [(16,one (.int .i64 (u.1:Nat))),(15,one (slV u.2.1 u.1 u.2.2))]) (fun u M0=>(M0.set 0 (aH u.2.1 58 (.agg 4) u.2.2 u.1 (fun k=>cj (R (rows.length+1+k) / R rows.length))))) (fun u=>u.1≤c) (fun u=>c - u.1) ((0,some bl,0)) (Nat.zero_le _) FD (.keep (a7 (fun q hq=>absurd hq (Nat.not_lt_zero _))) (.keep FG (.keep FG (.keep FG (.keep FG (.nil)))))) (fun u hu => ?_)
     refine bI (Γ' := [(16,_),(15,_),(1,_),(2,_),(7,_),(8,_),(9,_),(10,_),(11,_),(12,_),(13,_)]) (M' := [_,_,_,_,_]) Y Y ?_
     obtain ⟨k,svy,capy⟩:=u
     dsimp only at hu ⊢
     by_cases hk:k<c
     ·have hov:=ii (R (rows.length+1+k)) (R rows.length) _ _ (hqR _) (hqR _) X h0
      refine ae (ae (ai (FI Y (FH (aj Y) (FH (ak 4 Y Y Y) (FH (sT X (a6 Y Y)) (FL (aa (aD Y ?_)))))))))
      refine aw (aa (ae (au (eX 14 a4 Z U (FI Y (FI Y (FI Y (FH (bC _ 1 Y Y X) (FI Y ?_)))))))))
      refine FH (bC _ _ Y Y X) (FH (aC Y Y X) (FH (aN Y) (FI Y (FI Y (FH (aC Y Y X) (FH (aN Y) ?_))))))
      refine FH (am (hov) Y ⟨S,S,FM⟩) ?_
      refine eH Y Y Y Y (FL ?_)
      (refine cq 0 Y Y Y (leN Y) ?_ ?_ Y (ltN Y) (fun sv111 cap111 => ?_);omega;omega)
      refine FJ Y (FL (aF (aa (ai (FI Y (FH (bC _ 1 Y Y X) (FJ Y (FL ?_))))))))
      refine aK ((k+1,sv111,cap111)) (hk) X FD (.keep (mW (h:=fun k=>R (rows.length+1+k) / R rows.length) Y) (.keep FG (.keep FG (.keep FG (.keep FG (.nil))))))
     ·have hkc:k=c:=by omega
      subst hkc
      refine ae (ae (ai (FI Y (FH (aj Y) (FH (ak 4 Y Y Y) (FH (sF X (a6 Y Y)) (FL (aa (aA Y ?_)))))))))
      refine aV (av (av (aE (aa (ae (ai (FI Y (FJ Y (FJ Y ?_)))))))))
      refine FJ Y (FL (aa (aG (bJ (aS (aS (bJ (aS (bZ (t:=5) (i:=0) Y Y ?_)))))))))
      refine f9 Tryz.results61 (.tmp Y (ey)) (.tmp Y S) (.tmp Y S)
 ·have hjc:j=c:=by omega
  subst hjc
  have hI:=hBI j
  have hB : ∀ k,k<(cm rows.length (cu rows.length j F b rows) j).length→bp (ct (cm rows.length (cu rows.length j F b rows) j) k) rows.length<rows.length ∧ ∀ p,qz (ee α j) (ct (cm rows.length (cu rows.length j F b rows) j) k p):=fun k hk=>⟨(hBq j k hk).1,fun p=>((hBq j k hk).2 p).mono (li hI.le)⟩
  have hkl:=hI.le
  rw [if_pos (hp.2 hcons)]
  clear hBq hBI hI hcons hqL hp hjb
  generalize cm rows.length (cu rows.length j F b rows) j=Q at *
  refine iS (i:=0) (F:=svb=none→Q.length=0) Y (fun g h hp he=>e6 hp he) (fun hsvb => ?_)
  obtain ⟨svx,capx⟩:=s29
  dsimp only
  refine iS (i:=1) (F:=svx=none→r=0) Y (fun g h hp he=>e6 hp he) (fun hsvx => ?_)
  generalize hBs:ct Q=B at *
  refine ae (ae (ai (FI Y (FH (aj Y) (FH (ak 3 Y Y Y) (FH (sF X (a6 Y Y)) (FL (aa (aA Y ?_)))))))))
  refine aV (av (av (aE (aa (ae (ae (ai (FI Y (FH (cB Y) ?_)))))))))
  refine FH (d4 Y Y (aR X X)) (FJ Y (FL (aa (au (cf (Γ' := [(7,_),(9,_),(10,_),(11,_),(17,_)]) FC (SubM.refl _) ?_)))))
  refine bk (σ:=Nat) (Γk := [(7,_),(9,_),(10,_),(11,_)]) FC (fun d => [(17,one (.int .i64 ((Q.length:Int) - 1 - (d:Int))))]) (fun d M0=>(M0.set 1 (aH svx 58 (.agg 4) capx r (fun i=>cj (xQ rows.length B rows Q.length d i))))) (fun d=>d≤Q.length) (fun d=>Q.length - d) (0) (Nat.zero_le _) FD (.keep FG (.keep FG (.keep FG (.keep FG (.nil))))) (fun d hd => ?_)
  refine bI (Γ' := [(17,_),(7,_),(9,_),(10,_),(11,_)]) (M' := [_,_,_,_]) Y Y ?_
  by_cases hd:d<Q.length
  ·obtain ⟨bb,rfl⟩:=fu hsvb X
   obtain ⟨hf,hq⟩:=hB (Q.length - 1 - d) X
   have hxq:=DB (rows:=rows) hB d X
   have hfi:=jY rows.length (rows.length+1+j) (B (Q.length - 1 - d)) X X
   have hne:=(fF hf).1
   have hfr:=hrm _ hf
   obtain ⟨bx,rfl⟩:=fu hsvx X
   have hxb1:xB (ee α j) rows.length (d+1)≤1099511627700:=Nat.le_trans (Dc X) hz3
   have hxb2:xB (ee α j) rows.length (d+1)=xB (ee α j) rows.length d+suB (ee α j) (xB (ee α j) rows.length d) rows.length+ee α j:=rfl
   have hst:=fun sv T cap=>Df (sv:=sv) (T:=T) (cap:=cap) (r:=r) (n:=rows.length) (k:=Q.length) (d:=d) (B:=B) (rows:=rows)
   refine js (t:=17) (ψ:=one (.int .i64 ((Q.length - 1 - d:Nat):Int))) Y (ar (by congr 1;omega)) ?_
   have hmk:Q.length - 1 - d<Q.length:=by omega
   have hmd:((Q.length - 1 - d:Nat):Int) - 1=(Q.length:Int) - 1 - ((d+1:Nat):Int):=by omega
   generalize Q.length - 1 - d=m at *
   have hsq:=sG (n:=rows.length) (rows:=rows) (f:=bp (B m) rows.length) hq hxq
   refine ae (ae (ai (FI Y (FH (sT X (eu Y Y)) (FL (aa (aD Y (aw (aa ?_)))))))))
   refine ae (au (ae ?_))
   refine eh a4 Z Z ?_
   refine ux (fun B=>ab Y) Y Y ?_
   refine ux (fun B=>ab Y) Y Y ?_
   refine ux (fun B=>aq Y Y X) Y Y ?_
   refine ux (fun B=>bg 0 Y Y X) Y Y ?_
   refine ux (fun B=>ab Y) Y Y ?_
   refine uxk (hfi) Y ⟨S,S,FM⟩ Y ?_
   refine ux (fun B=>ab Y) Y Y ?_
   refine ux (fun B=>ab Y) Y Y ?_
   refine ux (fun B=>aq Y Y X) Y Y ?_
   refine ux (fun B=>bg 0 Y Y X) Y Y ?_
   refine ux (fun B=>ab Y) Y Y ?_
   refine ux (fun B=>aC Y Y X) Y Y ?_
   refine ux (fun B=>aN Y) Y Y ?_
   refine ua Y ?_
   refine ux (fun B=>ah Y) Y Y ?_
   refine us Y ?_
   refine RunU.nil (fun γ => ?_)
   refine cR (M' := [_,_,_,_,_]) Y (aa (ae (ae (ai (FJ Y (FL (aa (au (cf (Γ' := [(7,_),(9,_),(10,_),(11,_),(17,_),(18,_),(19,_),(20,_)]) FC (SubM.refl _) ?_)))))))))
   refine bk (σ:=Nat) (Γk := [(7,_),(9,_),(10,_),(11,_),(17,_),(18,_),(19,_)]) FC (fun t => [(20,one (.int .i64 (t:Nat)))]) (fun t M0=>(M0.set 0 (aX (γ 19) 58 4 [(0, .agg 4,cj (l6 (B m) rows.length (xQ rows.length B rows Q.length d) rows (bp (B m) rows.length) t))]))) (fun t=>t≤rows.length) (fun t=>rows.length - t) (0) (Nat.zero_le _) FD (.keep FG (.keep FG (.keep FG (.keep FG (.keep FG (.nil)))))) (fun t ht => ?_)
   refine bI (Γ' := [(20,_),(7,_),(9,_),(10,_),(11,_),(17,_),(18,_),(19,_)]) (M' := [_,_,_,_,_]) Y Y ?_
   by_cases ht:t<rows.length
   ·have htr:=hrm t ht
    have hs1:suB (ee α j) (xB (ee α j) rows.length d) (t+1)≤1099511627700:=by
     have:=Bz (β:=ee α j) (x:=xB (ee α j) rows.length d) (show t+1≤rows.length from ht)
     omega
    have hs2:suB (ee α j) (xB (ee α j) rows.length d) (t+1)=suB (ee α j) (xB (ee α j) rows.length d) t+(ee α j+xB (ee α j) rows.length d)+1:=rfl
    have hss:l6 (B m) rows.length (xQ rows.length B rows Q.length d) rows (bp (B m) rows.length) (t+1)=if t=bp (B m) rows.length then l6 (B m) rows.length (xQ rows.length B rows Q.length d) rows (bp (B m) rows.length) t else l6 (B m) rows.length (xQ rows.length B rows Q.length d) rows (bp (B m) rows.length) t - B m t*xQ rows.length B rows Q.length d (rows.getD t 0):=rfl
    by_cases hte:t=bp (B m) rows.length
    ·rw [if_pos hte] at hss
     refine ae (ae (ai (FI Y (FI Y (FH (sT X (a6 Y Y)) (FL (aa (aD Y (aw ?_)))))))))
     refine aa (ae (au (ae (ai (FI Y (FI Y (FH (sF X (dj Y Y)) (FL (aa ?_)))))))))
     refine aA Y (aw (aF (aa (ai (FI Y (FH (bC _ 1 Y Y X) (FJ Y (FL ?_))))))))
     refine aK (t+1) (ht) X FD (.keep (hss▸Own.le_refl _) (.keep FG (.keep FG (.keep FG (.keep FG (.nil))))))
    ·rw [if_neg hte] at hss
     have hmul:=mV (B m t) (xQ rows.length B rows Q.length d (rows.getD t 0)) _ _ (hq t) (hxq _) X
     have hsub:=pY (l6 (B m) rows.length (xQ rows.length B rows Q.length d) rows (bp (B m) rows.length) t) (B m t*xQ rows.length B rows Q.length d (rows.getD t 0)) _ _ (hsq t) (nG (hq t) (hxq _)) X
     refine ae (ae (ai (FI Y (FI Y (FH (sT X (a6 Y Y)) (FL (aa (aD Y (aw ?_)))))))))
     refine aa (ae (au (ae (ai (FI Y (FI Y (FH (sT X (dj Y Y)) (FL (aa ?_)))))))))
     refine aD Y (be 17 a4 Z U (FH (ak 0 Y Y Y) (FI Y (FI Y (FH (aq Y Y X) (FH (bg 1 Y Y X) (FI Y (FH (aC Y Y X) (FH (aN Y) ?_)))))))))
     refine FI Y (FI Y (FI Y (FH (aC Y Y X) (FH (aN Y) (FH (aq Y Y X) (FH (bg 2 Y Y X) ?_))))))
     refine FH (am (hmul) Y ⟨S,S,FM⟩) ?_
     refine FH (am (hsub) Y ⟨S,S,FM⟩) ?_
     refine FL (aB 0 Y Y Y Y Y (leN Y) Y (FL (aF (aa (ai (FI Y (FH (bC _ 1 Y Y X) (FJ Y (FL ?_)))))))))
     refine aK (t+1) (ht) X FD (.keep (hss▸Own.le_refl _) (.keep FG (.keep FG (.keep FG (.keep FG (.nil))))))
   ·have hte:t=rows.length:=by omega
    subst hte
    have hov:=ii (l6 (B m) rows.length (xQ rows.length B rows Q.length d) rows (bp (B m) rows.length) rows.length) (B m (bp (B m) rows.length)) _ _ (hsq _) (hq _) X hne
    refine ae (ae (ai (FI Y (FI Y (FH (sF X (a6 Y Y)) (FL (aa (aA Y (aV ?_)))))))))
    refine av (av (aE (aa (be 14 a4 Z U (FI Y (FI Y (FI Y (FH (aC Y Y X) (FH (aN Y) ?_)))))))))
    refine FH (ak 0 Y Y Y) (FI Y (FI Y (FH (aq Y Y X) (FH (bg 1 Y Y X) (FI Y (FH (aC Y Y X) (FH (aN Y) ?_)))))))
    refine FH (am (hov) Y ⟨S,S,FM⟩) ?_
    refine FL (FH (aq Y Y X) ?_)
    (refine az 2 Y Y Y ?_ Y ?_;omega)
    refine FL (aF (aa (ai (FI Y (FH (d4 Y Y (aR X X)) (FJ Y (FL ?_)))))))
    refine aK (d+1) (hd) X FD (.drop (.keep FG (.keep (hst _ _ _) (.keep FG (.keep FG (.nil))))))
  ·have hde:d=Q.length:=by omega
   subst hde
   refine ae (ae (ai (FI Y (FH (sF X (eu Y Y)) (FL (aa (aA Y (aV (av ?_)))))))))
   refine av (aE (aa (ae (ai (FI Y (FJ Y (FJ Y (FJ Y (FL ?_)))))))))
   refine aa (aG (bZ (t:=4) (i:=1) Y Y ?_))
   refine f9 Tryz.results61 (.tmp Y S) (.tmp Y (ey)) (.tmp Y S)
end Tor
end
section
namespace Tor
open Go Go.RowKit Go.Proofs
theorem Fu : ∀ n,n≤4→rdB 2 n≤1099511627700:=by decide +kernel
theorem rn (n:Nat) (F:Nat→Nat→Int) (hn:n≤4) (hF : ∀ i j,(F i j).natAbs≤34359738368):Ok Tryz.prog 20 [bO n n F] (aO (Lin.bK n F)):=vR n F 2 X U (fun i j=>nN (hF i j)) (Fu n hn)
def jp (r c m:Nat) (k:Int) (F:Nat→Nat→Int):Int:=if r=c∧m=c then if k<0∨64<k then 1 else if Lin.bK r F=0 then 110 else 0 else 50
attribute [local irreducible] J PJ aM one slT bW bH bj exT cn eP aX aH slV VT.le Ret bP xO
attribute [local irreducible] aO
theorem eU (r c m:Nat) (k:Int) (F:Nat→Nat→Int) (b:Nat→Int) (hn:r≤4) (hF : ∀ i j,(F i j).natAbs≤34359738368):Ok Tryz.prog 19 [bO r c F,bw m b,one (.int .i64 k)] (one (.int .i64 (jp r c m k F))):=by
 have hva:=rn r F hn hF
 unfold bO bw at *
 unfold jp
 refine Ok.enter Tryz.func19 Y Tryz.ntmps19 Y (fun w O => ?_)
 by_cases h1:r=c
 ·subst h1
  by_cases h2:m=r
  ·rw [if_pos ⟨rfl,h2⟩]
   by_cases h3:k<0
   ·rw [if_pos (.inl h3)]
    refine ae (ai ?_)
    refine aQ Y Y (ltN Y) (fun b3 => ?_)
    refine FJ Y (FL (aa (ae (ae (ai (FH (aj Y) (FH (ak 0 Y Y Y) (FH (aj Y) (FH (ak 0 Y Y Y) ?_)))))))))
    refine FH (sF X (dj Y Y)) (FI Y (FK (ab Y) (FK (aY Y) (FK (aj Y) (FK (ak 0 Y Y Y) (FK (sF X (dj Y Y)) (FH (bG Y Y) (FL (aa ?_)))))))))
    refine aA Y (aw (aa (ae (ae (ai (FI Y (FH (sT (by assumption) (a6 Y Y)) (FI Y (sn0 Y Y Y Y Y ?_)))))))))
    refine sn0 Y Y Y Y Y (FH (a5 Y Y) (FL (aa (aD Y (ae (ai (FJ Y (FL (aa ?_)))))))))
    refine aG (aS ?_)
    refine aT Tryz.results19 (.tmp Y S)
   ·by_cases h4:64<k
    ·rw [if_pos (.inr h4)]
     refine ae (ai ?_)
     refine aQ Y Y (ltN Y) (fun b3 => ?_)
     refine FJ Y (FL (aa (ae (ae (ai (FH (aj Y) (FH (ak 0 Y Y Y) (FH (aj Y) (FH (ak 0 Y Y Y) ?_)))))))))
     refine FH (sF X (dj Y Y)) (FI Y (FK (ab Y) (FK (aY Y) (FK (aj Y) (FK (ak 0 Y Y Y) (FK (sF X (dj Y Y)) (FH (bG Y Y) (FL (aa ?_)))))))))
     refine aA Y (aw (aa (ae (ae (ai (FI Y (FH (sF (by assumption) (a6 Y Y)) (FI Y (FK (ab Y) ?_)))))))))
     refine FK (sT (by assumption) (cU Y Y)) (FH (bG Y Y) (FL (aa (aD Y (ae (ai (FJ Y (FL (aa ?_)))))))))
     refine aG (aS ?_)
     refine aT Tryz.results19 (.tmp Y S)
    ·rw [if_neg X]
     have hsz:=dY (Lin.bK r F)
     have hsg:=eo (Lin.bK r F)
     by_cases h5:Lin.bK r F=0
     ·rw [if_pos h5]
      have h6:=hsz.2 h5
      refine ae (ai ?_)
      refine aQ Y Y (ltN Y) (fun b3 => ?_)
      refine FJ Y (FL (aa (ae (ae (ai (FH (aj Y) (FH (ak 0 Y Y Y) (FH (aj Y) (FH (ak 0 Y Y Y) ?_)))))))))
      refine FH (sF X (dj Y Y)) (FI Y (FK (ab Y) (FK (aY Y) (FK (aj Y) (FK (ak 0 Y Y Y) (FK (sF X (dj Y Y)) (FH (bG Y Y) (FL (aa ?_)))))))))
      refine aA Y (aw (aa (ae (ae (ai (FI Y (FH (sF (by assumption) (a6 Y Y)) (FI Y (FK (ab Y) ?_)))))))))
      refine FK (sF (by assumption) (cU Y Y)) (FH (bG Y Y) (FL (aa (aA Y (aw (aa (ae (ae (ai ?_)))))))))
      refine FH (aI 0 Y Y) ?_
      refine FH (am (hva) Y ⟨S,FM⟩) ?_
      refine FH (am (hsg) Y ⟨S,FM⟩) ?_
      refine FH (sT (by assumption) (bV Y Y)) (FL (aa (aD Y (ae (ai (FJ Y (FL (aa (aG ?_)))))))))
      refine aS ?_
      refine aT Tryz.results19 (.tmp Y S)
     ·rw [if_neg h5]
      have h6:dn (Lin.bK r F)≠0:=fun e=>h5 (hsz.1 e)
      refine ae (ai ?_)
      refine aQ Y Y (ltN Y) (fun b3 => ?_)
      refine FJ Y (FL (aa (ae (ae (ai (FH (aj Y) (FH (ak 0 Y Y Y) (FH (aj Y) (FH (ak 0 Y Y Y) ?_)))))))))
      refine FH (sF X (dj Y Y)) (FI Y (FK (ab Y) (FK (aY Y) (FK (aj Y) (FK (ak 0 Y Y Y) (FK (sF X (dj Y Y)) (FH (bG Y Y) (FL (aa ?_)))))))))
      refine aA Y (aw (aa (ae (ae (ai (FI Y (FH (sF (by assumption) (a6 Y Y)) (FI Y (FK (ab Y) ?_)))))))))
      refine FK (sF (by assumption) (cU Y Y)) (FH (bG Y Y) (FL (aa (aA Y (aw (aa (ae (ae (ai ?_)))))))))
      refine FH (aI 0 Y Y) ?_
      refine FH (am (hva) Y ⟨S,FM⟩) ?_
      refine FH (am (hsg) Y ⟨S,FM⟩) ?_
      refine FH (sF (by assumption) (bV Y Y)) (FL (aa (aA Y (aw (aa (ae (ai (FJ Y (FL ?_)))))))))
      refine aa (aG ?_)
      refine aT Tryz.results19 (.tmp Y S)
  ·rw [if_neg (fun h=>h2 h.2)]
   refine ae (ai ?_)
   refine aQ Y Y (ltN Y) (fun b3 => ?_)
   refine FJ Y (FL (aa (ae (ae (ai (FH (aj Y) (FH (ak 0 Y Y Y) (FH (aj Y) (FH (ak 0 Y Y Y) ?_)))))))))
   refine FH (sF X (dj Y Y)) (FI Y (FK (ab Y) (FK (aY Y) (FK (aj Y) (FK (ak 0 Y Y Y) (FK (sT X (dj Y Y)) (FH (bG Y Y) (FL (aa ?_)))))))))
   refine aD Y (ae (ai (FJ Y (FL (aa (aG (aS ?_)))))))
   refine aT Tryz.results19 (.tmp Y S)
 ·rw [if_neg (fun h=>h1 h.1)]
  refine ae (ai ?_)
  refine aQ Y Y (ltN Y) (fun b3 => ?_)
  refine FJ Y (FL (aa (ae (ae (ai (FH (aj Y) (FH (ak 0 Y Y Y) (FH (aj Y) (FH (ak 0 Y Y Y) ?_)))))))))
  refine FH (sT X (dj Y Y)) (FI Y (sn0 Y Y Y Y Y (sn0 Y Y Y Y Y (sn0 Y Y Y Y Y (sn0 Y Y Y Y Y (sn0 Y Y Y Y Y (FH (a5 Y Y) (FL (aa ?_)))))))))
  refine aD Y (ae (ai (FJ Y (FL (aa (aG (aS ?_)))))))
  refine aT Tryz.results19 (.tmp Y S)
theorem ro : ∀ k,k≤17→iM ep (2147483630+k)=2147483629
 | 0, _ => by
  show iM ep (2147483629+1)=_
  rw [iM,if_pos (by rw [← lm U U]; exact gu)]
 | k + 1, h => by
  have h1:=List.all_eq_true.1 uE k (List.mem_range.2 X)
  rw [← Nat.add_assoc,iM, ← lm X X,kE X,if_neg (by simpa using h1)]
  exact ro k X
theorem Dg:bf ep 2147483648=2147483647:=by
 show iM ep (2147483647+1)=_
 rw [iM,if_pos (by rw [← lm U U]; exact gr)]
theorem Dh:bf ep 2147483647=2147483629:=ro 17 U
theorem uH (n:Nat) (F:Nat→Nat→Int) (hn:n≤4) (hF : ∀ i j,(F i j).natAbs≤34359738368) (hs:c8 (Lin.bK n F)) (hg:lD (Lin.bK n F)):Ok Tryz.prog 62 [bO n n F] (one (.int .u64 (eS (Lin.bK n F):Nat))):=by
 have hva:=rn n F hn hF
 generalize Lin.bK n F=d at *
 have hb1:=n6 2147483648 U
 have hb2:=n6 2147483647 U
 rw [Dg] at hb1
 rw [Dh] at hb2
 have hr1:=i7 2147483647 d U U hs
 have hr2:=i7 2147483629 d U U hs
 unfold eS
 unfold bO at *
 refine Ok.enter Tryz.func62 Y Tryz.ntmps62 Y (fun w O => ?_)
 refine ae (ai ?_)
 refine aQ Y Y (ltN Y) (fun b1 => ?_)
 refine FJ Y (FL (aa (ae (ai (FH (aI 0 Y Y) ?_)))))
 refine FH (am (hva) Y ⟨S,FM⟩) ?_
 refine FH (am (hb1) Y ⟨S,FM⟩) ?_
 refine aJ (T:=37) Y (ltN Y) (fun b3 => ?_)
 refine aB 0 Y Y Y Y Y (leN Y) Y (FJ Y (FL (aa (ae (au (cf (Γ' := [(2,_),(3,_),(4,_)]) FC (SubM.refl _) ?_))))))
 refine bk (σ:=Nat) (Γk := [(2,_),(3,_)]) FC (fun s => [(4,one (.int .u64 (s:Nat)))]) (fun s M0=>M0) (fun s=>s=2147483647∨(s=2147483629∧d % 2147483647=0)) (fun s=>s) (2147483647) (.inl Y) FD (.keep FG (.keep FG (.nil))) (fun s hs => ?_)
 refine bI (Γ' := [(4,_),(2,_),(3,_)]) (M' := [_,_]) Y Y ?_
 rcases hs with rfl | ⟨rfl,h1⟩
 ·by_cases h1:d % 2147483647=0
  ·rw [if_pos h1]
   rw [show d % ((2147483647:Nat):Int)=0 from h1] at hr1
   refine ae (ae (ai (FI Y (FH (ak 0 Y Y Y) ?_))))
   refine FH (am (hr1) Y ⟨S,S,FM⟩) ?_
   refine FH (sT X (bV Y Y)) (FL (aa (aD Y (aw (aa (au (ai (FI Y ?_))))))))
   refine FH (am (hb2) Y ⟨S,FM⟩) ?_
   refine FJ Y (FL (aF ?_))
   refine aK (2147483629) (.inr ⟨rfl,h1⟩) U FD (.keep FG (.keep FG (.nil)))
  ·rw [if_neg h1]
   have h2:(d % ((2147483647:Nat):Int)).toNat≠0:=by omega
   refine ae (ae (ai (FI Y (FH (ak 0 Y Y Y) ?_))))
   refine FH (am (hr1) Y ⟨S,S,FM⟩) ?_
   refine FH (sF X (bV Y Y)) (FL (aa (aA Y (aV (av (av (aE (aa (ae ?_)))))))))
   refine ai (FI Y (FJ Y (FL (aa (aG ?_)))))
   refine aT Tryz.results62 (.tmp Y S)
 ·rw [if_pos h1]
  have h3:=hg h1
  have h2:(d % ((2147483629:Nat):Int)).toNat≠0:=by omega
  refine ae (ae (ai (FI Y (FH (ak 0 Y Y Y) ?_))))
  refine FH (am (hr2) Y ⟨S,S,FM⟩) ?_
  refine FH (sF X (bV Y Y)) (FL (aa (aA Y (aV (av (av (aE (aa (ae ?_)))))))))
  refine ai (FI Y (FJ Y (FL (aa (aG ?_)))))
  refine aT Tryz.results62 (.tmp Y S)
def dgR (p:Nat) (q:Rat):Nat:=(q.num % (p:Int)).toNat*((q.den % p)^(p - 2) % p) % p
theorem uI (p:Nat) (q:Rat) (hp2:2≤p) (hp:p<2147483648) (hn:c8 q.num) (hd:c8 (q.den:Int)) (h0:q.den % p≠0):Ok Tryz.prog 63 [one (.int .u64 (p:Nat)),cj q] (one (.int .u64 (dgR p q:Nat))):=by
 have hr1:=i7 p q.num X hp hn
 have hr2:=i7 p (q.den:Int) X hp hd
 rw [show ((q.den:Int) % (p:Int)).toNat=q.den % p by rw [← Int.natCast_emod]; rfl] at hr2
 have hlt:q.den % p<p:=Nat.mod_lt _ X
 have hlt2:(q.den % p)^(p - 2) % p<p:=Nat.mod_lt _ X
 have hlt3:(q.num % (p:Int)).toNat<p:=by
  have:=Int.emod_nonneg q.num (show (p:Int)≠0 by omega)
  have:=Int.emod_lt_of_pos q.num (show 0<(p:Int) by omega)
  omega
 have hi:=Af p (q.den % p) hp2 X h0 hlt
 have hm:=pE p (q.num % (p:Int)).toNat ((q.den % p)^(p - 2) % p) X X X X
 unfold dgR cj dN
 refine Ok.enter Tryz.func63 Y Tryz.ntmps63 Y (fun w O => ?_)
 refine ae (ai ?_)
 refine aQ Y Y (ltN Y) (fun b3 => ?_)
 refine FJ Y (FL (aa (ae (ai (FI Y (FI Y (FH (aj Y) (FH (ak 0 Y Y Y) ?_))))))))
 refine FH (am (hr2) Y ⟨S,S,FM⟩) ?_
 refine FH (am (hi) Y ⟨S,S,FM⟩) ?_
 refine FI Y (FH (an Y Y) (FH (an Y Y) (FJ Y (FJ Y (FL (aa (ae (ai (FI Y ?_)))))))))
 refine FI Y (FH (aj Y) (FH (ak 0 Y Y Y) ?_))
 refine FH (am (hr1) Y ⟨S,S,FM⟩) ?_
 refine FI Y ?_
 refine FH (am (hm) Y ⟨S,S,S,FM⟩) ?_
 refine FJ Y (FL (aa (aG ?_)))
 refine aT Tryz.results63 (.tmp Y S)
theorem Di {n:Nat} {f:Nat→Int} {l:List Int} (h : ∀ j,j<n→f j=l.getD j 0) (hn:n=l.length):VT.le (bw n f) (bw l.length (fun j=>l.getD j 0)):=by
 subst hn
 exact dE fun j hj=>by rw [h j hj]; exact VT.le_refl _
theorem jg (l:List Int) (hl:l.length≤1048576) (h:(l.all fun x=>decide (-9223372036854775808≤x) && decide (x≤9223372036854775807))=true):Ok Tryz.prog 44 [gZ .i64 l] (bw l.length (fun j=>l.getD j 0)):=by
 have hi:=lj 1 l.length l U hl h
 unfold IN bO gZ at *
 refine Ok.enter Tryz.func44 Y Tryz.ntmps44 Y (fun w O => ?_)
 refine ae (ai (FJ Y (FL (aa (ae (ai (FI Y (FH (aY Y) (FI Y ?_)))))))))
 refine FH (am (hi) Y ⟨S,S,S,FM⟩) ?_
 refine FH (v8 Y Y) (FH (aC Y Y U) (FH (aN Y) (FJ Y (FL (aa (aG ?_))))))
 refine aT Tryz.results44 (.tmp Y (Di (fun j hj=>by unfold fl;rw [Nat.zero_mul,Nat.zero_add]) Y))
theorem v5 (n:Nat) (f:Nat→Int):Ok Tryz.prog 65 [bw n f,bw n f] (one (.bool true)):=by
 have h:=tQ ((List.range n).map f) ((List.range n).map f)
 rw [decide_eq_true Y] at h
 exact h.le ⟨pF n f,pF n f,FM⟩ S
theorem j7 (n l:Nat) (f g:Nat→Nat→Int) (hl:l≤1048576) (h : ∀ i j,i<l→j<n→f i j=g i j):Ok Tryz.prog 18 [slT .one l (fun i=>bw n (f i)),slT .one l (fun i=>bw n (g i))] (one (.bool true)):=by
 have hv : ∀ i,i<l→Ok Tryz.prog 65 [bw n (f i),bw n (g i)] (one (.bool true)):=fun i hi=>(v5 n (g i)).le ⟨dE fun j hj=>by rw [h i j hi hj]; exact VT.le_refl _,S,FM⟩ S
 refine Ok.enter Tryz.func18 Y Tryz.ntmps18 Y (fun w O => ?_)
 refine ae (ai (FJ Y (FL (aa (ae (ae (ai (FI Y (FH (aY Y) ?_)))))))))
 refine FI Y (FH (aY Y) (FH (sF X (dj Y Y)) (FL (aa (aA Y (aw (aa (ae (ae ?_)))))))))
 refine ai (FJ Y (FL (aa (au (cf (Γ' := [(0,_),(1,_),(4,_),(5,_)]) FC (SubM.refl _) ?_)))))
 refine bk (σ:=Nat) (Γk := [(0,_),(1,_)]) FC (fun i => [(5,one (.int .i64 (i:Nat)))]) (fun i M0=>M0) (fun i=>i≤l) (fun i=>l - i) (0) (Nat.zero_le _) FD (.nil) (fun i hi => ?_)
 refine bI (Γ' := [(5,_),(0,_),(1,_)]) (M' := []) Y Y ?_
 by_cases hi2:i<l
 ·have hvi:=hv i hi2
  refine ae (ae (ai (FI Y (FI Y (FH (aY Y) (FH (sT X (a6 Y Y)) (FL (aa (aD Y ?_)))))))))
  refine aw (aa (ae (au (ae (be 10 a4 Z U (FI Y (FI Y (FH (aC Y Y X) (FH (aN Y) ?_)))))))))
  refine FI Y (FI Y (FH (aC Y Y X) (FH (aN Y) ?_)))
  refine FH (am (hv _ (by assumption)) Y ⟨S,S,FM⟩) ?_
  refine FH (dk Y) (FL (FL (aa (aA Y (aw (aF (aa (ai (FI Y ?_)))))))))
  refine FH (bC _ 1 Y Y X) (FJ Y (FL ?_))
  refine aK (i+1) X X FD (.nil)
 ·refine ae (ae (ai (FI Y (FI Y (FH (aY Y) (FH (sF X (a6 Y Y)) (FL (aa (aA Y ?_)))))))))
  refine aV (av (av (aE (aa (ae (ai (FJ Y (FL (aa ?_)))))))))
  refine aG ?_
  refine aT Tryz.results18 (.tmp Y S)
end Tor
end
section
namespace Tor
open Go Go.RowKit Go.Proofs
theorem uJ {c d:Int} : Rat.divInt c d=(c:Rat) / (d:Rat):=Rat.divInt_eq_div c d
theorem oG {n j:Nat} {F G:Nat→Nat→Int} {b:Nat→Int} (h:AdjI n F G (Lin.bK n F)) (hd:Lin.bK n F≠0) (hj:j<n):m4 n F b j=(crB n b G j:Rat) / (Lin.bK n F:Rat):=by
 unfold m4;rw [uJ,xd h hd hj]
theorem BA {n k:Nat} {F:Nat→Nat→Int} {b:Nat→Int} (hd:Lin.bK n F≠0) (hk:k<n):Lin.sm n (fun i=>m4 n F b i*(F i k:Rat))=(b k:Rat):=by
 obtain ⟨G,h⟩:=l3 n F
 have h0:(Lin.bK n F:Rat)≠0:=fun e=>hd (Rat.intCast_eq_zero_iff.1 e)
 have h1:=congrArg (fun z:Int=>(z:Rat)) (xc (b:=b) h hk)
 rw [iK,Rat.intCast_mul] at h1
 rw [Lin.aU (g:=fun i=>((crB n b G i*F i k:Int):Rat)*(1 / (Lin.bK n F:Rat))) (fun i hi=>by rw [oG h hd hi,Rat.intCast_mul]; grind),Lin.dR,h1]
 grind
theorem yV {n:Nat} {F:Nat→Nat→Int} {b:Nat→Int} {x:Nat→Rat} (hd:Lin.bK n F≠0) (hx : ∀ k,k<n→Lin.sm n (fun i=>x i*(F i k:Rat))=(b k:Rat)) {j:Nat} (hj:j<n):x j=m4 n F b j:=by
 obtain ⟨G,h⟩:=l3 n F
 have h0:(Lin.bK n F:Rat)≠0:=fun e=>hd (Rat.intCast_eq_zero_iff.1 e)
 have h1:Lin.sm n (fun k=>(b k:Rat)*(G k j:Rat))=(crB n b G j:Rat):=by
  unfold crB;rw [iK]; exact Lin.aU fun k _=>by rw [Rat.intCast_mul]
 have h2:Lin.sm n (fun k=>Lin.sm n (fun i=>x i*(F i k:Rat))*(G k j:Rat))=Lin.sm n (fun i=>x i*Lin.sm n (fun k=>(F i k:Rat)*(G k j:Rat))):=by
  rw [Lin.aU (g:=fun k=>Lin.sm n (fun i=>x i*((F i k:Rat)*(G k j:Rat)))) (fun k _=>by rw [← Lin.dR]; exact Lin.aU fun i _=>by grind),Lin.gV]
  exact Lin.aU fun i _=>by rw [Lin.oz]
 rw [Lin.aU (f:=fun k=>Lin.sm n (fun i=>x i*(F i k:Rat))*(G k j:Rat)) (g:=fun k=>(b k:Rat)*(G k j:Rat)) (fun k hk=>by rw [hx k hk]),h1,
  Lin.aU (f:=fun i=>x i*Lin.sm n (fun k=>(F i k:Rat)*(G k j:Rat))) (g:=fun i=>if i=j then x i*(Lin.bK n F:Rat) else 0) (fun i hi=>by
   have e:Lin.sm n (fun k=>(F i k:Rat)*(G k j:Rat))=((if i=j then Lin.bK n F else 0:Int):Rat):=by
    rw [← h.fg i j hi hj,iK]; exact Lin.aU fun k _=>by rw [Rat.intCast_mul]
   rw [e]
   split
   ·rfl
   ·rw [Rat.intCast_zero,Rat.mul_zero]),Lin.jL hj] at h2
 rw [oG h hd hj,h2]
 grind
theorem lf {n:Nat} {F:Nat→Nat→Int} (hd:Lin.bK n F≠0):Lin.jn n n (fun i j=>F j i) n=List.range n:=by
 have h1 : ¬ (Lin.jn n n (fun i j=>F j i) n).length<n:=fun h=>hd (Fg.1 h)
 have h2:(Lin.jn n n (fun i j=>F j i) n).Sublist (List.range n):=by unfold Lin.jn;exact List.filter_sublist
 refine h2.eq_of_length ?_
 have:=h2.length_le
 rw [List.length_range] at this ⊢
 omega
theorem BB {r:Nat} (h:r≤5):ee 1 r≤1099511627700:=Nat.le_trans (li h) H
theorem Fv : ∀ c,c≤4 → ∀ n,n≤4→xB (ee 1 c) n (c+1)≤1099511627700:=by decide +kernel
theorem ER : ∀ k,k≤4→2*iP 1 (ee 1 k) k≤1099511627700:=by decide +kernel
theorem yW (n:Nat) (F:Nat→Nat→Int) (b:Nat→Int) (hn:n≤4) (hF : ∀ i j,lz 1 (F i j)) (hb : ∀ j,lz 1 (b j)) (hd:Lin.bK n F≠0):Ok Tryz.prog 61 [bO n n F,bw n b] (bj [cN n (m4 n F b),cN 0 (fun _=>0),one (.bool true)]):=by
 have hnew:=lf hd
 have hget : ∀ i,i<n→(List.range n).getD i 0=i:=fun i hi=>by simp [List.getD,hi]
 have hall : ∀ j,j<n→jf (List.range n).length (cu (List.range n).length n F b (List.range n)) j:=fun j hj=>Db (x:=fun p=>m4 n F b p) (fun k hk=>by
  rw [← BA hd hk,List.length_range]
  exact Lin.aU fun i hi=>by rw [hget i hi]) hj
 have h:=vZ true 0 n n F b 1 (List.range n) (hnew▸yU (Nat.le_refl n)) X X U hF hb (BB X) (BB X) (Fv n hn _ (by rw [List.length_range]; exact hn)) (fun k hk=>ER k X) (by rw [List.length_range]; exact Nat.le_refl n)
  (fun i hi=>by rw [List.length_range] at hi;rw [hget i hi]; exact hi) ⟨fun _=>hall,fun _=>rfl⟩ (fun j hj hc=>absurd (hall j hj) hc)
 rw [if_pos Y] at h
 refine h.le ⟨S,S,FM⟩ ?_
 have hX:=fun j hj=>EQ (r:=n) (b:=b) (List.pairwise_lt_range) (fun i hi=>List.mem_range.1 hi) hall (j:=j) hj
 rintro v g ⟨vs,e,hp⟩
 refine ⟨vs,e,?_⟩
 match vs,hp with
 | [x, y, z], ⟨h1, h2, h3, _⟩ => exact ⟨w9 (fun i hi => yV hd hX hi) _ _ h1, h2, h3, trivial⟩
attribute [local irreducible] J PJ aM one slT bW bH bj exT cn eP aX aH slV VT.le Ret bP xO
attribute [local irreducible] aO cj
theorem oa (n:Nat) (F:Nat→Nat→Int) (b:Nat→Int) (hn:n≤4) (hF : ∀ i j,lz 1 (F i j)) (hb : ∀ j,lz 1 (b j)) (hd:Lin.bK n F≠0) (hF' : ∀ i j,(F i j).natAbs≤34359738368):Ok Tryz.prog 14 [bO n n F,bw n b] (bj [cN n (m4 n F b),one (.int .i64 0)]):=by
 have hs:=yW n F b hn hF hb hd
 have hc:=eU n n n 0 F b hn hF'
 unfold jp at hc
 rw [if_pos ⟨rfl,rfl⟩,if_neg U,if_neg hd] at hc
 refine Ok.enter Tryz.func14 Y Tryz.ntmps14 Y (fun w O => ?_)
 refine ae (ai ?_)
 refine aQ Y Y (ltN Y) (fun b2 => ?_)
 refine FJ Y (FJ Y (FL (aa (ae (ai (FH (aI 0 Y Y) (FI Y ?_)))))))
 refine FH (am (hc) Y ⟨S,S,S,FM⟩) ?_
 refine FJ Y (FL (aa (ae (ae (ai (FI Y (FH (sF X (dj Y Y)) (FL (aa ?_)))))))))
 refine aA Y (aw (aa (ae (ai (FH (aI 0 Y Y) (FI Y ?_))))))
 refine FH (am (hs) Y ⟨S,S,FM⟩) ?_
 refine FI Y (FH (an Y Y) (FH (an Y Y) (FH (an Y Y) (FJ Y (FJ Y (FJ Y (FL (aa (ae ?_)))))))))
 refine ai (FI Y (FJ Y (FJ Y (FL (aa (aG ?_))))))
 refine c9 Tryz.results14 (.tmp Y S) (.tmp Y S)
theorem BC {Fx:Nat→Rat} : VT.le (one (.slice none 0 0)) (cN 0 Fx):=ey
theorem m7 (r c m:Nat) (F:Nat→Nat→Int) (b:Nat→Int) (hn:r≤4) (hF : ∀ i j,(F i j).natAbs≤34359738368) (hc0:jp r c m 0 F≠0):Ok Tryz.prog 14 [bO r c F,bw m b] (bj [cN 0 (fun _=>0),one (.int .i64 (jp r c m 0 F))]):=by
 have hc:=eU r c m 0 F b hn hF
 generalize jp r c m 0 F=e at *
 refine Ok.enter Tryz.func14 Y Tryz.ntmps14 Y (fun w O => ?_)
 refine ae (ai ?_)
 refine aQ Y Y (ltN Y) (fun b2 => ?_)
 refine FJ Y (FJ Y (FL (aa (ae (ai (FH (aI 0 Y Y) (FI Y ?_)))))))
 refine FH (am (hc) Y ⟨S,S,S,FM⟩) ?_
 refine FJ Y (FL (aa (ae (ae (ai (FI Y (FH (sT (by assumption) (dj Y Y)) (FL (aa ?_)))))))))
 refine aD Y (ae (ai (FI Y (FJ Y (FJ Y (FL (aa (aG (aS ?_)))))))))
 refine c9 Tryz.results14 (.tmp Y (BC)) (.tmp Y S)
end Tor
end
section
namespace Tor
open Go Go.RowKit Go.Proofs
def fy (p n:Nat) (F:Nat→Nat→Int) (b:Nat→Int):Nat→Nat→Rat
 | 0 => m4 n F b
 | k + 1 => fun j => (fy p n F b k j - (((dgR p (fy p n F b k j) : Nat) : Int) : Rat)) / ((p : Int) : Rat)
theorem Dj {n:Nat} {b c:Nat→Int} {G:Nat→Nat→Int} {m:Int} (j:Nat):crB n (fun i=>b i+m*c i) G j=crB n b G j+m*crB n c G j:=by
 unfold crB
 rw [show (fun i=>(b i+m*c i)*G i j)=fun i=>b i*G i j+m*(c i*G i j) by funext i;rw [Int.add_mul,Int.mul_assoc],g7,dS]
theorem Dk {n j:Nat} {d:Int} {F G:Nat→Nat→Int} {FB:Nat→Int} (h:AdjI n F G d) (hj:j<n):crB n (fun i=>bD n (fun t=>FB t*F t i)) G j=d*FB j:=by
 have h1:=uw (m:=0) (b:=fun i=>bD n (fun t=>FB t*F t i)) (FB:=FB) h (fun i _=>by rw [Int.sub_self]; exact Int.dvd_refl 0) hj
 have:=Int.zero_dvd.1 h1
 omega
theorem uK {p n k j:Nat} {d:Int} {F G:Nat→Nat→Int} {R:Nat→Nat→Nat} {b:Nat→Int} (hp:0<p) (h:AdjI n F G d) (hR:sr p n F R) (hj:j<n) :
  crB n (stR p n F R b k) G j=d*dgs p n R (stR p n F R b k) j+(p:Int)*crB n (stR p n F R b (k+1)) G j:=by
 rw [← Dk (FB:=dgs p n R (stR p n F R b k)) h hj, ← Dj j]
 unfold crB
 exact dO fun i hi=>by rw [ue hp hR k hi]
theorem v6 {p:Nat} {c d:Int} {x:Nat} (hp:Lin.Pr p) (hd : ¬ (p:Int)∣d) (hx:x<p) (hc:(p:Int)∣c - d*x):((c:Rat) / (d:Rat)).den % p≠0∧dgR p ((c:Rat) / (d:Rat))=x:=by
 have hd0:d≠0:=fun e=>hd (e▸Int.dvd_zero _)
 have hp2:=hp.1
 have hden:(((c:Rat) / (d:Rat)).den:Int)∣d:=by
  rw [← Rat.divInt_eq_div,Rat.den_divInt,if_neg hd0]
  exact Int.ofNat_dvd_left.2 (Nat.div_dvd_of_dvd (Nat.gcd_dvd_left _ _))
 have hnum:((c:Rat) / (d:Rat)).num*d=c*((c:Rat) / (d:Rat)).den:=by
  have h1:=Rat.num_divInt_den ((c:Rat) / (d:Rat))
  rw [Rat.divInt_eq_div] at h1
  have hd1:(d:Rat)≠0:=fun e=>hd0 (Rat.intCast_eq_zero_iff.1 e)
  have hq1:((((c:Rat) / (d:Rat)).den:Int):Rat)≠0:=fun e=>f7 _ (Rat.intCast_eq_zero_iff.1 e)
  generalize ((c:Rat) / (d:Rat)).num=a at *
  generalize ((c:Rat) / (d:Rat)).den=e at *
  have h2:(a:Rat)*(d:Rat)=(c:Rat)*((e:Int):Rat):=by
   grind
  rw [← Rat.intCast_mul, ← Rat.intCast_mul] at h2
  exact Rat.intCast_inj.1 h2
 generalize hq:(c:Rat) / (d:Rat)=q at *
 have hdp : ¬ p∣q.den:=fun h=>hd (Int.dvd_trans (Int.natCast_dvd_natCast.2 h) hden)
 have h0:q.den % p≠0:=fun h=>hdp (Nat.dvd_of_mod_eq_zero h)
 refine ⟨h0,?_⟩
 -- the numerator
 have h1:(p:Int)∣d*(q.num - q.den*x):=by
  obtain ⟨t,ht⟩:=hc
  refine ⟨q.den*t,?_⟩
  have e:c*q.den=(d*x+p*t)*q.den:=by rw [← ht]; congr 1;omega
  rw [Int.mul_sub,Int.mul_comm d,hnum,e]
  grind
 have h2:(p:Int)∣q.num - q.den*x:=by
  have h3:=Int.natAbs_dvd_natAbs.2 h1
  rw [Int.natAbs_natCast,Int.natAbs_mul] at h3
  rcases hp.mul h3 with h4 | h4
  ·exact absurd (Int.ofNat_dvd_left.2 h4) hd
  ·exact Int.ofNat_dvd_left.2 h4
 have hinv:=hp.inverse (a:=q.den % p) (fun h=>h0 (Nat.eq_zero_of_dvd_of_lt h (Nat.mod_lt _ X)))
 unfold dgR
 generalize (q.den % p)^(p - 2)=v at *
 have hv:(p:Int)∣((q.den % p:Nat):Int)*(v:Int) - 1:=by
  have h3:=er (q.den % p*v) p
  rw [hinv,Int.natCast_mul] at h3
  exact gw h3
 have hv2:(p:Int)∣(q.den:Int)*(v:Int) - 1:=by
  have h3:=dh (v:Int) (gw (er q.den p))
  exact fY h3 hv
 have hv3:=er v p
 have hn3:(p:Int)∣((q.num % (p:Int)).toNat:Int) - q.num:=by
  rw [Int.toNat_of_nonneg (Int.emod_nonneg _ X)]
  exact ⟨-(q.num / (p:Int)),by have:=Int.mul_ediv_add_emod q.num (p:Int);rw [Int.mul_neg]; omega⟩
 have h5:(p:Int)∣(((q.num % (p:Int)).toNat*(v % p) % p:Nat):Int) - (x:Int):=by
  refine fY (er _ p) ?_
  rw [Int.natCast_mul]
  refine fY (dh _ hn3) ?_
  have h6:=dh q.num hv3
  rw [Int.mul_comm _ q.num,Int.mul_comm _ q.num] at h6
  refine fY h6 ?_
  have h8:=dh (x:Int) hv2
  obtain ⟨s,hs⟩:=Int.dvd_trans h2 (Int.dvd_mul_right _ (v:Int))
  obtain ⟨t,ht⟩:=h8
  exact ⟨s+t,by rw [Int.mul_add, ← hs, ← ht]; grind⟩
 have h9:(q.num % (p:Int)).toNat*(v % p) % p<p:=Nat.mod_lt _ X
 generalize (q.num % (p:Int)).toNat*(v % p) % p=y at *
 obtain ⟨s,hs⟩:=h5
 have h10:s=0:=by
  by_cases h:1≤s
  ·have:=Int.mul_le_mul_of_nonneg_left h (show (0:Int)≤(p:Int) by omega)
   omega
  ·by_cases h':s ≤ -1
   ·have:=Int.mul_le_mul_of_nonneg_left h' (show (0:Int)≤(p:Int) by omega)
    omega
   ·omega
 rw [h10,Int.mul_zero] at hs
 omega
theorem xo {p n:Nat} {F G:Nat→Nat→Int} {R:Nat→Nat→Nat} {b:Nat→Int} (hp:Lin.Pr p) (h:AdjI n F G (Lin.bK n F)) (hd : ¬ (p:Int)∣Lin.bK n F) (hR:sr p n F R) : ∀ k j,j<n →
  fy p n F b k j=(crB n (stR p n F R b k) G j:Rat) / (Lin.bK n F:Rat)∧(fy p n F b k j).den % p≠0∧dgR p (fy p n F b k j)=e7 p n R (stR p n F R b k) n j:=by
 have hd0:Lin.bK n F≠0:=fun e=>hd (e▸Int.dvd_zero _)
 have hp2:=hp.1
 have fin : ∀ k j,j<n→fy p n F b k j=(crB n (stR p n F R b k) G j:Rat) / (Lin.bK n F:Rat)→(fy p n F b k j).den % p≠0∧dgR p (fy p n F b k j)=e7 p n R (stR p n F R b k) n j:=fun k j hj e=>by
  rw [e]
  exact v6 hp hd (jS hp2 n j) ⟨crB n (stR p n F R b (k+1)) G j,by
   have e:crB n (stR p n F R b k) G j=Lin.bK n F*(e7 p n R (stR p n F R b k) n j:Int)+(p:Int)*crB n (stR p n F R b (k+1)) G j:=uK X h hR hj
   omega⟩
 intro k
 induction k with
 | zero => exact fun j hj => ⟨oG h hd0 hj, fin 0 j hj (oG h hd0 hj)⟩
 | succ k ih =>
  intro j hj
  obtain ⟨h1,h2,h3⟩:=ih j hj
  have e:fy p n F b (k+1) j=(crB n (stR p n F R b (k+1)) G j:Rat) / (Lin.bK n F:Rat):=by
   show (fy p n F b k j - (((dgR p (fy p n F b k j):Nat):Int):Rat)) / ((p:Int):Rat)=_
   have h4:=congrArg (fun z:Int=>(z:Rat)) (uK (k:=k) (b:=b) X h hR hj)
   rw [Rat.intCast_add,Rat.intCast_mul,Rat.intCast_mul] at h4
   have hd1:(Lin.bK n F:Rat)≠0:=fun e=>hd0 (Rat.intCast_eq_zero_iff.1 e)
   have hp1:((p:Int):Rat)≠0:=fun e=>by have:=Rat.intCast_eq_zero_iff.1 e;omega
   rw [h3,h1,h4]
   rw [show ((e7 p n R (stR p n F R b k) n j:Nat):Int)=dgs p n R (stR p n F R b k) j from rfl]
   generalize ((dgs p n R (stR p n F R b k) j:Int):Rat)=a at *
   generalize (crB n (stR p n F R b (k+1)) G j:Rat)=c at *
   generalize (Lin.bK n F:Rat)=d at *
   generalize ((p:Int):Rat)=q at *
   grind
  exact ⟨e,fin (k+1) j hj e⟩
end Tor
end
section
namespace Tor
open Go Go.RowKit Go.Proofs
theorem sH {x:Nat} (h:x<2147483648):lz 1 (x:Int):=cw (k:=1) (by rw [Int.natAbs_natCast]; omega)
theorem xp {p n:Nat} {F:Nat→Nat→Int} {b:Nat→Int} (hp2:2≤p) (hp:p<2147483648) (h0 : ∀ j,j<n→qz 12 (m4 n F b j)) : ∀ k j,j<n→qz (12+3*k) (fy p n F b k j)
 | 0, j, hj => h0 j hj
 | k + 1, j, hj => by
  have ih:=xp hp2 hp h0 k j hj
  have hlt:dgR p (fy p n F b k j)<p:=Nat.mod_lt _ X
  have h1:qz 1 (((dgR p (fy p n F b k j):Nat):Int):Rat):=gN U (sH X)
  have h2:qz 1 (((p:Nat):Int):Rat):=gN U (sH hp)
  exact (jX (pX ih h1) h2 (fun e=>by
   have:=Rat.intCast_eq_zero_iff.1 e
   omega)).mono X
theorem Dl {n j:Nat} {F:Nat→Nat→Int} {b:Nat→Int} (hn:n≤4) (hF : ∀ i j,(F i j).natAbs≤34359738368) (hb : ∀ i,(b i).natAbs≤1152921504606846976) (hd:Lin.bK n F≠0) (hj:j<n):qz 12 (m4 n F b j):=by
 have hL:=xj hn hF hb
 have e : ∀ x:Int,x.natAbs≤lC n F b→lz 12 x:=fun x hx=>cw (k:=12) (Nat.lt_of_le_of_lt (Nat.le_trans hx hL) H)
 exact sy (e _ (xi hd hj)) (e _ xh) hd
attribute [local irreducible] J PJ aM one slT bW bH bj exT cn eP aX aH slV VT.le Ret bP xO
attribute [local irreducible] aO cj
theorem qo (r c m:Nat) (k:Int) (F:Nat→Nat→Int) (b:Nat→Int) (hn:r≤4) (hF : ∀ i j,(F i j).natAbs≤34359738368) (hc0:jp r c m k F≠0):Ok Tryz.prog 16 [bO r c F,bw m b,one (.int .i64 k)] (bj [kf 0 [],one (.int .u64 0),one (.int .i64 (jp r c m k F))]):=by
 have hc:=eU r c m k F b hn hF
 generalize jp r c m k F=e at *
 refine Ok.enter Tryz.func16 Y Tryz.ntmps16 Y (fun w O => ?_)
 refine ae (ai ?_)
 refine aQ Y Y (ltN Y) (fun b3 => ?_)
 refine FJ Y (FJ Y (FJ Y (FL (aa (ae (ai (FH (aI 0 Y Y) (FI Y (FI Y ?_)))))))))
 refine FH (am (hc) Y ⟨S,S,S,FM⟩) ?_
 refine FJ Y (FL (aa (ae (ae (ai (FI Y (FH (sT (by assumption) (dj Y Y)) (FL (aa ?_)))))))))
 refine aD Y (ae (ai (FI Y (FJ Y (FJ Y (FJ Y (FL (aa (aG ?_)))))))))
 refine aS ?_
 refine f9 Tryz.results16 (.tmp Y (kK Y)) (.tmp Y S) (.tmp Y S)
theorem sI (n k:Nat) (F:Nat→Nat→Int) (b:Nat→Int) (hn:n≤4) (hk:k≤64) (hF : ∀ i j,lz 1 (F i j)) (hb : ∀ j,lz 1 (b j)) (hF' : ∀ i j,(F i j).natAbs≤34359738368) (hb' : ∀ i,(b i).natAbs≤1152921504606846976) (hd:Lin.bK n F≠0) (hg:lD (Lin.bK n F)) (hs:c8 (Lin.bK n F))
  (hden : ∀ i j,j<n→(fy (eS (Lin.bK n F)) n F b i j).den % eS (Lin.bK n F)≠0) :
  Ok Tryz.prog 16 [bO n n F,bw n b,one (.int .i64 (k:Nat))] (bj [slT .one k (fun i=>bw n (fun j=>(dgR (eS (Lin.bK n F)) (fy (eS (Lin.bK n F)) n F b i j):Int))),one (.int .u64 (eS (Lin.bK n F):Nat)),one (.int .i64 0)]):=by
 have hcl:=eU n n n k F b hn hF'
 unfold jp at hcl
 rw [if_pos ⟨rfl,rfl⟩,if_neg X,if_neg hd] at hcl
 have hpr:=uH n F hn hF' hs hg
 have hso:=oa n F b hn hF hb hd hF'
 have hp:=m0 (Lin.bK n F)
 have hq:=xp (p:=eS (Lin.bK n F)) X hp.2 (fun j hj=>Dl hn hF' hb' hd hj)
 generalize eS (Lin.bK n F)=p at *
 have hnu:=eR (p:Int) X X
 refine Ok.enter Tryz.func16 Y Tryz.ntmps16 Y (fun w O => ?_)
 refine ae (ai ?_)
 refine aQ Y Y (ltN Y) (fun b3 => ?_)
 refine FJ Y (FJ Y (FJ Y (FL (aa (ae (ai (FH (aI 0 Y Y) (FI Y (FI Y ?_)))))))))
 refine FH (am (hcl) Y ⟨S,S,S,FM⟩) ?_
 refine FJ Y (FL (aa (ae (ae (ai (FI Y (FH (sF X (dj Y Y)) (FL (aa ?_)))))))))
 refine aA Y (aw (aa (ae (ai (FH (aI 0 Y Y) (FI Y ?_))))))
 refine FH (am (hso) Y ⟨S,S,FM⟩) ?_
 refine FI Y (FH (an Y Y) (FH (an Y Y) (FJ Y (FJ Y (FL (aa (ae (ai (FH (aI 0 Y Y) ?_)))))))))
 refine FH (am (hpr) Y ⟨S,FM⟩) ?_
 refine iL (n:=0) Y Y Y Y Y ?_
 refine PartsK.nil (fun bl => ?_)
 refine FJ Y (FJ Y (FL (aa (ae (ai (FI Y (FH (c6 Y X X) ?_)))))))
 refine FH (am (hnu) Y ⟨S,FM⟩) ?_
 refine bF (T:=58) Y Y Y (fun b14 => ?_)
 refine kv 0 Y Y Y Y (FL (aa (ae (ae (ai (FJ Y (FL (aa (au ?_)))))))))
 refine cf (Γ' := [(2,_),(6,_),(7,_),(8,_),(10,_),(12,_),(13,_),(14,_),(15,_)]) FC (SubM.refl _) ?_
 refine bk (σ:=Nat × Option Nat × Nat) (Γk := [(2,_),(6,_),(7,_),(8,_),(12,_),(14,_)]) FC (fun s => [(15,one (.int .i64 (s.1:Nat))),(13,one (slV s.2.1 s.1 s.2.2)),(10,cN n (fy p n F b s.1))]) (fun s M0=>(M0.set 1 (aH s.2.1 33 .one s.2.2 s.1 (fun q=>bw n (fun j=>(dgR p (fy p n F b q j):Int)))))) (fun s=>s.1≤k) (fun s=>k - s.1) ((0,some bl,0)) (Nat.zero_le _) FD (.keep FG (.keep (a7 (fun q hq=>absurd hq (Nat.not_lt_zero _))) (.keep FG (.nil)))) (fun s hs => ?_)
 refine bI (Γ' := [(15,_),(13,_),(10,_),(2,_),(6,_),(7,_),(8,_),(12,_),(14,_)]) (M' := [_,_,_]) Y Y ?_
 obtain ⟨i,sv,cap⟩:=s
 dsimp only at hs ⊢
 by_cases hi:i<k
 ·refine ae (ae (ai (FI Y (FI Y (FH (sT X (a6 Y Y)) (FL (aa (aD Y (aw ?_)))))))))
  refine aa (ae (au (ae (ai (iL (n:=0) Y Y Y Y Y ?_)))))
  refine PartsK.nil (fun bl => ?_)
  refine iL (n:=0) Y Y Y Y Y ?_
  refine PartsK.nil (fun bl => ?_)
  refine FJ Y (FJ Y (FL (aa (ae (ae (ai (FJ Y (FL (aa ?_)))))))))
  refine au ?_
  rename_i br
  refine cf (Γ' := [(2,_),(6,_),(7,_),(8,_),(10,_),(12,_),(13,_),(14,_),(15,_),(16,_),(17,_),(18,_)]) FC (SubM.refl _) ?_
  refine bk (σ:=Nat × Option Nat × Nat × Option Nat × Nat) (Γk := [(2,_),(6,_),(7,_),(8,_),(10,_),(12,_),(13,_),(14,_),(15,_)]) FC (fun t => [(18,one (.int .i64 (t.1:Nat))),(16,one (slV t.2.1 t.1 t.2.2.1)),(17,one (slV t.2.2.2.1 t.1 t.2.2.2.2))]) (fun t M0=>((M0.set 0 (aH t.2.2.2.1 58 (.agg 4) t.2.2.2.2 t.1 (fun q=>cj (fy p n F b (i+1) q)))).set 1 (aH t.2.1 37 (.agg 2) t.2.2.1 t.1 (fun q=>aO ((dgR p (fy p n F b i q):Nat):Int))))) (fun t=>t.1≤n) (fun t=>n - t.1) ((0,some br,0,some bl,0)) (Nat.zero_le _) FD (.keep (a7 (fun q hq=>absurd hq (Nat.not_lt_zero _))) (.keep (a7 (fun q hq=>absurd hq (Nat.not_lt_zero _))) (.keep FG (.keep FG (.keep FG (.nil)))))) (fun t ht => ?_)
  refine bI (Γ' := [(18,_),(16,_),(17,_),(2,_),(6,_),(7,_),(8,_),(10,_),(12,_),(13,_),(14,_),(15,_)]) (M' := [_,_,_,_,_]) Y Y ?_
  obtain ⟨j,sv1,cap1,sv2,cap2⟩:=t
  dsimp only at ht ⊢
  by_cases hj:j<n
  ·have hqj:=hq i j hj
   have hlt:dgR p (fy p n F b i j)<p:=Nat.mod_lt _ X
   have hdg:=uI p (fy p n F b i j) X hp.2 (Nat.le_trans hqj.1 X) (Nat.le_trans hqj.2 X) (hden i j hj)
   have q1:qz 1 (((dgR p (fy p n F b i j):Nat):Int):Rat):=gN U (sH X)
   have q2:qz 1 (((p:Nat):Int):Rat):=gN U (sH hp.2)
   have hsb:=pY (fy p n F b i j) (((dgR p (fy p n F b i j):Nat):Int):Rat) (12+3*i) 1 hqj q1 X
   have hov:=ii (fy p n F b i j - (((dgR p (fy p n F b i j):Nat):Int):Rat)) (((p:Nat):Int):Rat) (12+3*i+1+1) 1 (pX hqj q1) q2 X (fun e=>by have:=Rat.intCast_eq_zero_iff.1 e;omega)
   have hwh:=iI ((dgR p (fy p n F b i j):Nat):Int)
   have hof:=iB ((dgR p (fy p n F b i j):Nat):Int) X X
   refine ae (ae (ai (FI Y (FI Y (FH (aY Y) (FH (sT X (a6 Y Y)) (FL (aa (aD Y ?_)))))))))
   refine aw (aa (ae (au (ae (ai (FI Y (FI Y (FI Y (FH (aC Y Y X) ?_)))))))))
   refine FH (aN Y) ?_
   refine FH (am (hdg) Y ⟨S,S,FM⟩) ?_
   refine FH (c6 Y X X) ?_
   refine FH (am (hof) Y ⟨S,FM⟩) ?_
   refine aJ (T:=37) Y (ltN Y) (fun b19 => ?_)
   refine aB 0 Y Y Y Y Y (leN Y) Y (FL (aa (ae (ai (FI Y (FH (ak 0 Y Y Y) (eH Y Y Y Y ?_)))))))
   (refine cq 2 Y Y Y (leN Y) ?_ ?_ Y (ltN Y) (fun sv63 cap63 => ?_);omega;omega)
   refine FJ Y (FL (aa (eX 11 a4 Z U (FI Y (FI Y (FI Y (FH (aC Y Y X) (FH (aN Y) (FH (ak 0 Y Y Y) ?_)))))))))
   refine FH (am (hwh) Y ⟨S,FM⟩) ?_
   refine FH (am (hsb) Y ⟨S,S,FM⟩) ?_
   refine FH (ak 3 Y Y Y) ?_
   refine FH (am (hov) Y ⟨S,S,FM⟩) ?_
   refine eH Y Y Y Y (FL ?_)
   (refine cq 1 Y Y Y (leN Y) ?_ ?_ Y (ltN Y) (fun sv75 cap75 => ?_);omega;omega)
   refine FJ Y (FL (aF (aa (ai (FI Y (FH (bC _ 1 Y Y X) (FJ Y (FL ?_))))))))
   refine aK ((j+1,sv63,cap63,sv75,cap75)) (hj) X FD (.drop (.keep (a7 (fun q hq=>by split;rfl;rw [show q=j by omega]; rfl)) (.keep (a7 (fun q hq=>by split;rfl;rw [show q=j by omega])) (.keep FG (.keep FG (.keep FG (.nil)))))))
  ·have hjn:j=n:=by omega
   subst hjn
   refine ae (ae (ai (FI Y (FI Y (FH (aY Y) (FH (sF X (a6 Y Y)) (FL (aa (aA Y ?_)))))))))
   refine aV (av (av (aE (aa (ae (sO (t:=16) (i:=1) Y Y (sO (t:=17) (i:=0) Y Y (ai (FI Y ?_)))))))))
   refine FI Y (eH Y Y Y Y ?_)
   (refine cq 1 Y Y Y (leN Y) ?_ ?_ Y (ltN Y) (fun sv79 cap79 => ?_);omega;omega)
   refine FJ Y (FL (aa (ai (FI Y (FJ Y (FL (aF (aa (ai ?_)))))))))
   refine FI Y (FH (bC _ 1 Y Y X) (FJ Y (FL ?_)))
   refine aK ((i+1,sv79,cap79)) (hi) X FD (.keep FG (.keep (a7 (fun q hq=>by split;rfl;rw [show q=i by omega]; rfl)) (.keep FG (.nil))))
 ·have he:i=k:=by omega
  subst he
  refine ae (ae (ai (FI Y (FI Y (FH (sF X (a6 Y Y)) (FL (aa (aA Y (aV ?_)))))))))
  refine av (av (aE (aa (ae (ai (FI Y (FI Y (FJ Y (FJ Y ?_)))))))))
  refine FJ Y (FL (aa (aG (bZ (t:=6) (i:=1) Y Y ?_))))
  refine f9 Tryz.results16 (.tmp Y S) (.tmp Y S) (.tmp Y S)
end Tor
end
section
namespace Tor
open Go Go.RowKit Go.Proofs
theorem uL {l:List Int} {B:Nat} (h : ∀ x∈l,x.natAbs≤B) (j:Nat):(l.getD j 0).natAbs≤B:=by
 rw [List.getD_eq_getElem?_getD]
 cases e:l[j]? with
 | none => exact Nat.zero_le _
 | some x => exact h x (List.mem_of_getElem? e)
theorem uM {c:Nat} {l:List Int} (h:(l.all fun x=>decide (x.natAbs≤34359738368))=true) : ∀ i j,(fl c l i j).natAbs≤34359738368:=fun i j=>uL (fun x hx=>of_decide_eq_true (List.all_eq_true.1 h x hx)) _
theorem v7 {pre:List (Nat→Int)} (hg:gQ 2147483647 1 (fl 1 [2]) (fun j => [1].getD j 0) pre) (hl:pre.length=2):pre.getD 0 z0 0=1073741824∧pre.getD 1 z0 0=1073741823:=by
 obtain ⟨x,y,rfl⟩ : ∃ x y,pre = [x,y]:=by
  match pre,hl with
  | [x, y], _ => exact ⟨x, y, rfl⟩
 have hy:=(show gQ 2147483647 1 (fl 1 [2]) (fun j => [1].getD j 0) ([x] ++ [y]) from hg).last U 0
 have hx:=(show gQ 2147483647 1 (fl 1 [2]) (fun j => [1].getD j 0) ([] ++ [x]) from (show gQ 2147483647 1 (fl 1 [2]) (fun j => [1].getD j 0) ([x] ++ [y]) from hg).init).last U 0
 obtain ⟨t,ht⟩:=hg.sum U 0 U
 have ht:(1:Int) - (0+(0+(2147483647:Int)^0*x 0+(2147483647:Int)^1*y 0)*2)=(2147483647:Int)^2*t:=ht
 rw [Int.pow_zero,Int.pow_succ,Int.pow_zero,show (2147483647:Int)^2=4611686014132420609 by decide] at ht
 show x 0=_∧y 0=_
 omega
theorem Dm {φ ψ χ:VT} : VT.le (bj [φ, ψ, χ]) (bj [bP, ψ, χ]):=by
 rintro v g ⟨vs,h1,h2⟩
 refine ⟨vs,h1,?_⟩
 match vs,h2 with
 | [a, b, c], ⟨p, q, r, _⟩ => exact ⟨trivial, q, r, trivial⟩
theorem uN {n k:Nat} {l:List (Nat→Int)} {f:Nat→Nat→Int} (hk:l.length=k) (h : ∀ i j,i<k→j<n→l.getD i z0 j=f i j) {ψ χ:VT} : VT.le (bj [kf n l, ψ, χ]) (bj [slT .one k (fun i=>bw n (f i)), ψ, χ]):=by
 subst hk
 rintro v g ⟨vs,h1,h2⟩
 refine ⟨vs,h1,?_⟩
 match vs,h2 with
 | [a, b, c], ⟨p, q, r, _⟩ => exact ⟨(dE fun i hi => dE fun j hj => by rw [h i j hi hj]; exact VT.le_refl _ : VT.le (kf n l) _) _ _ p, q, r, trivial⟩
theorem m8 {n m:Nat} {f g:Nat→Rat} (hn:n=m) (h : ∀ i,i<n→f i=g i) {χ:VT} : VT.le (bj [vO n f, χ]) (bj [cN m g, χ]):=by
 subst hn
 rintro v k ⟨vs,h1,h2⟩
 refine ⟨vs,h1,?_⟩
 match vs,h2 with
 | [a, b], ⟨p, q, _⟩ => exact ⟨w9 h _ _ p, q, trivial⟩
theorem BD {L:Lay} {φ ψ:VT} {f:Nat→VT} (h0:φ=f 0) (h1:ψ=f 1):VT.le (slT L 2 (fun q => [ψ, φ].reverse.getD q bP)) (slT L 2 f):=dE fun i hi=>by
 rcases (show i=0∨i=1 by omega) with rfl | rfl
 ·exact lg h0
 ·exact lg h1
theorem Dn {L:Lay} {φ:VT} {f:Nat→VT} (h0:φ=f 0):VT.le (slT L 1 (fun q => [φ].reverse.getD q bP)) (slT L 1 f):=dE fun i hi=>by
 obtain rfl:i=0:=by omega
 exact lg h0
theorem BE {a:Rat} {g:Nat→Rat} (h0:a=g 0):VT.le (slT (.agg 4) 1 (fun q => [cj a].reverse.getD q bP)) (cN 1 g):=Dn (f:=fun i=>cj (g i)) (congrArg cj h0)
theorem BF {a b:Rat} {g:Nat→Rat} (h0:a=g 0) (h1:b=g 1):VT.le (slT (.agg 4) 2 (fun q => [cj b,cj a].reverse.getD q bP)) (cN 2 g):=BD (f:=fun i=>cj (g i)) (congrArg cj h0) (congrArg cj h1)
theorem BG {f:Nat→Int} : VT.le (one (.slice none 0 0)) (bw 0 f):=ey
theorem ES:Ok Tryz.prog 13 [bO 0 0 (fun _ _=>0),bw 0 (fun _=>0)] (bj [slT (.agg 4) 0 (fun _=>cj 0),one (.int .i64 0)]) :=
 (je 0 (fun _ _=>0) (fun _=>0) U (fun _ _=>Nat.zero_le _) (fun _=>Nat.zero_le _) U (by unfold lD;decide +kernel)).le (dq _) (m8 (g:=fun _=>0) Y (fun i hi=>absurd hi (Nat.not_lt_zero i)))
attribute [local irreducible] J PJ aM one slT bW bH bj exT cn eP aX aH slV VT.le Ret bP xO
attribute [local irreducible] aO cj bO bw cN
set_option maxRecDepth 20000 in
theorem uO:Ok Tryz.prog 8 [] (one (.bool true)):=by
 have i1:Ok Tryz.prog 43 [one (.int .i64 (2:Nat)),one (.int .i64 (2:Nat)),gZ .i64 [1,2,3,4]] (bO 2 2 (fl 2 [1,2,3,4])):=lj 2 2 [1,2,3,4] U U U
 have i2:Ok Tryz.prog 43 [one (.int .i64 (1:Nat)),one (.int .i64 (1:Nat)),gZ .i64 [2]] (bO 1 1 (fl 1 [2])):=lj 1 1 [2] U U U
 have i3:Ok Tryz.prog 43 [one (.int .i64 (1:Nat)),one (.int .i64 (1:Nat)),gZ .i64 [2147483647]] (bO 1 1 (fl 1 [2147483647])):=lj 1 1 [2147483647] U U U
 have i4:Ok Tryz.prog 43 [one (.int .i64 (2:Nat)),one (.int .i64 (2:Nat)),gZ .i64 [1,2,2,4]] (bO 2 2 (fl 2 [1,2,2,4])):=lj 2 2 [1,2,2,4] U U U
 have i5:Ok Tryz.prog 43 [one (.int .i64 (1:Nat)),one (.int .i64 (2:Nat)),gZ .i64 [1,2]] (bO 1 2 (fl 2 [1,2])):=lj 1 2 [1,2] U U U
 have w1:Ok Tryz.prog 44 [gZ .i64 [1,0]] (bw 2 (fun j=>([1,0]:List Int).getD j 0)):=jg [1,0] U U
 have w2:Ok Tryz.prog 44 [gZ .i64 [1]] (bw 1 (fun j=>([1]:List Int).getD j 0)):=jg [1] U U
 have w3:Ok Tryz.prog 44 [gZ .i64 [1073741824]] (bw 1 (fun j=>([1073741824]:List Int).getD j 0)):=jg [1073741824] U U
 have w4:Ok Tryz.prog 44 [gZ .i64 [1073741823]] (bw 1 (fun j=>([1073741823]:List Int).getD j 0)):=jg [1073741823] U U
 have n1:=Bj 0 0 U U
 have s1:=(je 2 (fl 2 [1,2,3,4]) (fun j=>([1,0]:List Int).getD j 0) U (uM U) (uL U) H (by unfold lD;decide +kernel)).le (dq _) (m8 (g:=fun i=>(([-2,1]:List Int).getD i 0:Rat)) Y H)
 have s2:=(je 1 (fl 1 [2]) (fun j=>([1]:List Int).getD j 0) U (uM U) (uL U) H (by unfold lD;decide +kernel)).le (dq _) (m8 (g:=fun i=>Rat.divInt 1 2) Y H)
 have s3:=ES
 have s4:=(n9 2 (fl 2 [1,2,2,4]) (fun j=>([1,0]:List Int).getD j 0) U (uM U) H).le (dq _) (m8 (g:=fun _=>0) Y (fun i hi=>absurd hi (Nat.not_lt_zero i)))
 have s5:=(rd 1 2 2 (fl 2 [1,2]) (fun j=>([1,0]:List Int).getD j 0) U).le (dq _) (m8 (g:=fun _=>0) Y (fun i hi=>absurd hi (Nat.not_lt_zero i)))
 have d1:=(j5 1 2 (fl 1 [2]) (fun j=>([1]:List Int).getD j 0) U (uM U) (uL U) H (by unfold lD;decide +kernel) U).le (dq _)
  (uX fun pre=>ru fun h=>uN (f:=fun i j=>if i=0 then ([1073741824]:List Int).getD j 0 else ([1073741823]:List Int).getD j 0) h.2 (fun i j hi hj=>by
   have:=v7 h.1 h.2
   obtain rfl:j=0:=by omega
   rcases (show i=0∨i=1 by omega) with rfl | rfl
   ·exact this.1
   ·exact this.2))
 rw [show eS (Lin.bK 1 (fl 1 [2]))=2147483647 by decide +kernel] at d1
 have d2:=(j5 1 1 (fl 1 [2147483647]) (fun j=>([1]:List Int).getD j 0) U (uM U) (uL U) H (by unfold lD;decide +kernel) U).le (dq _) (uX fun pre=>ru fun h=>Dm)
 rw [show eS (Lin.bK 1 (fl 1 [2147483647]))=2147483629 by decide +kernel] at d2
 have d3:=pW 1 (fl 1 [2]) (fun j=>([1]:List Int).getD j 0) 65 U
 have hsa:=j7 1 2 (fun i j=>if i=0 then ([1073741824]:List Int).getD j 0 else ([1073741823]:List Int).getD j 0) (fun i j=>if i=0 then ([1073741824]:List Int).getD j 0 else ([1073741823]:List Int).getD j 0) U (fun i j _ _=>rfl)
 have hl1:=iJ 2 2 (fun i=>(([-2,1]:List Int).getD i 0:Rat)) (fun i=>(([-2,1]:List Int).getD i 0:Rat)) U
 have hl2:=iJ 1 1 (fun i=>Rat.divInt 1 2) (fun i=>Rat.divInt 1 2) U
 rw [decide_eq_true ⟨rfl,fun i _=>rfl⟩] at hl1 hl2
 have m1:=yI 1 2 U U U U U
 have u1:=eR (-2) U U
 have u2:=eR 1 U U
 refine Ok.enter Tryz.func8 Y Tryz.ntmps8 Y (fun w O => ?_)
 refine ae (ai (FJ Y (FL (aa (ae (ai (stS Y Y Y Y (PartsK.cons Y (PartsK.cons Y ?_)))))))))
 refine PartsK.cons Y (PartsK.cons Y (PartsK.nil ?_))
 refine FH (am (i1) Y ⟨S,S,(jc [1,2,3,4]),FM⟩) ?_
 refine eH Y Y Y Y ?_
 refine FH (am (i2) Y ⟨S,S,(jB 2),FM⟩) ?_
 refine bF (T:=30) Y Y Y (fun b1 => ?_)
 refine bF (T:=30) Y Y Y (fun b2 => ?_)
 refine kv 1 Y Y Y Y (kv 0 Y Y Y Y (FL (aa (ae (be 8 a4 Z U (FH (ak 1 Y Y Y) (stS Y Y Y Y (PartsK.cons Y (PartsK.cons Y ?_)))))))))
 refine PartsK.nil ?_
 refine FH (am (w1) Y ⟨(jc [1,0]),FM⟩) ?_
 refine FH (am (s1) Y ⟨S,S,FM⟩) ?_
 refine FI Y (FH (an Y Y) (FH (an Y Y) (FJ Y (FL (FJ Y (FL (aa (ae (be 8 a4 Z U ?_)))))))))
 refine FH (ak 0 Y Y Y) (eH Y Y Y Y ?_)
 refine FH (am (w2) Y ⟨(jB 1),FM⟩) ?_
 refine FH (am (s2) Y ⟨S,S,FM⟩) ?_
 refine FI Y (FH (an Y Y) (FH (an Y Y) (FJ Y (FL (FJ Y (FL (aa (ae (ai ?_)))))))))
 refine FH (am (n1) Y ⟨S,S,FM⟩) ?_
 refine FH (am (s3) Y ⟨S,(BG),FM⟩) ?_
 refine FI Y (FH (an Y Y) (FH (an Y Y) (FJ Y (FJ Y (FL (aa (ae (be 10 a4 Z U (FH (ak 0 Y Y Y) ?_)))))))))
 refine eH Y Y Y Y ?_
 refine FH (am (w2) Y ⟨(jB 1),FM⟩) ?_
 refine FH (am (d1) Y ⟨S,S,S,FM⟩) ?_
 refine FI Y (FH (an Y Y) (FH (an Y Y) (FH (an Y Y) (FJ Y (FJ Y (FL (FJ Y (FL (aa ?_)))))))))
 refine ae (ai (eH Y Y Y Y ?_))
 refine FH (am (i3) Y ⟨S,S,(jB 2147483647),FM⟩) ?_
 refine eH Y Y Y Y ?_
 refine FH (am (w2) Y ⟨(jB 1),FM⟩) ?_
 refine FH (am (d2) Y ⟨S,S,S,FM⟩) ?_
 refine FI Y (FH (an Y Y) (FH (an Y Y) (FH (an Y Y) (FJ Y (FJ Y (FJ Y (FL (aa (ae ?_)))))))))
 refine ai (stS Y Y Y Y (PartsK.cons Y (PartsK.cons Y (PartsK.cons Y (PartsK.cons Y (PartsK.nil ?_))))))
 refine FH (am (i4) Y ⟨S,S,(jc [1,2,2,4]),FM⟩) ?_
 refine stS Y Y Y Y (PartsK.cons Y (PartsK.cons Y (PartsK.nil ?_)))
 refine FH (am (w1) Y ⟨(jc [1,0]),FM⟩) ?_
 refine FH (am (s4) Y ⟨S,S,FM⟩) ?_
 refine FI Y (FH (an Y Y) (FH (an Y Y) (FJ Y (FJ Y (FL (aa (ae (ai (stS Y Y Y Y ?_)))))))))
 refine PartsK.cons Y (PartsK.cons Y (PartsK.nil ?_))
 refine FH (am (i5) Y ⟨S,S,(jc [1,2]),FM⟩) ?_
 refine stS Y Y Y Y (PartsK.cons Y (PartsK.cons Y (PartsK.nil ?_)))
 refine FH (am (w1) Y ⟨(jc [1,0]),FM⟩) ?_
 refine FH (am (s5) Y ⟨S,S,FM⟩) ?_
 refine FI Y (FH (an Y Y) (FH (an Y Y) (FJ Y (FJ Y (FL (aa (ae (be 10 a4 Z U (FH (ak 0 Y Y Y) ?_)))))))))
 refine eH Y Y Y Y ?_
 refine FH (am (w2) Y ⟨(jB 1),FM⟩) ?_
 refine FH (am (d3) Y ⟨S,S,S,FM⟩) ?_
 refine FI Y (FH (an Y Y) (FH (an Y Y) (FH (an Y Y) (FJ Y (FJ Y (FL (FJ Y (FL (aa ?_)))))))))
 refine ae (ai (FI Y (FH (sT X (bV Y Y)) (FI Y (FK (ab Y) ?_)))))
 refine FK (am (u1) Y ⟨S,FM⟩) ?_
 refine FK (am (u2) Y ⟨S,FM⟩) ?_
 refine zf Y Y Y Y Y Y (PartsK.cons Y (PartsK.cons Y (PartsK.nil ?_)))
 refine FK (am (hl1) Y ⟨S,(BF Y Y),FM⟩) ?_
 refine FH (a5 Y Y) (FI Y (FK (ab Y) (FK (sT X (bV Y Y)) (FH (a5 Y Y) (FI Y (FK (ab Y) ?_))))))
 refine FK (am (m1) Y ⟨S,S,FM⟩) ?_
 refine zf Y Y Y Y Y Y (PartsK.cons Y (PartsK.nil ?_))
 refine FK (am (hl2) Y ⟨S,(BE Y),FM⟩) ?_
 refine FH (a5 Y Y) (FI Y (FK (ab Y) (FK (sT X (bV Y Y)) (FH (a5 Y Y) (FI Y (FK (ab Y) (FK (aY Y) (FK (sT X (bV Y Y)) (FH (a5 Y Y) ?_)))))))))
 refine FJ Y (FL (aa (ae (ai (FI Y (FH (sT X (bV Y Y)) (FI Y (FK (ab Y) (FK (sT X (bV Y Y)) ?_)))))))))
 refine FH (a5 Y Y) (FI Y (FK (ab Y) (zf Y Y Y Y Y Y (PartsK.cons Y (PartsK.nil ?_)))))
 refine FK (am (w3) Y ⟨(jc [1073741824]),FM⟩) ?_
 refine zf Y Y Y Y Y Y (PartsK.cons Y (PartsK.nil ?_))
 refine FK (am (w4) Y ⟨(jc [1073741823]),FM⟩) ?_
 refine zf Y Y Y Y Y Y (PartsK.cons Y (PartsK.cons Y (PartsK.nil ?_)))
 refine FK (am (hsa) Y ⟨S,(BD Y Y),FM⟩) ?_
 refine FH (a5 Y Y) (FI Y (FK (ab Y) (FK (sT X (bV Y Y)) (FH (a5 Y Y) (FI Y (FK (ab Y) (FK (sT X (bV Y Y)) (FH (a5 Y Y) (FJ Y ?_)))))))))
 refine FL (aa (ae (ai (FI Y (FI Y (FK (ab Y) (FH (a5 Y Y) (FI Y (FK (ab Y) ?_)))))))))
 refine FK (sT X (bV Y Y)) (FH (a5 Y Y) (FI Y (FK (ab Y) (FK (sT X (bV Y Y)) (FH (a5 Y Y) (FI Y (FK (ab Y) (FK (sT X (bV Y Y)) (FH (a5 Y Y) ?_)))))))))
 refine FJ Y (FL (aa (aG ?_)))
 refine aT Tryz.results8 (.tmp Y S)
end Tor
end
