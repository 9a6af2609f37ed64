/-
  Theorems that the proofs of laws of this seat rest on.
  No condition.
-/
import Derived.Test.YtbgloceimmbliaaGreatEC10
set_option maxHeartbeats 20000000
set_option linter.unusedVariables false
set_option linter.unusedSimpArgs false
section
namespace Tor
namespace Lin
theorem cramer_to {n j:Nat} (hj:j<n) (F:Nat→Nat→Rat) (c:Nat→Rat) : ∀ m,m≤n→det n (fun i k=>if i=j then sm m (fun t=>c t*F t k) else F i k)=if j<m then c j*det n F else 0
 | 0, _ => by
  rw [if_neg (Nat.not_lt_zero j),gz 0 0 (p:=j) (G:=F) (Ef:=F) hj (fun k _=>by rw [if_pos Y]; show (0:Rat)=_;grind) (fun i k _ _ hi=>by rw [if_neg hi]) (fun i k _ _ hi=>by rw [if_neg hi])]
  grind
 | m + 1, hm => by
  have ih:=cramer_to hj F c m X
  rw [gz 1 (c m) (p:=j) (G:=fun i k=>if i=j then sm m (fun t=>c t*F t k) else F i k) (Ef:=fun i k=>if i=j then F m k else F i k) hj
   (fun k _=>by rw [if_pos Y,if_pos Y,if_pos Y]; show sm m (fun t=>c t*F t k)+c m*F m k=_;grind) (fun i k _ _ hi=>by rw [if_neg hi,if_neg hi]) (fun i k _ _ hi=>by rw [if_neg hi,if_neg hi]),ih]
  by_cases e:m=j
  ·subst e
   have h:det n (fun i k=>if i=m then F m k else F i k)=det n F:=bG fun i k _ _=>by
    by_cases h:i=m
    ·rw [if_pos h,h]
    ·rw [if_neg h]
   rw [h,if_neg (Nat.lt_irrefl m),if_pos (Nat.lt_succ_self m)]
   grind
  ·have h:det n (fun i k=>if i=j then F m k else F i k)=0:=by
    rcases Nat.lt_or_gt_of_ne e with h | h
    ·exact fc fT h hj (fun k _=>by rw [if_neg X,if_pos Y])
    ·exact fc fT h X (fun k _=>by rw [if_pos Y,if_neg X])
   rw [h]
   by_cases h2:j<m
   ·rw [if_pos h2,if_pos X]; grind
   ·rw [if_neg h2,if_neg X]; grind
end Lin
def kU (F:Nat→Nat→Int) (j:Nat) (b:Nat→Int):Nat→Nat→Int:=fun i k=>if i=j then b k else F i k
theorem Do {n j:Nat} {F:Nat→Nat→Int} {b c:Nat→Int} {d:Int} (hj:j<n) (hd:d≠0) (h : ∀ k,k<n→bA n (fun t=>c t*F t k)=d*b k):d*Lin.bU n (kU F j b)=c j*Lin.bU n F:=by
 have h1:=Lin.cramer_to hj (fun i k=>(F i k:Rat)) (fun t=>(c t:Rat)) n (Nat.le_refl _)
 rw [if_pos hj] at h1
 have h2:Lin.det n (fun i k=>if i=j then Lin.sm n (fun t=>(c t:Rat)*(F t k:Rat)) else (F i k:Rat))=(d:Rat)*Lin.det n (fun i k=>((kU F j b i k:Int):Rat)):=by
  rw [Lin.gz (d:Rat) 0 (p:=j) (G:=fun i k=>((kU F j b i k:Int):Rat)) (Ef:=fun i k=>((kU F j b i k:Int):Rat)) hj (fun k hk=>by
   rw [if_pos Y]
   unfold kU
   rw [if_pos Y]
   have:=congrArg (fun z:Int=>(z:Rat)) (h k hk)
   rw [ii,Rat.intCast_mul] at this
   rw [show (fun t=>(c t:Rat)*(F t k:Rat))=fun t=>((c t*F t k:Int):Rat) by funext t;rw [Rat.intCast_mul],this]
   grind) (fun i k _ _ hi=>by unfold kU;rw [if_neg hi,if_neg hi]) (fun i k _ _ hi=>by unfold kU;rw [if_neg hi,if_neg hi])]
  grind
 rw [h2, ← Lin.c7, ← Lin.c7, ← Rat.intCast_mul, ← Rat.intCast_mul] at h1
 exact Rat.intCast_inj.1 h1
structure AdjI (n:Nat) (F G:Nat→Nat→Int) (d:Int):Prop where
 fg : ∀ i j,i<n→j<n→bA n (fun k=>F i k*G k j)=if i=j then d else 0
 gf : ∀ i j,i<n→j<n→bA n (fun k=>G i k*F k j)=if i=j then d else 0
theorem mK (n:Nat) (F:Nat→Nat→Int) : ∃ G,AdjI n F G (Lin.bU n F):=⟨_,fun i j hi hj=>(tp n F i j hi hj).1,fun i j hi hj=>(tp n F i j hi hj).2⟩
theorem Af (n m:Nat) (f:Nat→Nat→Int):bA n (fun i=>bA m (fun j=>f i j))=bA m (fun j=>bA n (fun i=>f i j)):=by
 induction n with
 | zero => exact ((dF (n := m) (f := fun _ => (0 : Int)) (g := fun _ => (0 : Int) * 0) (fun _ _ => rfl)).trans ((dU m 0 _).trans (Int.zero_mul _))).symm
 | succ n ih => rw [bA, ih, ← gF]; rfl
theorem oT {n:Nat} {G F:Nat→Nat→Int} {u:Nat→Int} (j:Nat):bA n (fun h=>G j h*bA n (fun k=>F h k*u k))=bA n (fun k=>bA n (fun h=>G j h*F h k)*u k):=by
 have e1:(fun h=>G j h*bA n (fun k=>F h k*u k))=fun h=>bA n (fun k=>G j h*F h k*u k):=by
  funext h
  rw [← dU]
  exact congrArg (bA n) (funext fun k=>by rw [Int.mul_assoc])
 have e2:(fun k=>bA n (fun h=>G j h*F h k)*u k)=fun k=>bA n (fun h=>G j h*F h k*u k):=by
  funext k
  rw [Int.mul_comm, ← dU]
  exact congrArg (bA n) (funext fun h=>Int.mul_comm _ _)
 rw [e1,e2]
 exact Af n n _
theorem mL {n j:Nat} {d:Int} {u:Nat→Int} (hj:j<n):bA n (fun k=>(if j=k then d else 0)*u k)=d*u j:=by
 rw [ig hj fun k _ hne=>by rw [if_neg (fun e=>hne e.symm),Int.zero_mul],if_pos Y]
theorem Ag {p n:Nat} {F G:Nat→Nat→Int} {d:Int} (hp:Lin.Pr p) (h:AdjI n F G d) (hd : ¬ (p:Int)∣d):uy p n F:=fun u hu j hj=>by
 have h1:(p:Int)∣bA n (fun h=>G j h*bA n (fun k=>F h k*u k)):=rf fun k hk=>Int.dvd_mul_of_dvd_right (hu k hk)
 rw [oT,dF (g:=fun k=>(if j=k then d else 0)*u k) (fun k hk=>by rw [h.gf j k hj hk]),mL hj] at h1
 have h2:=Int.natAbs_dvd_natAbs.2 h1
 rw [Int.natAbs_natCast,Int.natAbs_mul] at h2
 rcases hp.mul h2 with h3 | h3
 ·exact absurd (Int.ofNat_dvd_left.2 h3) hd
 ·exact Int.ofNat_dvd_left.2 h3
def crB (n:Nat) (b:Nat→Int) (G:Nat→Nat→Int) (j:Nat):Int:=bA n (fun i=>b i*G i j)
theorem wa {n k:Nat} {F G:Nat→Nat→Int} {d:Int} {b:Nat→Int} (h:AdjI n F G d) (hk:k<n):bA n (fun t=>crB n b G t*F t k)=d*b k:=by
 have e:(fun t=>crB n b G t*F t k)=fun t=>F t k*bA n (fun i=>G i t*b i):=by
  funext t
  rw [Int.mul_comm]
  exact congrArg (F t k * ·) (congrArg (bA n) (funext fun i=>Int.mul_comm _ _))
 rw [e,show (fun t=>F t k*bA n (fun i=>G i t*b i))=fun t=>(fun a c=>F c a) k t*bA n (fun i=>(fun a c=>G c a) t i*b i) from rfl,oT (G:=fun a c=>F c a) (F:=fun a c=>G c a) k,
  dF (g:=fun i=>(if k=i then d else 0)*b i) (fun i hi=>by
   have:=h.gf i k hi hk
   rw [dF (g:=fun t=>G i t*F t k) (fun t _=>Int.mul_comm _ _),this]
   by_cases e:i=k
   ·rw [if_pos e,if_pos e.symm]
   ·rw [if_neg e,if_neg fun e'=>e e'.symm]),mL hk]
theorem wb {n j:Nat} {F G:Nat→Nat→Int} {b:Nat→Int} (h:AdjI n F G (Lin.bU n F)) (hd:Lin.bU n F≠0) (hj:j<n):crB n b G j=Lin.bU n (kU F j b):=by
 have:=Do (F:=F) (b:=b) (c:=crB n b G) hj hd (fun k hk=>wa h hk)
 rw [Int.mul_comm (crB n b G j)] at this
 exact (Int.eq_of_mul_eq_mul_left hd this).symm
theorem tq {n j:Nat} {m d:Int} {F G:Nat→Nat→Int} {b Ed:Nat→Int} (h:AdjI n F G d) (hS : ∀ i,i<n→m∣b i - bA n (fun t=>Ed t*F t i)) (hj:j<n):m∣crB n b G j - d*Ed j:=by
 have h1:m∣bA n (fun i=>(b i - bA n (fun t=>Ed t*F t i))*G i j):=rf fun i hi=>Int.dvd_mul_of_dvd_left (hS i hi)
 have e:(fun i=>(b i - bA n (fun t=>Ed t*F t i))*G i j)=fun i=>b i*G i j+(-1)*((fun a c=>G c a) j i*bA n (fun t=>(fun a c=>F c a) i t*Ed t)):=by
  funext i
  dsimp only
  rw [Int.sub_mul,Int.mul_comm (bA n _) (G i j),show (fun t=>Ed t*F t i)=fun t=>F t i*Ed t by funext t;exact Int.mul_comm _ _]
  omega
 rw [e,gF,dU,oT (G:=fun a c=>G c a) (F:=fun a c=>F c a) j,dF (f:=fun k=>bA n (fun i=>(fun a c=>G c a) j i*(fun a c=>F c a) i k)*Ed k) (g:=fun k=>(if j=k then d else 0)*Ed k) (fun k hk=>by
   have:=h.fg k j hk hj
   dsimp only
   rw [dF (g:=fun i=>F k i*G i j) (fun i _=>Int.mul_comm _ _),this]
   by_cases e:k=j
   ·rw [if_pos e,if_pos e.symm]
   ·rw [if_neg e,if_neg fun e'=>e e'.symm]),mL hj] at h1
 unfold crB
 rwa [show bA n (fun i=>b i*G i j) - d*Ed j=bA n (fun i=>b i*G i j) + -1*(d*Ed j) by omega]
end Tor
end
section
namespace Tor
open Go Go.RowKit Go.Proofs
theorem tr {a:Int} {m s:Nat} {f:Rat} : ji a m s f=true↔f.num.natAbs≤s∧f.den≤s∧Nat.gcd f.den m=1∧(f.num - a*f.den) % (m:Int)=0:=by
 unfold ji
 simp only [Bool.and_eq_true,decide_eq_true_eq]
structure EucI (a:Int) (m s:Nat) (x y:Nat × Int):Prop where
 det:(x.1:Int)*y.2 - (y.1:Int)*x.2=m∨(x.1:Int)*y.2 - (y.1:Int)*x.2 = -(m:Int)
 sg:x.2*y.2≤0
 gx:s<x.1
 ax:(m:Int)∣(x.1:Int) - a*x.2
 ay:(m:Int)∣(y.1:Int) - a*y.2
theorem tt (q:Int):0≤q*q:=by
 rcases Int.le_total 0 q with h | h
 ·exact Int.mul_nonneg h h
 ·exact Int.mul_nonneg_of_nonpos_of_nonpos h h
theorem EucI.step {a:Int} {m s:Nat} {x y:Nat × Int} (h:EucI a m s x y) (hc:s<y.1):EucI a m s y (x.1 % y.1,x.2 - ((x.1 / y.1:Nat):Int)*y.2):=by
 have hd:(y.1:Int)*((x.1 / y.1:Nat):Int)+((x.1 % y.1:Nat):Int)=(x.1:Int):=by
  have:=Nat.div_add_mod x.1 y.1
  rw [← Int.natCast_mul, ← Int.natCast_add,this]
 have hq:(0:Int)≤((x.1 / y.1:Nat):Int):=Int.natCast_nonneg _
 obtain ⟨u,v,w,k1,k2⟩:=h
 refine ⟨?_,?_,hc,k2,?_⟩ <;> dsimp only at *
 ·generalize ((x.1 / y.1:Nat):Int)=q at *
  generalize ((x.1 % y.1:Nat):Int)=r at *
  have e:(y.1:Int)*(x.2 - q*y.2) - r*y.2 = -((x.1:Int)*y.2 - (y.1:Int)*x.2):=by grind
  rw [e]
  rcases u with u | u <;> rw [u]
  ·right;rfl
  ·left;omega
 ·generalize ((x.1 / y.1:Nat):Int)=q at *
  have e:y.2*(x.2 - q*y.2)=x.2*y.2 - q*(y.2*y.2):=by grind
  rw [e]
  have:=Int.mul_nonneg hq (tt y.2)
  omega
 ·generalize ((x.1 / y.1:Nat):Int)=q at *
  generalize ((x.1 % y.1:Nat):Int)=r at *
  have e:r - a*(x.2 - q*y.2)=((x.1:Int) - a*x.2) - q*((y.1:Int) - a*y.2):=by grind
  rw [e]
  exact Int.dvd_sub k1 (Int.dvd_mul_of_dvd_right k2)
theorem tu {a:Int} {m s:Nat} : ∀ (f:Nat) (x y:Nat × Int),y.1<f→EucI a m s x y → ∃ x',EucI a m s x' (kS s f x y)∧(kS s f x y).1≤s
 | 0, _, _, h, _ => absurd h (Nat.not_lt_zero _)
 | f + 1, x, y, h, hi => by
  rw [kS]
  by_cases c:s<y.1
  ·rw [if_pos c]
   exact tu f _ _ (by have:=Nat.mod_lt x.1 (show 0<y.1 by omega);show x.1 % y.1<f;omega) (hi.step c)
  ·rw [if_neg c]
   exact ⟨x,hi,by omega⟩
theorem uT {m z:Int} (h:m∣z) (hl:z.natAbs<m.natAbs):z=0:=by
 obtain ⟨k,rfl⟩:=h
 rw [Int.natAbs_mul] at hl
 by_cases hk:k=0
 ·rw [hk,Int.mul_zero]
 ·have:=Nat.le_mul_of_pos_right m.natAbs (show 0<k.natAbs by omega)
  omega
theorem tv {P Q:Int} (h:0≤P*Q):Q.natAbs≤(P+Q).natAbs:=by
 rcases Int.lt_trichotomy P 0 with p | p | p
 ·rcases Int.lt_trichotomy Q 0 with q | q | q
  ·omega
  ·omega
  ·have:=Int.mul_neg_of_neg_of_pos p q;omega
 ·omega
 ·rcases Int.lt_trichotomy Q 0 with q | q | q
  ·have:=Int.mul_neg_of_pos_of_neg p q;omega
  ·omega
  ·omega
theorem BS {a n d:Int} {m s:Nat} {x y:Nat × Int} (h:EucI a m s x y) (hy:y.1≤s) (hm:2*(s*s)<m) (hn:n.natAbs≤s) (hd:d.natAbs≤s) (hd0:0<d) (hc:(m:Int)∣n - a*d) :
  n*y.2=(y.1:Int)*d∧y.2≠0:=by
 obtain ⟨u,v,w,k1,k2⟩:=h
 have hA:(m:Int)∣n*y.2 - (y.1:Int)*d:=by
  have e:n*y.2 - (y.1:Int)*d=(n - a*d)*y.2 - ((y.1:Int) - a*y.2)*d:=by grind
  rw [e]
  exact Int.dvd_sub (Int.dvd_mul_of_dvd_left hc) (Int.dvd_mul_of_dvd_left k2)
 have hB:(m:Int)∣(x.1:Int)*d - n*x.2:=by
  have e:(x.1:Int)*d - n*x.2=((x.1:Int) - a*x.2)*d - (n - a*d)*x.2:=by grind
  rw [e]
  exact Int.dvd_sub (Int.dvd_mul_of_dvd_left k1) (Int.dvd_mul_of_dvd_left hc)
 have hm0:(m:Int)≠0:=by omega
 obtain ⟨α,hα⟩:=hA
 obtain ⟨β,hβ⟩:=hB
 -- with the sign of the determinant taken into the factors
 obtain ⟨α, β,eα,e1,e2⟩ : ∃ α' β':Int,(α=α'∨α = -α')∧n=α'*x.1+β'*y.1∧d=α'*x.2+β'*y.2:=by
  rcases u with u | u
  ·refine ⟨α, β, .inl Y,Int.eq_of_mul_eq_mul_left hm0 ?_,Int.eq_of_mul_eq_mul_left hm0 ?_⟩ <;> grind
  ·refine ⟨-α, -β, .inr X,Int.eq_of_mul_eq_mul_left hm0 ?_,Int.eq_of_mul_eq_mul_left hm0 ?_⟩ <;> grind
 have hx1:(s:Int)<(x.1:Int):=by omega
 have hy1:(0:Int)≤(y.1:Int):=Int.natCast_nonneg _
 by_cases h0:α=0
 ·rw [h0,Int.zero_mul,Int.zero_add] at e1 e2
  refine ⟨by rw [e1,e2]; ac_rfl,fun k => ?_⟩
  rw [k,Int.mul_zero] at e2
  omega
 ·exfalso
  by_cases hs:y.2.natAbs≤s
  ·have hl:(n*y.2 - (y.1:Int)*d).natAbs<(m:Int).natAbs:=by
    have t1:=Nat.mul_le_mul hn hs
    have t2:=Nat.mul_le_mul hy hd
    rw [← Int.natAbs_mul] at t1
    have t3:((y.1:Int)*d).natAbs≤s*s:=by rw [Int.natAbs_mul,Int.natAbs_natCast]; exact t2
    rw [Int.natAbs_natCast]
    omega
   have hz:=uT ⟨_,hα⟩ hl
   rw [hα] at hz
   rcases Int.mul_eq_zero.1 hz with k | k <;> omega
  ·rcases Int.lt_trichotomy α 0 with p | p | p
   ·rcases Int.lt_trichotomy β 0 with q | q | q
    ·have t1:=Int.mul_le_mul_of_nonneg_right (show α ≤ -1 by omega) (show (0:Int)≤x.1 by omega)
     have t2:=Int.mul_le_mul_of_nonneg_right (show β≤0 by omega) hy1
     omega
    ·have t1:=Int.mul_le_mul_of_nonneg_right (show α ≤ -1 by omega) (show (0:Int)≤x.1 by omega)
     rw [q,Int.zero_mul] at e1
     omega
    ·have t1:0≤(α*x.2)*(β*y.2):=by
      have e:(α*x.2)*(β*y.2)=(α*β)*(x.2*y.2):=by ac_rfl
      rw [e]
      exact Int.mul_nonneg_of_nonpos_of_nonpos (by have:=Int.mul_neg_of_neg_of_pos p q;omega) v
     have t2:=tv t1
     rw [← e2,Int.natAbs_mul] at t2
     have t3:=Nat.le_mul_of_pos_left y.2.natAbs (show 0<β.natAbs by omega)
     omega
   ·exact h0 p
   ·rcases Int.lt_trichotomy β 0 with q | q | q
    ·have t1:0≤(α*x.2)*(β*y.2):=by
      have e:(α*x.2)*(β*y.2)=(α*β)*(x.2*y.2):=by ac_rfl
      rw [e]
      exact Int.mul_nonneg_of_nonpos_of_nonpos (by have:=Int.mul_neg_of_pos_of_neg p q;omega) v
     have t2:=tv t1
     rw [← e2,Int.natAbs_mul] at t2
     have t3:=Nat.le_mul_of_pos_left y.2.natAbs (show 0<β.natAbs by omega)
     omega
    ·have t1:=Int.mul_le_mul_of_nonneg_right (show 1≤α by omega) (show (0:Int)≤x.1 by omega)
     rw [q,Int.zero_mul] at e1
     omega
    ·have t1:=Int.mul_le_mul_of_nonneg_right (show 1≤α by omega) (show (0:Int)≤x.1 by omega)
     have t2:=Int.mul_le_mul_of_nonneg_right (show 0≤β by omega) hy1
     omega
theorem wc {a n d:Int} {m s:Nat} (hm:2*(s*s)<m) (hsm:s<m) (hn:n.natAbs≤s) (hd:d.natAbs≤s) (hd0:0<d) (hg:Nat.gcd d.natAbs m=1) (hc:(m:Int)∣n - a*d) :
  uL a m s=some (Rat.divInt n d):=by
 have hm0:(m:Int)≠0:=by omega
 have n1:=Int.emod_nonneg a hm0
 have n2:=Int.emod_lt_of_pos a (show 0<(m:Int) by omega)
 obtain ⟨x,hi,hy⟩:=tu (a:=a) (m:=m) (s:=s) (m+1) (m,0) ((a % (m:Int)).toNat,1) (show (a % (m:Int)).toNat<m+1 by omega)
  ⟨.inl (by simp),by simp,hsm,by simp,by
   show (m:Int)∣((a % (m:Int)).toNat:Int) - a*1
   rw [Int.toNat_of_nonneg n1,Int.mul_one]
   have:=Int.dvd_self_sub_emod (x:=a) (m:=(m:Int))
   have e:a % (m:Int) - a = -(a - a % (m:Int)):=by omega
   rw [e]; exact Int.dvd_neg.2 this⟩
 unfold uL
 dsimp only
 generalize kS s (m+1) (m,0) ((a % (m:Int)).toNat,1)=y at *
 obtain ⟨l1,l2⟩:=BS hi hy hm hn hd hd0 hc
 have hE:Rat.divInt (y.1:Int) y.2=Rat.divInt n d:=(Rat.divInt_eq_divInt_iff l2 X).2 l1.symm
 rw [if_neg l2,hE,if_pos]
 have g0:((Nat.gcd n.natAbs d.natAbs:Nat):Int)≠0:=t8 X
 obtain ⟨p1,p2⟩:=q7 (n:=n) hd0
 have d1:((Nat.gcd n.natAbs d.natAbs:Nat):Int)∣n:=Int.gcd_dvd_left ..
 have d2:((Nat.gcd n.natAbs d.natAbs:Nat):Int)∣d:=Int.gcd_dvd_right ..
 have hgm:Nat.gcd (Nat.gcd n.natAbs d.natAbs) m=1:=Nat.eq_one_of_dvd_one (hg▸Nat.dvd_gcd (Nat.dvd_trans (Nat.gcd_dvd_left _ _) (Nat.gcd_dvd_right _ _)) (Nat.gcd_dvd_right _ _))
 have b1:=vZ (a:=n) (b:=d)
 have b2:=zS (a:=n) (b:=d) X
 rw [tr]
 generalize Nat.gcd n.natAbs d.natAbs=g at *
 obtain ⟨n',hn'⟩:=d1
 obtain ⟨d',hd'⟩:=d2
 rw [Int.ediv_eq_of_eq_mul_right g0 hn'] at p1
 rw [Int.ediv_eq_of_eq_mul_right g0 hd'] at p2
 refine ⟨by omega,by omega,?_,?_⟩
 ·refine Nat.eq_one_of_dvd_one (hg▸Nat.dvd_gcd (Nat.dvd_trans (Nat.gcd_dvd_left _ _) ?_) (Nat.gcd_dvd_right _ _))
  have t:=congrArg Int.natAbs hd'
  rw [Int.natAbs_mul,p2,Int.natAbs_natCast,Int.natAbs_natCast] at t
  exact ⟨g,by rw [t]; exact Nat.mul_comm _ _⟩
 ·refine Int.emod_eq_zero_of_dvd ?_
  rw [← p1, ← p2]
  have e:n - a*d=(g:Int)*(n' - a*d'):=by
   conv=>lhs;rw [hn',hd']
   grind
  rw [e] at hc
  have t:=Int.natAbs_dvd_natAbs.2 hc
  rw [Int.natAbs_mul,Int.natAbs_natCast,Int.natAbs_natCast] at t
  have hcop:Nat.Coprime m g:=(Nat.gcd_comm m g).trans hgm
  exact Int.natAbs_dvd_natAbs.1 (by rw [Int.natAbs_natCast]; exact hcop.dvd_of_dvd_mul_left t)
end Tor
end
section
namespace Tor
theorem jl {n:Nat} {g:Nat→Int} (h : ∀ i,i<n→0≤g i):0≤prZ n g:=by
 induction n with
 | zero => exact Int.zero_le_ofNat 1
 | succ n ih => exact Int.mul_nonneg (ih fun i hi => h i X) (h n (Nat.lt_succ_self n))
theorem l6 {n:Nat} {f g:Nat→Int} (h : ∀ i,i<n→f i=g i):prZ n f=prZ n g:=by
 induction n with
 | zero => rfl
 | succ n ih => rw [prZ, prZ, ih fun i hi => h i X, h n (Nat.lt_succ_self n)]
theorem wd {t:Nat} {x:Int} {g:Nat→Int} : ∀ {m},t<m→prZ m (fun i=>if i=t then x else g i)*g t=prZ m g*x
 | m + 1, h => by
  by_cases e:t=m
  ·subst e
   rw [prZ,prZ,if_pos Y,l6 (g:=g) fun i hi=>if_neg X,Int.mul_assoc,Int.mul_assoc,Int.mul_comm x]
  ·have ih:=wd (x:=x) (g:=g) (show t<m by omega)
   rw [prZ,prZ,if_neg (fun h=>e h.symm),Int.mul_assoc,Int.mul_comm (g m), ← Int.mul_assoc,ih,Int.mul_assoc,Int.mul_comm x, ← Int.mul_assoc]
theorem we {n t:Nat} {g:Nat→Int} (ht:t≤n):dH (n+1) g n≤g t:=by
 have h1:g t∈lst (n+1) (dH (n+1) g):=(e6 g (Nat.le_refl (n+1))).mem_iff.2 (List.mem_map.2 ⟨t,List.mem_range.2 X,rfl⟩)
 obtain ⟨a,ha,e⟩:=List.mem_map.1 h1
 have ha:=List.mem_range.1 ha
 rw [← e]
 by_cases h:a=n
 ·rw [h]; exact Int.le_refl _
 ·exact l0 g (n+1) a n X (Nat.lt_succ_self n)
theorem kV {n:Nat} {g:Nat→Int} (hg : ∀ i,0≤g i) {a:Nat} (ha:a<n):0≤dH n g a:=by
 have h1:dH n g a∈lst n g:=(e6 g (Nat.le_refl n)).mem_iff.1 (List.mem_map.2 ⟨a,List.mem_range.2 ha,rfl⟩)
 obtain ⟨i,_,e⟩:=List.mem_map.1 h1
 rw [← e]; exact hg i
theorem oU {A B x y:Int} (hA:0≤A) (hB:0≤B) (hx:0<x) (hy:y≤x) (h:A*x=B*y):A≤B:=by
 have h1:B*y≤B*x:=Int.mul_le_mul_of_nonneg_left hy hB
 rw [← h] at h1
 exact Int.le_of_mul_le_mul_right h1 hx
theorem xH {n t:Nat} {g:Nat→Int} (hg : ∀ i,0≤g i) (ht:t<n) (h0:0<g t):prZ n (fun i=>if i=t then g n else g i)≤prZ n (dH (n+1) g) :=
 oU (jl fun i _=>by split <;> exact hg _) (jl fun i hi=>kV hg X) h0 (we (g:=g) (n:=n) (t:=t) X) (by
  rw [wd ht]
  exact (sV (n+1) g).symm)
theorem xI {n:Nat} {g:Nat→Int} (hg : ∀ i,0≤g i):prZ n g≤prZ n (dH (n+1) g):=by
 have h1:=we (g:=g) (Nat.le_refl n)
 have h2:=kV hg (n:=n+1) (Nat.lt_succ_self n)
 by_cases e:dH (n+1) g n=g n
 ·have hp:=e6 g (Nat.le_refl (n+1))
  rw [fD,fD,e] at hp
  rw [nt,nt,sU ((List.perm_append_right_iff _).1 hp)]
  exact Int.le_refl _
 ·exact oU (jl fun i _=>hg i) (jl fun i hi=>kV hg X) X h1 (sV (n+1) g).symm
def kx (n:Nat) (F:Nat→Nat→Int) (b:Nat→Int):Nat:=if n=0 then 1 else upN (prN n (mG (n+1) n (du n F (fun _=>b))))
theorem Ah {n:Nat} {F:Nat→Nat→Int} {b:Nat→Int} : ((prN n (mG (n+1) n (du n F (fun _=>b))):Nat):Int)=prZ n (dH (n+1) (fun i=>(eR n (du n F (fun _=>b) i):Int))):=by
 rw [l3]
 exact l6 fun i hi=>qd X
theorem uU {n i:Nat} {F:Nat→Nat→Int} {b:Nat→Int} (hi:i<n):du n F (fun _=>b) i=F i:=funext fun k=>if_pos hi
theorem DQ {n:Nat} {F:Nat→Nat→Int} {b:Nat→Int} : du n F (fun _=>b) n=b:=funext fun k=>if_neg (Nat.lt_irrefl n)
theorem wg {n:Nat} {F:Nat→Nat→Int} {b:Nat→Int} : (Lin.bU n F).natAbs≤kx n F b:=by
 unfold kx
 by_cases h0:n=0
 ·subst h0;rw [if_pos Y]; exact Nat.le_refl 1
 ·rw [if_neg h0]
  refine Ae (Int.ofNat_le.1 ?_)
  rw [Ah,Int.natCast_mul,Int.natAbs_mul_self']
  refine Int.le_trans (nv n F) ?_
  rw [l3,l6 (g:=fun i=>(eR n (du n F (fun _=>b) i):Int)) fun i hi=>by rw [uU hi]]
  exact xI fun i=>Int.natCast_nonneg _
theorem BT {n j:Nat} {F:Nat→Nat→Int} (hd:Lin.bU n F≠0) (hj:j<n):0<eR n (F j):=by
 rcases Nat.eq_zero_or_pos (eR n (F j)) with h | h
 ·exfalso
  have h1:=nv n F
  have h2 : ∀ m,j<m→prN m (fun i=>eR n (F i))=0:=fun m hm=>by
   induction m with
   | zero => omega
   | succ m ih =>
    rw [prN]
    by_cases e:j=m
    ·rw [← e,h,Nat.mul_zero]
    ·rw [ih X,Nat.zero_mul]
  rw [h2 n hj] at h1
  have h3:Lin.bU n F*Lin.bU n F=0:=Int.le_antisymm h1 (kR _)
  rcases Int.mul_eq_zero.1 h3 with h | h <;> exact hd h
 ·exact h
theorem wh {n j:Nat} {F:Nat→Nat→Int} {b:Nat→Int} (hd:Lin.bU n F≠0) (hj:j<n):(Lin.bU n (kU F j b)).natAbs≤kx n F b:=by
 unfold kx
 rw [if_neg X]
 refine Ae (Int.ofNat_le.1 ?_)
 rw [Ah,Int.natCast_mul,Int.natAbs_mul_self']
 refine Int.le_trans (nv n _) ?_
 have hlen : ∀ i,i<n→((eR n (kU F j b i):Nat):Int)=(fun i=>if i=j then (fun i=>(eR n (du n F (fun _=>b) i):Int)) n else (fun i=>(eR n (du n F (fun _=>b) i):Int)) i) i:=fun i hi=>by
  dsimp only
  by_cases e:i=j
  ·rw [if_pos e,DQ]; unfold kU eR;rw [e]; simp
  ·rw [if_neg e,uU hi]; unfold kU eR;simp [e]
 rw [l3,l6 hlen]
 exact xH (g:=fun i=>(eR n (du n F (fun _=>b) i):Int)) (fun i=>Int.natCast_nonneg _) hj (by rw [uU hj]; exact Int.natCast_pos.2 (BT hd hj))
theorem wi {n:Nat} {F:Nat→Nat→Int} {b:Nat→Int} (hn:n≤4) (hF : ∀ i j,(F i j).natAbs≤34359738368) (hb : ∀ i,(b i).natAbs≤1152921504606846976):kx n F b≤2^380:=by
 unfold kx
 split
 ·decide +kernel
 ·have h1:prN n (mG (n+1) n (du n F (fun _=>b)))≤(4*(1152921504606846976*1152921504606846976))^n:=rk (n:=n+1) (fun i hi=>v5 (B:=4*(1152921504606846976*1152921504606846976)) (fun i hi=>Nat.le_trans (oS (B:=1152921504606846976) fun k=>by
   unfold du;split
   ·exact Nat.le_trans (hF _ _) S
   ·exact hb _) (Nat.mul_le_mul_right _ hn)) hi) n X
  have h2:(4*(1152921504606846976*1152921504606846976))^n≤(4*(1152921504606846976*1152921504606846976))^4:=Nat.pow_le_pow_right S hn
  generalize prN n (mG (n+1) n (du n F (fun _=>b)))=a at *
  rcases Nat.eq_zero_or_pos (upN a) with h0 | h0
  ·rw [h0]; exact Nat.zero_le _
  ·have h3:=C6 h0
   rcases Nat.lt_or_ge (2^380) (upN a) with h4 | h4
   ·have h5:2^380≤upN a - 1:=Nat.le_sub_one_of_lt h4
    exact absurd (Nat.lt_of_le_of_lt (Nat.mul_le_mul h5 h5) (Nat.lt_of_lt_of_le h3 (Nat.le_trans h1 h2))) U
   ·exact h4
theorem tx (c d:Int):Rat.divInt (-c) (-d)=Rat.divInt c d:=by
 rw [Rat.divInt_eq_div,Rat.divInt_eq_div,Rat.intCast_neg,Rat.intCast_neg]
 grind
theorem DR {p n k s:Nat} {F:Nat→Nat→Int} {b Ed:Nat→Int} (hp:Lin.Pr p) (hd : ¬ (p:Int)∣Lin.bU n F) (hk:2*(kx n F b*kx n F b)<p^k) (hS : ∀ i,i<n→((p:Int)^k)∣b i - bA n (fun t=>Ed t*F t i)) {j:Nat} (hj:j<n)
  (hs1:s*s≤(p^k - 1) / 2) (hs2:(p^k - 1) / 2<(s+1)*(s+1)):uL (Ed j) (p^k) s=some (Rat.divInt (Lin.bU n (kU F j b)) (Lin.bU n F)):=by
 have hd0:Lin.bU n F≠0:=fun e=>hd (e▸Int.dvd_zero _)
 obtain ⟨G,hG⟩:=mK n F
 have h1:=tq hG hS hj
 rw [wb hG hd0 hj] at h1
 have hL:kx n F b≤s:=by
  rcases Nat.lt_or_ge s (kx n F b) with h | h
  ·have:(s+1)*(s+1)≤kx n F b*kx n F b:=Nat.mul_le_mul h h
   omega
  ·exact h
 have b1:=Nat.le_trans (wh (b:=b) hd0 hj) hL
 have b2:=Nat.le_trans (wg (F:=F) (b:=b)) hL
 have hm0:0<p^k:=by omega
 have hm:2*(s*s)<p^k:=by omega
 have hsm:s<p^k:=by
  rcases Nat.eq_zero_or_pos s with h | h
  ·omega
  ·have:=Nat.le_mul_of_pos_right s h
   omega
 have hg:Nat.gcd (Lin.bU n F).natAbs (p^k)=1:=by
  have h2 : ¬ p∣(Lin.bU n F).natAbs:=fun h=>hd (Int.ofNat_dvd_left.2 h)
  exact Nat.Coprime.symm ((hp.coprime h2).pow_left k)
 rw [← Int.natCast_pow] at h1
 generalize Lin.bU n F=d at *
 generalize Lin.bU n (kU F j b)=c at *
 rcases Int.lt_or_gt_of_ne hd0 with h | h
 ·have:=wc (a:=Ed j) (n := -c) (d := -d) (m:=p^k) (s:=s) hm hsm X X X (by rw [Int.natAbs_neg]; exact hg) (by
   obtain ⟨q,hq⟩:=h1
   exact ⟨-q,by rw [Int.mul_neg,Int.mul_neg, ← hq,Int.mul_comm (Ed j)]; omega⟩)
  rw [this]
  congr 1
  exact tx c d
 ·exact wc hm hsm b1 b2 h hg (by rw [Int.mul_comm (Ed j)]; exact h1)
end Tor
end
section
namespace Tor
/-! ### Trial division by one gcd -/
def oV:Nat→Nat→Nat
 | 0, d => d
 | k + 1, d => oV k d * oV k (d + 2 ^ k)
theorem mM : ∀ {k d e:Nat},d≤e→e<d+2^k→e∣oV k d
 | 0, d, e, h1, h2 => by
  have:e=d:=by simp at h2;omega
  subst this;exact Nat.dvd_refl _
 | k + 1, d, e, h1, h2 => by
  rw [Nat.pow_succ] at h2
  rcases Nat.lt_or_ge e (d+2^k) with hl | hl
  ·exact Nat.dvd_trans (mM h1 hl) (Nat.dvd_mul_right _ _)
  ·exact Nat.dvd_trans (mM hl X) (Nat.dvd_mul_left _ _)
theorem mN {n:Nat} : ∀ {k d:Nat},(∀ e,d≤e→e<d+2^k→Nat.Coprime n e)→Nat.Coprime n (oV k d)
 | 0, d, h => h d (Nat.le_refl _) (by simp)
 | k + 1, d, h => by
  refine Nat.Coprime.mul_right (mN fun e h1 h2=>h e h1 ?_) (mN fun e h1 h2=>h e ?_ ?_)
  ·rw [Nat.pow_succ]; omega
  ·have:=Nat.two_pow_pos k;omega
  ·rw [Nat.pow_succ]; omega
theorem xJ {n d:Nat} (hT:pW n) (h1:1≤d) (h2:d<n):Nat.Coprime n d:=by
 have hg:=Nat.gcd_dvd_left n d
 have hd:=Nat.gcd_dvd_right n d
 have hp:0<Nat.gcd n d:=Nat.gcd_pos_of_pos_right _ X
 have hle:Nat.gcd n d≤d:=Nat.le_of_dvd X hd
 show Nat.gcd n d=1
 generalize Nat.gcd n d=g at *
 rcases Nat.lt_or_ge g 2 with h | h
 ·omega
 ·exfalso
  obtain ⟨m,hm⟩:=hg
  by_cases hs:g*g≤n
  ·exact hT g h hs (by rw [hm]; exact Nat.mul_mod_right _ _)
  ·have hmg:m<g:=by
    rcases Nat.lt_or_ge m g with h' | h'
    ·exact h'
    ·have:=Nat.mul_le_mul_left g h';omega
   have hm2:2≤m:=by
    rcases Nat.lt_or_ge m 2 with h' | h'
    ·have:m=0∨m=1:=by omega
     rcases this with rfl | rfl
     ·simp at hm;omega
     ·simp at hm;omega
    ·exact h'
   refine hT m hm2 ?_ (by rw [hm,Nat.mul_comm]; exact Nat.mul_mod_right _ _)
   rw [hm]; exact Nat.mul_le_mul (Nat.le_of_lt hmg) (Nat.le_refl _)
theorem xK {n k:Nat} (h1:2+2^k≤n) (h2:n<(2+2^k)*(2+2^k)):Nat.gcd n (oV k 2)=1↔pW n:=by
 constructor
 ·intro h d hd hs hz
  have hlt:d<2+2^k:=by
   rcases Nat.lt_or_ge d (2+2^k) with h' | h'
   ·exact h'
   ·have:=Nat.mul_le_mul h' h';omega
  have:=Nat.dvd_gcd (Nat.dvd_of_mod_eq_zero hz) (mM hd hlt)
  rw [h] at this
  have:=Nat.le_of_dvd S this
  omega
 ·intro hT
  exact mN fun e h3 h4=>xJ hT X X
/-! ### The prime test, for evaluation -/
noncomputable def xL (p:Nat) (f:Nat):Nat→Nat→Nat→Nat := @Nat.rec (fun _=>Nat→Nat→Nat→Nat) (fun r _ _=>r)
 (fun _ ih r a e => @Nat.rec (fun _=>Nat) r (fun e' _ => @Bool.rec (fun _=>Nat) (ih r (Nat.mod (Nat.mul a a) p) (Nat.div (Nat.succ e') 2)) (ih (Nat.mod (Nat.mul r a) p) (Nat.mod (Nat.mul a a) p) (Nat.div (Nat.succ e') 2)) (Nat.beq (Nat.mod (Nat.succ e') 2) 1)) e) f
theorem wj (p:Nat) : ∀ (f r a e:Nat),xL p f r a e=mv f p r a e
 | 0, _, _, _ => rfl
 | f + 1, r, a, 0 => rfl
 | f + 1, r, a, e + 1 => by
  rw [mv,if_neg X, ← wj p f]
  show @Bool.rec (fun _=>Nat) (xL p f r (a*a % p) ((e+1) / 2)) (xL p f (r*a % p) (a*a % p) ((e+1) / 2)) (Nat.beq ((e+1) % 2) 1)=_
  by_cases h:(e+1) % 2=1
  ·rw [if_pos h,h]; rfl
  ·have h0:(e+1) % 2=0:=by omega
   rw [if_neg h,h0]; rfl
noncomputable def Dp (n:Nat) (c:Nat):Nat→Bool := @Nat.rec (fun _=>Nat→Bool) (fun _=>false)
 (fun _ ih x => @Bool.rec (fun _=>Bool) (ih (Nat.mod (Nat.mul x x) n)) true (Nat.beq (Nat.mod (Nat.mul x x) n) (Nat.sub n 1))) c
theorem l7 (a b:Nat):Nat.beq a b=decide (a=b):=by
 by_cases h:a=b
 ·rw [decide_eq_true h]; exact Nat.beq_eq.mpr h
 ·rw [decide_eq_false h, ← Bool.not_eq_true]; exact fun e=>h (Nat.eq_of_beq_eq_true e)
theorem wk (n:Nat) : ∀ (c x:Nat),Dp n c x=sqrF n c x
 | 0, _ => rfl
 | c + 1, x => by
  rw [sqrF, ← wk n c]
  show @Bool.rec (fun _=>Bool) (Dp n c (x*x % n)) true (Nat.beq (x*x % n) (n - 1))=_
  rw [l7]
  by_cases h:x*x % n=n - 1
  ·rw [if_pos h,decide_eq_true h]
  ·rw [if_neg h,decide_eq_false h]
noncomputable def kr (n O T b:Nat):Bool := @Bool.rec (fun _=>Bool) (@Bool.rec (fun _=>Bool) (Dp n (Nat.sub T 1) (xL n 64 (Nat.mod 1 n) b O)) true (Nat.beq (xL n 64 (Nat.mod 1 n) b O) (Nat.sub n 1))) true (Nat.beq (xL n 64 (Nat.mod 1 n) b O) 1)
theorem uV (n O T b:Nat):kr n O T b=dT n O T b:=by
 unfold kr dT
 rw [wj,wk,l7,l7]
 show @Bool.rec (fun _=>Bool) (@Bool.rec (fun _=>Bool) (sqrF n (T - 1) (mv 64 n (1 % n) b O)) true (decide (mv 64 n (1 % n) b O=n - 1))) true (decide (mv 64 n (1 % n) b O=1))=_
 cases decide (mv 64 n (1 % n) b O=1) <;> cases decide (mv 64 n (1 % n) b O=n - 1) <;> rfl
noncomputable def Dq (n O T:Nat):Bool := @Bool.rec (fun _=>Bool) false (@Bool.rec (fun _=>Bool) false (@Bool.rec (fun _=>Bool) false (kr n O T 7) (kr n O T 5)) (kr n O T 3)) (kr n O T 2)
theorem BU {n O T:Nat} (h7:7<n):Dq n O T=pR n O T 4 0:=by
 have hb : ∀ j,n≠d9 j:=fun j h=>by have:=(ow j).1;omega
 unfold Dq
 simp only [pR,if_neg (hb _),uV]
 show @Bool.rec (fun _=>Bool) false (@Bool.rec (fun _=>Bool) false (@Bool.rec (fun _=>Bool) false (dT n O T 7) (dT n O T 5)) (dT n O T 3)) (dT n O T 2)=(dT n O T 2 && (dT n O T 3 && (dT n O T 5 && (dT n O T 7 && true))))
 cases dT n O T 2 <;> cases dT n O T 3 <;> cases dT n O T 5 <;> cases dT n O T 7 <;> rfl
noncomputable def uW (k:Nat→Nat→Bool) (f:Nat):Nat→Nat→Bool := @Nat.rec (fun _=>Nat→Nat→Bool) (fun o t=>k o t)
 (fun _ ih o t => @Bool.rec (fun _=>Bool) (k o t) (ih (Nat.div o 2) (Nat.succ t)) (Nat.beq (Nat.mod o 2) 0)) f
theorem qi (k:Nat→Nat→Bool) : ∀ (f o t:Nat),uW k f o t=k (dK f o t).1 (dK f o t).2
 | 0, _, _ => rfl
 | f + 1, o, t => by
  rw [dK]
  show @Bool.rec (fun _=>Bool) (k o t) (uW k f (o / 2) (t+1)) (Nat.beq (o % 2) 0)=_
  rw [l7]
  by_cases h:o % 2=0
  ·rw [if_pos h,decide_eq_true h]; exact qi k f _ _
  ·rw [if_neg h,decide_eq_false h]
noncomputable def kW (n:Nat):Bool:=uW (Dq n) 32 (Nat.sub n 1) 0
theorem xN {n:Nat} (h7:7<n) (h31:n<2147483648) (ho:n % 2=1):kW n=cD n:=by
 rw [jP h7]
 unfold kW q6
 rw [if_neg X,if_neg X,qi]
 exact BU h7
/-! ### Runs of numbers -/
noncomputable def Ai (f:Nat→Bool) (k:Nat):Nat→Bool := @Nat.rec (fun _=>Nat→Bool) f (fun k ih d => @Bool.rec (fun _=>Bool) false (ih (Nat.add d (Nat.pow 2 k))) (ih d)) k
theorem rv {f:Nat→Bool} : ∀ {k d:Nat},Ai f k d=true → ∀ e,d≤e→e<d+2^k→f e=true
 | 0, d, h, e, h1, h2 => by
  have:e=d:=by simp at h2;omega
  subst this;exact h
 | k + 1, d, h, e, h1, h2 => by
  have h : @Bool.rec (fun _=>Bool) false (Ai f k (d+2^k)) (Ai f k d)=true:=h
  rw [Nat.pow_succ] at h2
  cases ha:Ai f k d with
  | false => rw [ha] at h; cases h
  | true =>
   rw [ha] at h
   rcases Nat.lt_or_ge e (d+2^k) with hl | hl
   ·exact rv ha e h1 hl
   ·exact rv h e hl X
noncomputable def Dr (k n:Nat):Bool := @Bool.rec (fun _=>Bool) true (@Bool.rec (fun _=>Bool) (@Bool.rec (fun _=>Bool) true false (kW n)) (kW n) (Nat.beq (Nat.gcd n (oV k 2)) 1)) (Nat.beq (Nat.mod n 2) 1)
theorem BV {n k:Nat} (h1:2+2^k≤n) (h2:n<(2+2^k)*(2+2^k)) (h7:7<n) (h31:n<2147483648) (h:Dr k n=true):cD n=eo n:=by
 have hT:=xK h1 h2
 by_cases ho:n % 2=1
 ·rw [← xN h7 h31 ho]
  unfold Dr at h
  rw [show Nat.beq (Nat.mod n 2) 1=true from Nat.beq_eq.mpr ho,l7] at h
  by_cases hg:Nat.gcd n (oV k 2)=1
  ·rw [decide_eq_true hg] at h
   have h:kW n=true:=h
   rw [h,ue.2 ⟨by omega,h31,hT.1 hg⟩]
  ·rw [decide_eq_false hg] at h
   have hf:kW n=false:=by
    cases hq:kW n with
    | false => rfl
    | true => rw [hq] at h; cases h
   rw [hf]
   exact (Bool.eq_false_iff.2 fun e=>hg (hT.2 (ue.1 e).2.2)).symm
 ·have hp:cD n=false:=by
   unfold cD
   rw [if_neg X,if_pos X,decide_eq_false X]
  rw [hp]
  exact (Bool.eq_false_iff.2 fun e=>(ue.1 e).2.2 2 (Nat.le_refl _) X X).symm
theorem BW:Ai (Dr 16) 12 2147479552=true:=by decide +kernel
theorem mO {n:Nat} (h:2147479552≤n) (h':n<2147483648):cD n=eo n :=
 BV (k:=16) (by show 65538≤n;omega) (by show n<65538*65538;omega) X h' (rv BW n h (by show n<2147479552+4096;omega))
end Tor
end
section
namespace Tor
open Go Go.RowKit Go.Proofs
theorem Lin.Pr.invP {p:Nat} (hp:Lin.Pr p):uw p:=fun x hx h0=>by
 have h1 : ¬ p∣x:=fun h=>absurd (Nat.le_of_dvd (Nat.pos_of_ne_zero h0) h) X
 have h2:=hp.inverse h1
 rw [Nat.mod_mul_mod,Nat.mul_comm]; exact h2
theorem tz:((List.range 17).all fun i => !q6 (2147483630+i))=true:=by decide +kernel
theorem Aj:bf cD 2147483648=2147483647:=by
 show iR cD (2147483647+1)=_
 rw [iR,if_pos iP]
theorem Ak : ∀ k,k≤17→iR cD (2147483630+k)=2147483629
 | 0, _ => by
  show iR cD (2147483629+1)=_
  rw [iR,if_pos fQ]
 | k + 1, h => by
  have h1:=List.all_eq_true.1 tz k (List.mem_range.2 X)
  rw [← Nat.add_assoc,iR,jP X,if_neg (by simpa using h1)]
  exact Ak k X
theorem Ds:bf cD 2147483647=2147483629:=Ak 17 S
theorem DS {p:Nat} (h:2147479552≤p) (h':p<2147483648) (hb:cD p=true):Lin.Pr p:=by
 rw [mO h h'] at hb
 exact Lin.Pr.of_trial X (ue.1 hb).2.2
def gh (d:Int):Nat:=if d % 2147483647=0 then 2147483629 else 2147483647
def l8 (d:Int):Prop:=d % 2147483647=0→d % 2147483629≠0
theorem oW (d:Int):gh d=2147483629∨gh d=2147483647:=by
 unfold gh;split
 ·exact .inl Y
 ·exact .inr Y
theorem uX (d:Int):cD (gh d)=true:=by
 rcases oW d with h | h <;> rw [h]
 ·exact fQ
 ·exact iP
theorem nw (d:Int):2147483629≤gh d∧gh d<2147483648:=by
 rcases oW d with h | h <;> rw [h] <;> decide
theorem ks (d:Int):Lin.Pr (gh d):=DS (by have:=nw d;omega) (nw d).2 (uX d)
theorem l9 {d:Int} (h:l8 d) : ¬ ((gh d:Nat):Int)∣d:=by
 unfold gh
 split
 ·rename_i h1;exact fun h2=>h h1 (Int.emod_eq_zero_of_dvd h2)
 ·rename_i h1;exact fun h2=>h1 (Int.emod_eq_zero_of_dvd h2)
theorem wm (d:Int) (hs:bm d) (h:l8 d):Ok Tryz.prog 56 [aL d] (one (.int .u64 (gh d:Nat))):=by
 unfold gh
 split
 ·rename_i h1
  exact xq d 2147483647 2147483629 hs Aj Ds S S S h1 (h h1)
 ·rename_i h1
  exact xn d 2147483647 hs Aj S S h1
def jm (n:Nat) (F:Nat→Nat→Int) (b:Nat→Int) (j:Nat):Rat:=Rat.divInt (Lin.bU n (kU F j b)) (Lin.bU n F)
theorem kt {n:Nat} (hn:n≤4):sQ 2 n:=⟨by decide,Nat.le_trans (Nat.mul_le_mul_left 3 (Nat.pow_le_pow_right (n:=2) S hn)) S⟩
theorem oX {x:Int} (h:x.natAbs≤34359738368):lz 2 x:=cx (k:=2) X
theorem qj {n:Nat} {F:Nat→Nat→Int} (hn:n≤4) (hF : ∀ i j,(F i j).natAbs≤34359738368):bm (Lin.bU n F):=Nat.le_trans (C2 (kt hn) fun i j=>oX (hF i j)) S
theorem uY (n:Nat) (F:Nat→Nat→Int) (b:Nat→Int) (hn:n≤4) (hF : ∀ i j,(F i j).natAbs≤34359738368) (hb : ∀ i,(b i).natAbs≤1152921504606846976) :
  Ok Tryz.prog 53 [bW (n+1) n (du n F (fun _=>b)),one (.int .i64 (n:Nat))] (aL (kx n F b:Nat)):=by
 unfold kx
 split
 ·rename_i h;subst h;exact xx 1 0 _ 0 S
 ·have hB : ∀ i k,(du n F (fun _=>b) i k).natAbs≤1152921504606846976:=fun i k=>by
   unfold du;split
   ·exact Nat.le_trans (hF _ _) S
   ·exact hb _
  refine zU (n+1) n _ n (4*(1152921504606846976*1152921504606846976)) X X X X (fun i j=>Nat.le_trans (hB i j) U) S ?_ (fun i _=>Nat.le_trans (oS (B:=1152921504606846976) (hB i)) (Nat.mul_le_mul_right _ hn))
  exact Nat.lt_of_le_of_lt (Nat.pow_le_pow_right (n:=4*(1152921504606846976*1152921504606846976)) (j:=5) S X) U
theorem ix (n:Nat) (F:Nat→Nat→Int) (b:Nat→Int) (hn:n≤4) (hF : ∀ i j,(F i j).natAbs≤34359738368) (hb : ∀ i,(b i).natAbs≤1152921504606846976) (hd:Lin.bU n F≠0) (hg:l8 (Lin.bU n F)) :
  Ok Tryz.prog 13 [bW n n F,bJ n b] (bv [uN n (jm n F b),one (.int .i64 0)]):=by
 obtain ⟨G,hG⟩:=mK n F
 have hp:=nw (Lin.bU n F)
 exact uP (gh (Lin.bU n F)) n F b (Lin.bU n F) (kx n F b) (jm n F b) (uX _) X hp.2 (ks _).invP (Ag (ks _) hG (l9 hg)) X
  (fun i j=>Nat.le_trans (hF i j) S) (fun i=>Nat.le_trans (hb i) S) (uF n F 2 X (kt hn) (fun i j=>oX (hF i j))) hd (wm _ (qj hn hF) hg) (uY n F b hn hF hb) (wi hn hF hb)
  (fun k Ed hk hS j hj s hs1 hs2=>DR (ks _) (l9 hg) hk hS hj hs1 hs2)
theorem tA (n:Nat) (F:Nat→Nat→Int) (b:Nat→Int) (hn:n≤4) (hF : ∀ i j,(F i j).natAbs≤34359738368) (hd:Lin.bU n F=0) :
  Ok Tryz.prog 13 [bW n n F,bJ n b] (bv [uN 0 (fun _=>0),one (.int .i64 110)]):=by
 have h:=uF n F 2 X (kt hn) (fun i j=>oX (hF i j))
 rw [hd] at h
 exact xC n F b h
theorem jn (n k:Nat) (F:Nat→Nat→Int) (b:Nat→Int) (hn:n≤4) (hF : ∀ i j,(F i j).natAbs≤34359738368) (hb : ∀ i,(b i).natAbs≤1152921504606846976) (hd:Lin.bU n F≠0) (hg:l8 (Lin.bU n F)) (hk:k≤64) :
  Ok Tryz.prog 15 [bW n n F,bJ n b,one (.int .i64 (k:Nat))] (exT fun pre:List (Nat→Int)=>cj (gm (gh (Lin.bU n F)) n F b pre∧pre.length=k) (bv [oN n pre,one (.int .u64 (gh (Lin.bU n F):Nat)),one (.int .i64 0)])):=by
 obtain ⟨G,hG⟩:=mK n F
 have hp:=nw (Lin.bU n F)
 exact xu (gh (Lin.bU n F)) n k F b (Lin.bU n F) (uX _) X hp.2 (ks _).invP (Ag (ks _) hG (l9 hg)) X
  (fun i j=>Nat.le_trans (hF i j) S) (fun i=>Nat.le_trans (hb i) S) (uF n F 2 X (kt hn) (fun i j=>oX (hF i j))) hd (wm _ (qj hn hF) hg) hk
end Tor
end
section
namespace Tor
open Go Go.RowKit Go.Proofs
theorem D1 : ∀ n,n≤4→rdB 2 n≤1099511627700:=by decide +kernel
theorem xP (n:Nat) (F:Nat→Nat→Int) (hn:n≤4) (hF : ∀ i j,(F i j).natAbs≤34359738368):Ok Tryz.prog 20 [bW n n F] (aL (Lin.bU n F)):=uS n F 2 X S (fun i j=>oX (hF i j)) (D1 n hn)
attribute [local irreducible] J PJ aK one slT bR bC bv exT cj eP aT aI slV VT.le Ret bL xO
attribute [local irreducible] aL
theorem qk : ∀ k,k≤17→iR eo (2147483630+k)=2147483629
 | 0, _ => by
  show iR eo (2147483629+1)=_
  rw [iR,if_pos (by rw [← mO S S]; exact fQ)]
 | k + 1, h => by
  have h1:=List.all_eq_true.1 tz k (List.mem_range.2 X)
  rw [← Nat.add_assoc,iR, ← mO X X,jP X,if_neg (by simpa using h1)]
  exact qk k X
theorem BX:bf eo 2147483647=2147483629:=qk 17 S
def dgR (p:Nat) (q:Rat):Nat:=(q.num % (p:Int)).toNat*((q.den % p)^(p - 2) % p) % p
theorem BY {n:Nat} {f:Nat→Int} {l:List Int} (h : ∀ j,j<n→f j=l.getD j 0) (hn:n=l.length):VT.le (bJ n f) (bJ l.length (fun j=>l.getD j 0)):=by
 subst hn
 exact d5 fun j hj=>by rw [h j hj]; exact VT.le_refl _
theorem iy (l:List Int) (hl:l.length≤1048576) (h:(l.all fun x=>decide (-9223372036854775808≤x) && decide (x≤9223372036854775807))=true):Ok Tryz.prog 44 [gD .i64 l] (bJ l.length (fun j=>l.getD j 0)):=by
 have hi:=kp 1 l.length l S hl h
 unfold IN bW gD at *
 refine Ok.enter Tryz.func44 Y Tryz.ntmps44 Y (fun w O => ?_)
 refine ae (ai (En Y (Ep (aa (ae (ai (Em Y (El (aX Y) (Em Y ?_)))))))))
 refine El (am (hi) Y ⟨H,H,H,Er⟩) ?_
 refine El (u6 Y Y) (El (aC Y Y S) (El (aO Y) (En Y (Ep (aa (aD ?_))))))
 refine aS Tryz.results44 (.tmp Y (BY (fun j hj=>by unfold eS;rw [Nat.zero_mul,Nat.zero_add]) Y))
theorem uZ (n:Nat) (f:Nat→Int):Ok Tryz.prog 65 [bJ n f,bJ n f] (one (.bool true)):=by
 have h:=sC ((List.range n).map f) ((List.range n).map f)
 rw [decide_eq_true Y] at h
 exact h.le ⟨oz n f,oz n f,Er⟩ H
theorem u0 (n l:Nat) (f g:Nat→Nat→Int) (hl:l≤1048576) (h : ∀ i j,i<l→j<n→f i j=g i j):Ok Tryz.prog 18 [slT .one l (fun i=>bJ n (f i)),slT .one l (fun i=>bJ n (g i))] (one (.bool true)):=by
 have hv : ∀ i,i<l→Ok Tryz.prog 65 [bJ n (f i),bJ n (g i)] (one (.bool true)):=fun i hi=>(uZ n (g i)).le ⟨d5 fun j hj=>by rw [h i j hi hj]; exact VT.le_refl _,H,Er⟩ H
 refine Ok.enter Tryz.func18 Y Tryz.ntmps18 Y (fun w O => ?_)
 refine ae (ai (En Y (Ep (aa (ae (ae (ai (Em Y (El (aX Y) ?_)))))))))
 refine Em Y (El (aX Y) (El (sF X (dy Y Y)) (Ep (aa (aB Y (az (aa (ae (ae ?_)))))))))
 refine ai (En Y (Ep (aa (au (co (Γ' := [(0,_),(1,_),(4,_),(5,_)]) Eg (SubM.refl _) ?_)))))
 refine bB (σ:=Nat) (Γk := [(0,_),(1,_)]) Eg (fun i => [(5,one (.int .i64 (i:Nat)))]) (fun i M0=>M0) (fun i=>i≤l) (fun i=>l - i) (0) (Nat.zero_le _) Eh (.nil) (fun i hi => ?_)
 refine bQ (Γ' := [(5,_),(0,_),(1,_)]) (M' := []) Y Y ?_
 by_cases hi2:i<l
 ·have hvi:=hv i hi2
  refine ae (ae (ai (Em Y (Em Y (El (aX Y) (El (sT X (a6 Y Y)) (Ep (aa (aG Y ?_)))))))))
  refine az (aa (ae (au (ae (a7 10 aZ Z S (Em Y (Em Y (El (aC Y Y X) (El (aO Y) ?_)))))))))
  refine Em Y (Em Y (El (aC Y Y X) (El (aO Y) ?_)))
  refine El (am (hv _ (by assumption)) Y ⟨H,H,Er⟩) ?_
  refine El (cS Y) (Ep (Ep (aa (aB Y (az (aE (aa (ai (Em Y ?_)))))))))
  refine El (bK _ 1 Y Y X) (En Y (Ep ?_))
  refine aP (i+1) X X Eh (.nil)
 ·refine ae (ae (ai (Em Y (Em Y (El (aX Y) (El (sF X (a6 Y Y)) (Ep (aa (aB Y ?_)))))))))
  refine aY (av (av (aF (aa (ae (ai (En Y (Ep (aa ?_)))))))))
  refine aD ?_
  refine aS Tryz.results18 (.tmp Y H)
end Tor
end
section
namespace Tor
open Go Go.RowKit Go.Proofs
theorem tB {c d:Int} : Rat.divInt c d=(c:Rat) / (d:Rat):=Rat.divInt_eq_div c d
theorem nx {n j:Nat} {F G:Nat→Nat→Int} {b:Nat→Int} (h:AdjI n F G (Lin.bU n F)) (hd:Lin.bU n F≠0) (hj:j<n):jm n F b j=(crB n b G j:Rat) / (Lin.bU n F:Rat):=by
 unfold jm;rw [tB,wb h hd hj]
theorem Al {n k:Nat} {F:Nat→Nat→Int} {b:Nat→Int} (hd:Lin.bU n F≠0) (hk:k<n):Lin.sm n (fun i=>jm n F b i*(F i k:Rat))=(b k:Rat):=by
 obtain ⟨G,h⟩:=mK n F
 have h0:(Lin.bU n F:Rat)≠0:=fun e=>hd (Rat.intCast_eq_zero_iff.1 e)
 have h1:=congrArg (fun z:Int=>(z:Rat)) (wa (b:=b) h hk)
 rw [ii,Rat.intCast_mul] at h1
 rw [Lin.be (g:=fun i=>((crB n b G i*F i k:Int):Rat)*(1 / (Lin.bU n F:Rat))) (fun i hi=>by rw [nx h hd hi,Rat.intCast_mul]; grind),Lin.io,h1]
 grind
theorem xQ {n:Nat} {F:Nat→Nat→Int} {b:Nat→Int} {x:Nat→Rat} (hd:Lin.bU n F≠0) (hx : ∀ k,k<n→Lin.sm n (fun i=>x i*(F i k:Rat))=(b k:Rat)) {j:Nat} (hj:j<n):x j=jm n F b j:=by
 obtain ⟨G,h⟩:=mK n F
 have h0:(Lin.bU n F:Rat)≠0:=fun e=>hd (Rat.intCast_eq_zero_iff.1 e)
 have h1:Lin.sm n (fun k=>(b k:Rat)*(G k j:Rat))=(crB n b G j:Rat):=by
  unfold crB;rw [ii]; exact Lin.be fun k _=>by rw [Rat.intCast_mul]
 have h2:Lin.sm n (fun k=>Lin.sm n (fun i=>x i*(F i k:Rat))*(G k j:Rat))=Lin.sm n (fun i=>x i*Lin.sm n (fun k=>(F i k:Rat)*(G k j:Rat))):=by
  rw [Lin.be (g:=fun k=>Lin.sm n (fun i=>x i*((F i k:Rat)*(G k j:Rat)))) (fun k _=>by rw [← Lin.io]; exact Lin.be fun i _=>by grind),Lin.qP]
  exact Lin.be fun i _=>by rw [Lin.np]
 rw [Lin.be (f:=fun k=>Lin.sm n (fun i=>x i*(F i k:Rat))*(G k j:Rat)) (g:=fun k=>(b k:Rat)*(G k j:Rat)) (fun k hk=>by rw [hx k hk]),h1,
  Lin.be (f:=fun i=>x i*Lin.sm n (fun k=>(F i k:Rat)*(G k j:Rat))) (g:=fun i=>if i=j then x i*(Lin.bU n F:Rat) else 0) (fun i hi=>by
   have e:Lin.sm n (fun k=>(F i k:Rat)*(G k j:Rat))=((if i=j then Lin.bU n F else 0:Int):Rat):=by
    rw [← h.fg i j hi hj,ii]; exact Lin.be fun k _=>by rw [Rat.intCast_mul]
   rw [e]
   split
   ·rfl
   ·rw [Rat.intCast_zero,Rat.mul_zero]),Lin.mr hj] at h2
 rw [nx h hd hj,h2]
 grind
attribute [local irreducible] J PJ aK one slT bR bC bv exT cj eP aT aI slV VT.le Ret bL xO
attribute [local irreducible] aL cB
end Tor
end
section
namespace Tor
open Go Go.RowKit Go.Proofs
def nh (p n:Nat) (F:Nat→Nat→Int) (b:Nat→Int):Nat→Nat→Rat
 | 0 => jm n F b
 | k + 1 => fun j => (nh p n F b k j - (((dgR p (nh p n F b k j) : Nat) : Int) : Rat)) / ((p : Int) : Rat)
theorem BZ {n:Nat} {b c:Nat→Int} {G:Nat→Nat→Int} {m:Int} (j:Nat):crB n (fun i=>b i+m*c i) G j=crB n b G j+m*crB n c G j:=by
 unfold crB
 rw [show (fun i=>(b i+m*c i)*G i j)=fun i=>b i*G i j+m*(c i*G i j) by funext i;rw [Int.add_mul,Int.mul_assoc],gF,dU]
theorem B1 {n j:Nat} {d:Int} {F G:Nat→Nat→Int} {Ed:Nat→Int} (h:AdjI n F G d) (hj:j<n):crB n (fun i=>bA n (fun t=>Ed t*F t i)) G j=d*Ed j:=by
 have h1:=tq (m:=0) (b:=fun i=>bA n (fun t=>Ed t*F t i)) (Ed:=Ed) h (fun i _=>by rw [Int.sub_self]; exact Int.dvd_refl 0) hj
 have:=Int.zero_dvd.1 h1
 omega
theorem tC {p n k j:Nat} {d:Int} {F G:Nat→Nat→Int} {R:Nat→Nat→Nat} {b:Nat→Int} (hp:0<p) (h:AdjI n F G d) (hR:sY p n F R) (hj:j<n) :
  crB n (stR p n F R b k) G j=d*dgs p n R (stR p n F R b k) j+(p:Int)*crB n (stR p n F R b (k+1)) G j:=by
 rw [← B1 (Ed:=dgs p n R (stR p n F R b k)) h hj, ← BZ j]
 unfold crB
 exact dF fun i hi=>by rw [sZ hp hR k hi]
theorem u3 {p:Nat} {c d:Int} {x:Nat} (hp:Lin.Pr p) (hd : ¬ (p:Int)∣d) (hx:x<p) (hc:(p:Int)∣c - d*x):((c:Rat) / (d:Rat)).den % p≠0∧dgR p ((c:Rat) / (d:Rat))=x:=by
 have hd0:d≠0:=fun e=>hd (e▸Int.dvd_zero _)
 have hp2:=hp.1
 have hden:(((c:Rat) / (d:Rat)).den:Int)∣d:=by
  rw [← Rat.divInt_eq_div,Rat.den_divInt,if_neg hd0]
  exact Int.ofNat_dvd_left.2 (Nat.div_dvd_of_dvd (Nat.gcd_dvd_left _ _))
 have hnum:((c:Rat) / (d:Rat)).num*d=c*((c:Rat) / (d:Rat)).den:=by
  have h1:=Rat.num_divInt_den ((c:Rat) / (d:Rat))
  rw [Rat.divInt_eq_div] at h1
  have hd1:(d:Rat)≠0:=fun e=>hd0 (Rat.intCast_eq_zero_iff.1 e)
  have hq1:((((c:Rat) / (d:Rat)).den:Int):Rat)≠0:=fun e=>fE _ (Rat.intCast_eq_zero_iff.1 e)
  generalize ((c:Rat) / (d:Rat)).num=a at *
  generalize ((c:Rat) / (d:Rat)).den=e at *
  have h2:(a:Rat)*(d:Rat)=(c:Rat)*((e:Int):Rat):=by
   grind
  rw [← Rat.intCast_mul, ← Rat.intCast_mul] at h2
  exact Rat.intCast_inj.1 h2
 generalize hq:(c:Rat) / (d:Rat)=q at *
 have hdp : ¬ p∣q.den:=fun h=>hd (Int.dvd_trans (Int.natCast_dvd_natCast.2 h) hden)
 have h0:q.den % p≠0:=fun h=>hdp (Nat.dvd_of_mod_eq_zero h)
 refine ⟨h0,?_⟩
 -- the numerator
 have h1:(p:Int)∣d*(q.num - q.den*x):=by
  obtain ⟨t,ht⟩:=hc
  refine ⟨q.den*t,?_⟩
  have e:c*q.den=(d*x+p*t)*q.den:=by rw [← ht]; congr 1;omega
  rw [Int.mul_sub,Int.mul_comm d,hnum,e]
  grind
 have h2:(p:Int)∣q.num - q.den*x:=by
  have h3:=Int.natAbs_dvd_natAbs.2 h1
  rw [Int.natAbs_natCast,Int.natAbs_mul] at h3
  rcases hp.mul h3 with h4 | h4
  ·exact absurd (Int.ofNat_dvd_left.2 h4) hd
  ·exact Int.ofNat_dvd_left.2 h4
 have hinv:=hp.inverse (a:=q.den % p) (fun h=>h0 (Nat.eq_zero_of_dvd_of_lt h (Nat.mod_lt _ X)))
 unfold dgR
 generalize (q.den % p)^(p - 2)=v at *
 have hv:(p:Int)∣((q.den % p:Nat):Int)*(v:Int) - 1:=by
  have h3:=ei (q.den % p*v) p
  rw [hinv,Int.natCast_mul] at h3
  exact iF h3
 have hv2:(p:Int)∣(q.den:Int)*(v:Int) - 1:=by
  have h3:=dq (v:Int) (iF (ei q.den p))
  exact gg h3 hv
 have hv3:=ei v p
 have hn3:(p:Int)∣((q.num % (p:Int)).toNat:Int) - q.num:=by
  rw [Int.toNat_of_nonneg (Int.emod_nonneg _ X)]
  exact ⟨-(q.num / (p:Int)),by have:=Int.mul_ediv_add_emod q.num (p:Int);rw [Int.mul_neg]; omega⟩
 have h5:(p:Int)∣(((q.num % (p:Int)).toNat*(v % p) % p:Nat):Int) - (x:Int):=by
  refine gg (ei _ p) ?_
  rw [Int.natCast_mul]
  refine gg (dq _ hn3) ?_
  have h6:=dq q.num hv3
  rw [Int.mul_comm _ q.num,Int.mul_comm _ q.num] at h6
  refine gg h6 ?_
  have h8:=dq (x:Int) hv2
  obtain ⟨s,hs⟩:=Int.dvd_trans h2 (Int.dvd_mul_right _ (v:Int))
  obtain ⟨t,ht⟩:=h8
  exact ⟨s+t,by rw [Int.mul_add, ← hs, ← ht]; grind⟩
 have h9:(q.num % (p:Int)).toNat*(v % p) % p<p:=Nat.mod_lt _ X
 generalize (q.num % (p:Int)).toNat*(v % p) % p=y at *
 obtain ⟨s,hs⟩:=h5
 have h10:s=0:=by
  by_cases h:1≤s
  ·have:=Int.mul_le_mul_of_nonneg_left h (show (0:Int)≤(p:Int) by omega)
   omega
  ·by_cases h':s ≤ -1
   ·have:=Int.mul_le_mul_of_nonneg_left h' (show (0:Int)≤(p:Int) by omega)
    omega
   ·omega
 rw [h10,Int.mul_zero] at hs
 omega
theorem B2 {p n:Nat} {F G:Nat→Nat→Int} {R:Nat→Nat→Nat} {b:Nat→Int} (hp:Lin.Pr p) (h:AdjI n F G (Lin.bU n F)) (hd : ¬ (p:Int)∣Lin.bU n F) (hR:sY p n F R) : ∀ k j,j<n →
  nh p n F b k j=(crB n (stR p n F R b k) G j:Rat) / (Lin.bU n F:Rat)∧(nh p n F b k j).den % p≠0∧dgR p (nh p n F b k j)=eI p n R (stR p n F R b k) n j:=by
 have hd0:Lin.bU n F≠0:=fun e=>hd (e▸Int.dvd_zero _)
 have hp2:=hp.1
 have fin : ∀ k j,j<n→nh p n F b k j=(crB n (stR p n F R b k) G j:Rat) / (Lin.bU n F:Rat)→(nh p n F b k j).den % p≠0∧dgR p (nh p n F b k j)=eI p n R (stR p n F R b k) n j:=fun k j hj e=>by
  rw [e]
  exact u3 hp hd (jh hp2 n j) ⟨crB n (stR p n F R b (k+1)) G j,by
   have e:crB n (stR p n F R b k) G j=Lin.bU n F*(eI p n R (stR p n F R b k) n j:Int)+(p:Int)*crB n (stR p n F R b (k+1)) G j:=tC X h hR hj
   omega⟩
 intro k
 induction k with
 | zero => exact fun j hj => ⟨nx h hd0 hj, fin 0 j hj (nx h hd0 hj)⟩
 | succ k ih =>
  intro j hj
  obtain ⟨h1,h2,h3⟩:=ih j hj
  have e:nh p n F b (k+1) j=(crB n (stR p n F R b (k+1)) G j:Rat) / (Lin.bU n F:Rat):=by
   show (nh p n F b k j - (((dgR p (nh p n F b k j):Nat):Int):Rat)) / ((p:Int):Rat)=_
   have h4:=congrArg (fun z:Int=>(z:Rat)) (tC (k:=k) (b:=b) X h hR hj)
   rw [Rat.intCast_add,Rat.intCast_mul,Rat.intCast_mul] at h4
   have hd1:(Lin.bU n F:Rat)≠0:=fun e=>hd0 (Rat.intCast_eq_zero_iff.1 e)
   have hp1:((p:Int):Rat)≠0:=fun e=>by have:=Rat.intCast_eq_zero_iff.1 e;omega
   rw [h3,h1,h4]
   rw [show ((eI p n R (stR p n F R b k) n j:Nat):Int)=dgs p n R (stR p n F R b k) j from rfl]
   generalize ((dgs p n R (stR p n F R b k) j:Int):Rat)=a at *
   generalize (crB n (stR p n F R b (k+1)) G j:Rat)=c at *
   generalize (Lin.bU n F:Rat)=d at *
   generalize ((p:Int):Rat)=q at *
   grind
  exact ⟨e,fin (k+1) j hj e⟩
end Tor
end
section
namespace Tor
open Go Go.RowKit Go.Proofs
theorem B4 {n j:Nat} {F:Nat→Nat→Int} {b:Nat→Int} (hn:n≤4) (hF : ∀ i j,(F i j).natAbs≤34359738368) (hb : ∀ i,(b i).natAbs≤1152921504606846976) (hd:Lin.bU n F≠0) (hj:j<n):qz 12 (jm n F b j):=by
 have hL:=wi hn hF hb
 have e : ∀ x:Int,x.natAbs≤kx n F b→lz 12 x:=fun x hx=>cx (k:=12) (Nat.lt_of_le_of_lt (Nat.le_trans hx hL) U)
 exact rq (e _ (wh hd hj)) (e _ wg) hd
attribute [local irreducible] J PJ aK one slT bR bC bv exT cj eP aT aI slV VT.le Ret bL xO
attribute [local irreducible] aL cB
end Tor
end
section
namespace Tor
open Go Go.RowKit Go.Proofs
theorem tD {l:List Int} {B:Nat} (h : ∀ x∈l,x.natAbs≤B) (j:Nat):(l.getD j 0).natAbs≤B:=by
 rw [List.getD_eq_getElem?_getD]
 cases e:l[j]? with
 | none => exact Nat.zero_le _
 | some x => exact h x (List.mem_of_getElem? e)
theorem tE {c:Nat} {l:List Int} (h:(l.all fun x=>decide (x.natAbs≤34359738368))=true) : ∀ i j,(eS c l i j).natAbs≤34359738368:=fun i j=>tD (fun x hx=>of_decide_eq_true (List.all_eq_true.1 h x hx)) _
theorem u4 {pre:List (Nat→Int)} (hg:gm 2147483647 1 (eS 1 [2]) (fun j => [1].getD j 0) pre) (hl:pre.length=2):pre.getD 0 z0 0=1073741824∧pre.getD 1 z0 0=1073741823:=by
 obtain ⟨x,y,rfl⟩ : ∃ x y,pre = [x,y]:=by
  match pre,hl with
  | [x, y], _ => exact ⟨x, y, rfl⟩
 have hy:=(show gm 2147483647 1 (eS 1 [2]) (fun j => [1].getD j 0) ([x] ++ [y]) from hg).last S 0
 have hx:=(show gm 2147483647 1 (eS 1 [2]) (fun j => [1].getD j 0) ([] ++ [x]) from (show gm 2147483647 1 (eS 1 [2]) (fun j => [1].getD j 0) ([x] ++ [y]) from hg).init).last S 0
 obtain ⟨t,ht⟩:=hg.sum S 0 S
 have ht:(1:Int) - (0+(0+(2147483647:Int)^0*x 0+(2147483647:Int)^1*y 0)*2)=(2147483647:Int)^2*t:=ht
 rw [Int.pow_zero,Int.pow_succ,Int.pow_zero,show (2147483647:Int)^2=4611686014132420609 by decide] at ht
 show x 0=_∧y 0=_
 omega
theorem B5 {φ ψ χ:VT} : VT.le (bv [φ, ψ, χ]) (bv [bL, ψ, χ]):=by
 rintro v g ⟨vs,h1,h2⟩
 refine ⟨vs,h1,?_⟩
 match vs,h2 with
 | [a, b, c], ⟨p, q, r, _⟩ => exact ⟨trivial, q, r, trivial⟩
theorem tF {n k:Nat} {l:List (Nat→Int)} {f:Nat→Nat→Int} (hk:l.length=k) (h : ∀ i j,i<k→j<n→l.getD i z0 j=f i j) {ψ χ:VT} : VT.le (bv [oN n l, ψ, χ]) (bv [slT .one k (fun i=>bJ n (f i)), ψ, χ]):=by
 subst hk
 rintro v g ⟨vs,h1,h2⟩
 refine ⟨vs,h1,?_⟩
 match vs,h2 with
 | [a, b, c], ⟨p, q, r, _⟩ => exact ⟨(d5 fun i hi => d5 fun j hj => by rw [h i j hi hj]; exact VT.le_refl _ : VT.le (oN n l) _) _ _ p, q, r, trivial⟩
theorem ma {n m:Nat} {f g:Nat→Rat} (hn:n=m) (h : ∀ i,i<n→f i=g i) {χ:VT} : VT.le (bv [uN n f, χ]) (bv [dV m g, χ]):=by
 subst hn
 rintro v k ⟨vs,h1,h2⟩
 refine ⟨vs,h1,?_⟩
 match vs,h2 with
 | [a, b], ⟨p, q, _⟩ => exact ⟨BL h _ _ p, q, trivial⟩
theorem Am {L:Lay} {φ ψ:VT} {f:Nat→VT} (h0:φ=f 0) (h1:ψ=f 1):VT.le (slT L 2 (fun q => [ψ, φ].reverse.getD q bL)) (slT L 2 f):=d5 fun i hi=>by
 rcases (show i=0∨i=1 by omega) with rfl | rfl
 ·exact kn h0
 ·exact kn h1
theorem B6 {L:Lay} {φ:VT} {f:Nat→VT} (h0:φ=f 0):VT.le (slT L 1 (fun q => [φ].reverse.getD q bL)) (slT L 1 f):=d5 fun i hi=>by
 obtain rfl:i=0:=by omega
 exact kn h0
theorem An {a:Rat} {g:Nat→Rat} (h0:a=g 0):VT.le (slT (.agg 4) 1 (fun q => [cB a].reverse.getD q bL)) (dV 1 g):=B6 (f:=fun i=>cB (g i)) (congrArg cB h0)
theorem Ao {a b:Rat} {g:Nat→Rat} (h0:a=g 0) (h1:b=g 1):VT.le (slT (.agg 4) 2 (fun q => [cB b,cB a].reverse.getD q bL)) (dV 2 g):=Am (f:=fun i=>cB (g i)) (congrArg cB h0) (congrArg cB h1)
theorem Ap {f:Nat→Int} : VT.le (one (.slice none 0 0)) (bJ 0 f):=eV
theorem Dt:Ok Tryz.prog 13 [bW 0 0 (fun _ _=>0),bJ 0 (fun _=>0)] (bv [slT (.agg 4) 0 (fun _=>cB 0),one (.int .i64 0)]) :=
 (ix 0 (fun _ _=>0) (fun _=>0) S (fun _ _=>Nat.zero_le _) (fun _=>Nat.zero_le _) S (by unfold l8;decide +kernel)).le (de _) (ma (g:=fun _=>0) Y (fun i hi=>absurd hi (Nat.not_lt_zero i)))
attribute [local irreducible] J PJ aK one slT bR bC bv exT cj eP aT aI slV VT.le Ret bL xO
attribute [local irreducible] aL cB bW bJ dV
set_option maxRecDepth 20000 in
theorem tG:Ok Tryz.prog 8 [] (one (.bool true)):=by
 have i1:Ok Tryz.prog 43 [one (.int .i64 (2:Nat)),one (.int .i64 (2:Nat)),gD .i64 [1,2,3,4]] (bW 2 2 (eS 2 [1,2,3,4])):=kp 2 2 [1,2,3,4] S S S
 have i2:Ok Tryz.prog 43 [one (.int .i64 (1:Nat)),one (.int .i64 (1:Nat)),gD .i64 [2]] (bW 1 1 (eS 1 [2])):=kp 1 1 [2] S S S
 have i3:Ok Tryz.prog 43 [one (.int .i64 (1:Nat)),one (.int .i64 (1:Nat)),gD .i64 [2147483647]] (bW 1 1 (eS 1 [2147483647])):=kp 1 1 [2147483647] S S S
 have i4:Ok Tryz.prog 43 [one (.int .i64 (2:Nat)),one (.int .i64 (2:Nat)),gD .i64 [1,2,2,4]] (bW 2 2 (eS 2 [1,2,2,4])):=kp 2 2 [1,2,2,4] S S S
 have i5:Ok Tryz.prog 43 [one (.int .i64 (1:Nat)),one (.int .i64 (2:Nat)),gD .i64 [1,2]] (bW 1 2 (eS 2 [1,2])):=kp 1 2 [1,2] S S S
 have w1:Ok Tryz.prog 44 [gD .i64 [1,0]] (bJ 2 (fun j=>([1,0]:List Int).getD j 0)):=iy [1,0] S S
 have w2:Ok Tryz.prog 44 [gD .i64 [1]] (bJ 1 (fun j=>([1]:List Int).getD j 0)):=iy [1] S S
 have w3:Ok Tryz.prog 44 [gD .i64 [1073741824]] (bJ 1 (fun j=>([1073741824]:List Int).getD j 0)):=iy [1073741824] S S
 have w4:Ok Tryz.prog 44 [gD .i64 [1073741823]] (bJ 1 (fun j=>([1073741823]:List Int).getD j 0)):=iy [1073741823] S S
 have n1:=Aa 0 0 S S
 have s1:=(ix 2 (eS 2 [1,2,3,4]) (fun j=>([1,0]:List Int).getD j 0) S (tE S) (tD S) U (by unfold l8;decide +kernel)).le (de _) (ma (g:=fun i=>(([-2,1]:List Int).getD i 0:Rat)) Y U)
 have s2:=(ix 1 (eS 1 [2]) (fun j=>([1]:List Int).getD j 0) S (tE S) (tD S) U (by unfold l8;decide +kernel)).le (de _) (ma (g:=fun i=>Rat.divInt 1 2) Y U)
 have s3:=Dt
 have s4:=(tA 2 (eS 2 [1,2,2,4]) (fun j=>([1,0]:List Int).getD j 0) S (tE S) U).le (de _) (ma (g:=fun _=>0) Y (fun i hi=>absurd hi (Nat.not_lt_zero i)))
 have s5:=(xB 1 2 2 (eS 2 [1,2]) (fun j=>([1,0]:List Int).getD j 0) S).le (de _) (ma (g:=fun _=>0) Y (fun i hi=>absurd hi (Nat.not_lt_zero i)))
 have d1:=(jn 1 2 (eS 1 [2]) (fun j=>([1]:List Int).getD j 0) S (tE S) (tD S) U (by unfold l8;decide +kernel) S).le (de _)
  (tO fun pre=>qp fun h=>tF (f:=fun i j=>if i=0 then ([1073741824]:List Int).getD j 0 else ([1073741823]:List Int).getD j 0) h.2 (fun i j hi hj=>by
   have:=u4 h.1 h.2
   obtain rfl:j=0:=by omega
   rcases (show i=0∨i=1 by omega) with rfl | rfl
   ·exact this.1
   ·exact this.2))
 rw [show gh (Lin.bU 1 (eS 1 [2]))=2147483647 by decide +kernel] at d1
 have d2:=(jn 1 1 (eS 1 [2147483647]) (fun j=>([1]:List Int).getD j 0) S (tE S) (tD S) U (by unfold l8;decide +kernel) S).le (de _) (tO fun pre=>qp fun h=>B5)
 rw [show gh (Lin.bU 1 (eS 1 [2147483647]))=2147483629 by decide +kernel] at d2
 have d3:=uK 1 (eS 1 [2]) (fun j=>([1]:List Int).getD j 0) 65 S
 have hsa:=u0 1 2 (fun i j=>if i=0 then ([1073741824]:List Int).getD j 0 else ([1073741823]:List Int).getD j 0) (fun i j=>if i=0 then ([1073741824]:List Int).getD j 0 else ([1073741823]:List Int).getD j 0) S (fun i j _ _=>rfl)
 have hl1:=kT 2 2 (fun i=>(([-2,1]:List Int).getD i 0:Rat)) (fun i=>(([-2,1]:List Int).getD i 0:Rat)) S
 have hl2:=kT 1 1 (fun i=>Rat.divInt 1 2) (fun i=>Rat.divInt 1 2) S
 rw [decide_eq_true ⟨rfl,fun i _=>rfl⟩] at hl1 hl2
 have m1:=xE 1 2 S S S S S
 have u1:=iu (-2) S S
 have u2:=iu 1 S S
 refine Ok.enter Tryz.func8 Y Tryz.ntmps8 Y (fun w O => ?_)
 refine ae (ai (En Y (Ep (aa (ae (ai (stS Y Y Y Y (PartsK.cons Y (PartsK.cons Y ?_)))))))))
 refine PartsK.cons Y (PartsK.cons Y (PartsK.nil ?_))
 refine El (am (i1) Y ⟨H,H,(iw [1,2,3,4]),Er⟩) ?_
 refine gv Y Y Y Y ?_
 refine El (am (i2) Y ⟨H,H,(iV 2),Er⟩) ?_
 refine bD (T:=30) Y Y Y (fun b1 => ?_)
 refine bD (T:=30) Y Y Y (fun b2 => ?_)
 refine lj 1 Y Y Y Y (lj 0 Y Y Y Y (Ep (aa (ae (a7 8 aZ Z S (El (ak 1 Y Y Y) (stS Y Y Y Y (PartsK.cons Y (PartsK.cons Y ?_)))))))))
 refine PartsK.nil ?_
 refine El (am (w1) Y ⟨(iw [1,0]),Er⟩) ?_
 refine El (am (s1) Y ⟨H,H,Er⟩) ?_
 refine Em Y (El (ar Y Y) (El (ar Y Y) (En Y (Ep (En Y (Ep (aa (ae (a7 8 aZ Z S ?_)))))))))
 refine El (ak 0 Y Y Y) (gv Y Y Y Y ?_)
 refine El (am (w2) Y ⟨(iV 1),Er⟩) ?_
 refine El (am (s2) Y ⟨H,H,Er⟩) ?_
 refine Em Y (El (ar Y Y) (El (ar Y Y) (En Y (Ep (En Y (Ep (aa (ae (ai ?_)))))))))
 refine El (am (n1) Y ⟨H,H,Er⟩) ?_
 refine El (am (s3) Y ⟨H,(Ap),Er⟩) ?_
 refine Em Y (El (ar Y Y) (El (ar Y Y) (En Y (En Y (Ep (aa (ae (a7 10 aZ Z S (El (ak 0 Y Y Y) ?_)))))))))
 refine gv Y Y Y Y ?_
 refine El (am (w2) Y ⟨(iV 1),Er⟩) ?_
 refine El (am (d1) Y ⟨H,H,H,Er⟩) ?_
 refine Em Y (El (ar Y Y) (El (ar Y Y) (El (ar Y Y) (En Y (En Y (Ep (En Y (Ep (aa ?_)))))))))
 refine ae (ai (gv Y Y Y Y ?_))
 refine El (am (i3) Y ⟨H,H,(iV 2147483647),Er⟩) ?_
 refine gv Y Y Y Y ?_
 refine El (am (w2) Y ⟨(iV 1),Er⟩) ?_
 refine El (am (d2) Y ⟨H,H,H,Er⟩) ?_
 refine Em Y (El (ar Y Y) (El (ar Y Y) (El (ar Y Y) (En Y (En Y (En Y (Ep (aa (ae ?_)))))))))
 refine ai (stS Y Y Y Y (PartsK.cons Y (PartsK.cons Y (PartsK.cons Y (PartsK.cons Y (PartsK.nil ?_))))))
 refine El (am (i4) Y ⟨H,H,(iw [1,2,2,4]),Er⟩) ?_
 refine stS Y Y Y Y (PartsK.cons Y (PartsK.cons Y (PartsK.nil ?_)))
 refine El (am (w1) Y ⟨(iw [1,0]),Er⟩) ?_
 refine El (am (s4) Y ⟨H,H,Er⟩) ?_
 refine Em Y (El (ar Y Y) (El (ar Y Y) (En Y (En Y (Ep (aa (ae (ai (stS Y Y Y Y ?_)))))))))
 refine PartsK.cons Y (PartsK.cons Y (PartsK.nil ?_))
 refine El (am (i5) Y ⟨H,H,(iw [1,2]),Er⟩) ?_
 refine stS Y Y Y Y (PartsK.cons Y (PartsK.cons Y (PartsK.nil ?_)))
 refine El (am (w1) Y ⟨(iw [1,0]),Er⟩) ?_
 refine El (am (s5) Y ⟨H,H,Er⟩) ?_
 refine Em Y (El (ar Y Y) (El (ar Y Y) (En Y (En Y (Ep (aa (ae (a7 10 aZ Z S (El (ak 0 Y Y Y) ?_)))))))))
 refine gv Y Y Y Y ?_
 refine El (am (w2) Y ⟨(iV 1),Er⟩) ?_
 refine El (am (d3) Y ⟨H,H,H,Er⟩) ?_
 refine Em Y (El (ar Y Y) (El (ar Y Y) (El (ar Y Y) (En Y (En Y (Ep (En Y (Ep (aa ?_)))))))))
 refine ae (ai (Em Y (El (sT X (cg Y Y)) (Em Y (Eo (ab Y) ?_)))))
 refine Eo (am (u1) Y ⟨H,Er⟩) ?_
 refine Eo (am (u2) Y ⟨H,Er⟩) ?_
 refine yb Y Y Y Y Y Y (PartsK.cons Y (PartsK.cons Y (PartsK.nil ?_)))
 refine Eo (am (hl1) Y ⟨H,(Ao Y Y),Er⟩) ?_
 refine El (bk Y Y) (Em Y (Eo (ab Y) (Eo (sT X (cg Y Y)) (El (bk Y Y) (Em Y (Eo (ab Y) ?_))))))
 refine Eo (am (m1) Y ⟨H,H,Er⟩) ?_
 refine yb Y Y Y Y Y Y (PartsK.cons Y (PartsK.nil ?_))
 refine Eo (am (hl2) Y ⟨H,(An Y),Er⟩) ?_
 refine El (bk Y Y) (Em Y (Eo (ab Y) (Eo (sT X (cg Y Y)) (El (bk Y Y) (Em Y (Eo (ab Y) (Eo (aX Y) (Eo (sT X (cg Y Y)) (El (bk Y Y) ?_)))))))))
 refine En Y (Ep (aa (ae (ai (Em Y (El (sT X (cg Y Y)) (Em Y (Eo (ab Y) (Eo (sT X (cg Y Y)) ?_)))))))))
 refine El (bk Y Y) (Em Y (Eo (ab Y) (yb Y Y Y Y Y Y (PartsK.cons Y (PartsK.nil ?_)))))
 refine Eo (am (w3) Y ⟨(iw [1073741824]),Er⟩) ?_
 refine yb Y Y Y Y Y Y (PartsK.cons Y (PartsK.nil ?_))
 refine Eo (am (w4) Y ⟨(iw [1073741823]),Er⟩) ?_
 refine yb Y Y Y Y Y Y (PartsK.cons Y (PartsK.cons Y (PartsK.nil ?_)))
 refine Eo (am (hsa) Y ⟨H,(Am Y Y),Er⟩) ?_
 refine El (bk Y Y) (Em Y (Eo (ab Y) (Eo (sT X (cg Y Y)) (El (bk Y Y) (Em Y (Eo (ab Y) (Eo (sT X (cg Y Y)) (El (bk Y Y) (En Y ?_)))))))))
 refine Ep (aa (ae (ai (Em Y (Em Y (Eo (ab Y) (El (bk Y Y) (Em Y (Eo (ab Y) ?_)))))))))
 refine Eo (sT X (cg Y Y)) (El (bk Y Y) (Em Y (Eo (ab Y) (Eo (sT X (cg Y Y)) (El (bk Y Y) (Em Y (Eo (ab Y) (Eo (sT X (cg Y Y)) (El (bk Y Y) ?_)))))))))
 refine En Y (Ep (aa (aD ?_)))
 refine aS Tryz.results8 (.tmp Y H)
end Tor
end
