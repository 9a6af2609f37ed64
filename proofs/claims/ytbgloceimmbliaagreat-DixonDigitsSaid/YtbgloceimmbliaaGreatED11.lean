/-
  Theorems that the proofs of laws of this seat rest on.
  No condition.
-/
import Derived.Test.YtbgloceimmbliaaGreatED10
set_option maxHeartbeats 20000000
set_option linter.unusedVariables false
set_option linter.unusedSimpArgs false
section
namespace Tor
namespace Lin
theorem cramer_to {n j:Nat} (hj:j<n) (F:Nat→Nat→Rat) (c:Nat→Rat) : ∀ m,m≤n→det n (fun i k=>if i=j then sm m (fun t=>c t*F t k) else F i k)=if j<m then c j*det n F else 0
 | 0, _ => by
  rw [if_neg (Nat.not_lt_zero j),io 0 0 (p:=j) (G:=F) (Ef:=F) hj (fun k _=>by rw [if_pos Y]; show (0:Rat)=_;grind) (fun i k _ _ hi=>by rw [if_neg hi]) (fun i k _ _ hi=>by rw [if_neg hi])]
  grind
 | m + 1, hm => by
  have ih:=cramer_to hj F c m X
  rw [io 1 (c m) (p:=j) (G:=fun i k=>if i=j then sm m (fun t=>c t*F t k) else F i k) (Ef:=fun i k=>if i=j then F m k else F i k) hj
   (fun k _=>by rw [if_pos Y,if_pos Y,if_pos Y]; show sm m (fun t=>c t*F t k)+c m*F m k=_;grind) (fun i k _ _ hi=>by rw [if_neg hi,if_neg hi]) (fun i k _ _ hi=>by rw [if_neg hi,if_neg hi]),ih]
  by_cases e:m=j
  ·subst e
   have h:det n (fun i k=>if i=m then F m k else F i k)=det n F:=bG fun i k _ _=>by
    by_cases h:i=m
    ·rw [if_pos h,h]
    ·rw [if_neg h]
   rw [h,if_neg (Nat.lt_irrefl m),if_pos (Nat.lt_succ_self m)]
   grind
  ·have h:det n (fun i k=>if i=j then F m k else F i k)=0:=by
    rcases Nat.lt_or_gt_of_ne e with h | h
    ·exact fc fX h hj (fun k _=>by rw [if_neg X,if_pos Y])
    ·exact fc fX h X (fun k _=>by rw [if_pos Y,if_neg X])
   rw [h]
   by_cases h2:j<m
   ·rw [if_pos h2,if_pos X]; grind
   ·rw [if_neg h2,if_neg X]; grind
end Lin
def kR (F:Nat→Nat→Int) (j:Nat) (b:Nat→Int):Nat→Nat→Int:=fun i k=>if i=j then b k else F i k
theorem Dp {n j:Nat} {F:Nat→Nat→Int} {b c:Nat→Int} {d:Int} (hj:j<n) (hd:d≠0) (h : ∀ k,k<n→bh n (fun t=>c t*F t k)=d*b k):d*Lin.bW n (kR F j b)=c j*Lin.bW n F:=by
 have h1:=Lin.cramer_to hj (fun i k=>(F i k:Rat)) (fun t=>(c t:Rat)) n (Nat.le_refl _)
 rw [if_pos hj] at h1
 have h2:Lin.det n (fun i k=>if i=j then Lin.sm n (fun t=>(c t:Rat)*(F t k:Rat)) else (F i k:Rat))=(d:Rat)*Lin.det n (fun i k=>((kR F j b i k:Int):Rat)):=by
  rw [Lin.io (d:Rat) 0 (p:=j) (G:=fun i k=>((kR F j b i k:Int):Rat)) (Ef:=fun i k=>((kR F j b i k:Int):Rat)) hj (fun k hk=>by
   rw [if_pos Y]
   unfold kR
   rw [if_pos Y]
   have:=congrArg (fun z:Int=>(z:Rat)) (h k hk)
   rw [oL,Rat.intCast_mul] at this
   rw [show (fun t=>(c t:Rat)*(F t k:Rat))=fun t=>((c t*F t k:Int):Rat) by funext t;rw [Rat.intCast_mul],this]
   grind) (fun i k _ _ hi=>by unfold kR;rw [if_neg hi,if_neg hi]) (fun i k _ _ hi=>by unfold kR;rw [if_neg hi,if_neg hi])]
  grind
 rw [h2, ← Lin.dn, ← Lin.dn, ← Rat.intCast_mul, ← Rat.intCast_mul] at h1
 exact Rat.intCast_inj.1 h1
structure AdjI (n:Nat) (F G:Nat→Nat→Int) (d:Int):Prop where
 fg : ∀ i j,i<n→j<n→bh n (fun k=>F i k*G k j)=if i=j then d else 0
 gf : ∀ i j,i<n→j<n→bh n (fun k=>G i k*F k j)=if i=j then d else 0
theorem oN (n:Nat) (F:Nat→Nat→Int) : ∃ G,AdjI n F G (Lin.bW n F):=⟨_,fun i j hi hj=>(tk n F i j hi hj).1,fun i j hi hj=>(tk n F i j hi hj).2⟩
theorem z6 (n m:Nat) (f:Nat→Nat→Int):bh n (fun i=>bh m (fun j=>f i j))=bh m (fun j=>bh n (fun i=>f i j)):=by
 induction n with
 | zero => exact ((c7 (n := m) (f := fun _ => (0 : Int)) (g := fun _ => (0 : Int) * 0) (fun _ _ => rfl)).trans ((du m 0 _).trans (Int.zero_mul _))).symm
 | succ n ih => rw [bh, ih, ← f7]; rfl
theorem oO {n:Nat} {G F:Nat→Nat→Int} {u:Nat→Int} (j:Nat):bh n (fun h=>G j h*bh n (fun k=>F h k*u k))=bh n (fun k=>bh n (fun h=>G j h*F h k)*u k):=by
 have e1:(fun h=>G j h*bh n (fun k=>F h k*u k))=fun h=>bh n (fun k=>G j h*F h k*u k):=by
  funext h
  rw [← du]
  exact congrArg (bh n) (funext fun k=>by rw [Int.mul_assoc])
 have e2:(fun k=>bh n (fun h=>G j h*F h k)*u k)=fun k=>bh n (fun h=>G j h*F h k*u k):=by
  funext k
  rw [Int.mul_comm, ← du]
  exact congrArg (bh n) (funext fun h=>Int.mul_comm _ _)
 rw [e1,e2]
 exact z6 n n _
theorem mL {n j:Nat} {d:Int} {u:Nat→Int} (hj:j<n):bh n (fun k=>(if j=k then d else 0)*u k)=d*u j:=by
 rw [ie hj fun k _ hne=>by rw [if_neg (fun e=>hne e.symm),Int.zero_mul],if_pos Y]
theorem z7 {p n:Nat} {F G:Nat→Nat→Int} {d:Int} (hp:Lin.Pr p) (h:AdjI n F G d) (hd : ¬ (p:Int)∣d):um p n F:=fun u hu j hj=>by
 have h1:(p:Int)∣bh n (fun h=>G j h*bh n (fun k=>F h k*u k)):=q9 fun k hk=>Int.dvd_mul_of_dvd_right (hu k hk)
 rw [oO,c7 (g:=fun k=>(if j=k then d else 0)*u k) (fun k hk=>by rw [h.gf j k hj hk]),mL hj] at h1
 have h2:=Int.natAbs_dvd_natAbs.2 h1
 rw [Int.natAbs_natCast,Int.natAbs_mul] at h2
 rcases hp.mul h2 with h3 | h3
 ·exact absurd (Int.ofNat_dvd_left.2 h3) hd
 ·exact Int.ofNat_dvd_left.2 h3
def crB (n:Nat) (b:Nat→Int) (G:Nat→Nat→Int) (j:Nat):Int:=bh n (fun i=>b i*G i j)
theorem BK {n k:Nat} {F G:Nat→Nat→Int} {d:Int} {b:Nat→Int} (h:AdjI n F G d) (hk:k<n):bh n (fun t=>crB n b G t*F t k)=d*b k:=by
 have e:(fun t=>crB n b G t*F t k)=fun t=>F t k*bh n (fun i=>G i t*b i):=by
  funext t
  rw [Int.mul_comm]
  exact congrArg (F t k * ·) (congrArg (bh n) (funext fun i=>Int.mul_comm _ _))
 rw [e,show (fun t=>F t k*bh n (fun i=>G i t*b i))=fun t=>(fun a c=>F c a) k t*bh n (fun i=>(fun a c=>G c a) t i*b i) from rfl,oO (G:=fun a c=>F c a) (F:=fun a c=>G c a) k,
  c7 (g:=fun i=>(if k=i then d else 0)*b i) (fun i hi=>by
   have:=h.gf i k hi hk
   rw [c7 (g:=fun t=>G i t*F t k) (fun t _=>Int.mul_comm _ _),this]
   by_cases e:i=k
   ·rw [if_pos e,if_pos e.symm]
   ·rw [if_neg e,if_neg fun e'=>e e'.symm]),mL hk]
theorem vU {n j:Nat} {F G:Nat→Nat→Int} {b:Nat→Int} (h:AdjI n F G (Lin.bW n F)) (hd:Lin.bW n F≠0) (hj:j<n):crB n b G j=Lin.bW n (kR F j b):=by
 have:=Dp (F:=F) (b:=b) (c:=crB n b G) hj hd (fun k hk=>BK h hk)
 rw [Int.mul_comm (crB n b G j)] at this
 exact (Int.eq_of_mul_eq_mul_left hd this).symm
theorem tn {n j:Nat} {m d:Int} {F G:Nat→Nat→Int} {b Ed:Nat→Int} (h:AdjI n F G d) (hS : ∀ i,i<n→m∣b i - bh n (fun t=>Ed t*F t i)) (hj:j<n):m∣crB n b G j - d*Ed j:=by
 have h1:m∣bh n (fun i=>(b i - bh n (fun t=>Ed t*F t i))*G i j):=q9 fun i hi=>Int.dvd_mul_of_dvd_left (hS i hi)
 have e:(fun i=>(b i - bh n (fun t=>Ed t*F t i))*G i j)=fun i=>b i*G i j+(-1)*((fun a c=>G c a) j i*bh n (fun t=>(fun a c=>F c a) i t*Ed t)):=by
  funext i
  dsimp only
  rw [Int.sub_mul,Int.mul_comm (bh n _) (G i j),show (fun t=>Ed t*F t i)=fun t=>F t i*Ed t by funext t;exact Int.mul_comm _ _]
  omega
 rw [e,f7,du,oO (G:=fun a c=>G c a) (F:=fun a c=>F c a) j,c7 (f:=fun k=>bh n (fun i=>(fun a c=>G c a) j i*(fun a c=>F c a) i k)*Ed k) (g:=fun k=>(if j=k then d else 0)*Ed k) (fun k hk=>by
   have:=h.fg k j hk hj
   dsimp only
   rw [c7 (g:=fun i=>F k i*G i j) (fun i _=>Int.mul_comm _ _),this]
   by_cases e:k=j
   ·rw [if_pos e,if_pos e.symm]
   ·rw [if_neg e,if_neg fun e'=>e e'.symm]),mL hj] at h1
 unfold crB
 rwa [show bh n (fun i=>b i*G i j) - d*Ed j=bh n (fun i=>b i*G i j) + -1*(d*Ed j) by omega]
end Tor
end
section
namespace Tor
open Go Go.RowKit Go.Proofs
theorem tp {a:Int} {m s:Nat} {f:Rat} : jd a m s f=true↔f.num.natAbs≤s∧f.den≤s∧Nat.gcd f.den m=1∧(f.num - a*f.den) % (m:Int)=0:=by
 unfold jd
 simp only [Bool.and_eq_true,decide_eq_true_eq]
structure EucI (a:Int) (m s:Nat) (x y:Nat × Int):Prop where
 det:(x.1:Int)*y.2 - (y.1:Int)*x.2=m∨(x.1:Int)*y.2 - (y.1:Int)*x.2 = -(m:Int)
 sg:x.2*y.2≤0
 gx:s<x.1
 ax:(m:Int)∣(x.1:Int) - a*x.2
 ay:(m:Int)∣(y.1:Int) - a*y.2
theorem tq (q:Int):0≤q*q:=by
 rcases Int.le_total 0 q with h | h
 ·exact Int.mul_nonneg h h
 ·exact Int.mul_nonneg_of_nonpos_of_nonpos h h
theorem EucI.step {a:Int} {m s:Nat} {x y:Nat × Int} (h:EucI a m s x y) (hc:s<y.1):EucI a m s y (x.1 % y.1,x.2 - ((x.1 / y.1:Nat):Int)*y.2):=by
 have hd:(y.1:Int)*((x.1 / y.1:Nat):Int)+((x.1 % y.1:Nat):Int)=(x.1:Int):=by
  have:=Nat.div_add_mod x.1 y.1
  rw [← Int.natCast_mul, ← Int.natCast_add,this]
 have hq:(0:Int)≤((x.1 / y.1:Nat):Int):=Int.natCast_nonneg _
 obtain ⟨u,v,w,k1,k2⟩:=h
 refine ⟨?_,?_,hc,k2,?_⟩ <;> dsimp only at *
 ·generalize ((x.1 / y.1:Nat):Int)=q at *
  generalize ((x.1 % y.1:Nat):Int)=r at *
  have e:(y.1:Int)*(x.2 - q*y.2) - r*y.2 = -((x.1:Int)*y.2 - (y.1:Int)*x.2):=by grind
  rw [e]
  rcases u with u | u <;> rw [u]
  ·right;rfl
  ·left;omega
 ·generalize ((x.1 / y.1:Nat):Int)=q at *
  have e:y.2*(x.2 - q*y.2)=x.2*y.2 - q*(y.2*y.2):=by grind
  rw [e]
  have:=Int.mul_nonneg hq (tq y.2)
  omega
 ·generalize ((x.1 / y.1:Nat):Int)=q at *
  generalize ((x.1 % y.1:Nat):Int)=r at *
  have e:r - a*(x.2 - q*y.2)=((x.1:Int) - a*x.2) - q*((y.1:Int) - a*y.2):=by grind
  rw [e]
  exact Int.dvd_sub k1 (Int.dvd_mul_of_dvd_right k2)
theorem tr {a:Int} {m s:Nat} : ∀ (f:Nat) (x y:Nat × Int),y.1<f→EucI a m s x y → ∃ x',EucI a m s x' (kQ s f x y)∧(kQ s f x y).1≤s
 | 0, _, _, h, _ => absurd h (Nat.not_lt_zero _)
 | f + 1, x, y, h, hi => by
  rw [kQ]
  by_cases c:s<y.1
  ·rw [if_pos c]
   exact tr f _ _ (by have:=Nat.mod_lt x.1 (show 0<y.1 by omega);show x.1 % y.1<f;omega) (hi.step c)
  ·rw [if_neg c]
   exact ⟨x,hi,by omega⟩
theorem uJ {m z:Int} (h:m∣z) (hl:z.natAbs<m.natAbs):z=0:=by
 obtain ⟨k,rfl⟩:=h
 rw [Int.natAbs_mul] at hl
 by_cases hk:k=0
 ·rw [hk,Int.mul_zero]
 ·have:=Nat.le_mul_of_pos_right m.natAbs (show 0<k.natAbs by omega)
  omega
theorem tt {P Q:Int} (h:0≤P*Q):Q.natAbs≤(P+Q).natAbs:=by
 rcases Int.lt_trichotomy P 0 with p | p | p
 ·rcases Int.lt_trichotomy Q 0 with q | q | q
  ·omega
  ·omega
  ·have:=Int.mul_neg_of_neg_of_pos p q;omega
 ·omega
 ·rcases Int.lt_trichotomy Q 0 with q | q | q
  ·have:=Int.mul_neg_of_pos_of_neg p q;omega
  ·omega
  ·omega
theorem BL {a n d:Int} {m s:Nat} {x y:Nat × Int} (h:EucI a m s x y) (hy:y.1≤s) (hm:2*(s*s)<m) (hn:n.natAbs≤s) (hd:d.natAbs≤s) (hd0:0<d) (hc:(m:Int)∣n - a*d) :
  n*y.2=(y.1:Int)*d∧y.2≠0:=by
 obtain ⟨u,v,w,k1,k2⟩:=h
 have hA:(m:Int)∣n*y.2 - (y.1:Int)*d:=by
  have e:n*y.2 - (y.1:Int)*d=(n - a*d)*y.2 - ((y.1:Int) - a*y.2)*d:=by grind
  rw [e]
  exact Int.dvd_sub (Int.dvd_mul_of_dvd_left hc) (Int.dvd_mul_of_dvd_left k2)
 have hB:(m:Int)∣(x.1:Int)*d - n*x.2:=by
  have e:(x.1:Int)*d - n*x.2=((x.1:Int) - a*x.2)*d - (n - a*d)*x.2:=by grind
  rw [e]
  exact Int.dvd_sub (Int.dvd_mul_of_dvd_left k1) (Int.dvd_mul_of_dvd_left hc)
 have hm0:(m:Int)≠0:=by omega
 obtain ⟨α,hα⟩:=hA
 obtain ⟨β,hβ⟩:=hB
 -- with the sign of the determinant taken into the factors
 obtain ⟨α, β,eα,e1,e2⟩ : ∃ α' β':Int,(α=α'∨α = -α')∧n=α'*x.1+β'*y.1∧d=α'*x.2+β'*y.2:=by
  rcases u with u | u
  ·refine ⟨α, β, .inl Y,Int.eq_of_mul_eq_mul_left hm0 ?_,Int.eq_of_mul_eq_mul_left hm0 ?_⟩ <;> grind
  ·refine ⟨-α, -β, .inr X,Int.eq_of_mul_eq_mul_left hm0 ?_,Int.eq_of_mul_eq_mul_left hm0 ?_⟩ <;> grind
 have hx1:(s:Int)<(x.1:Int):=by omega
 have hy1:(0:Int)≤(y.1:Int):=Int.natCast_nonneg _
 by_cases h0:α=0
 ·rw [h0,Int.zero_mul,Int.zero_add] at e1 e2
  refine ⟨by rw [e1,e2]; ac_rfl,fun k => ?_⟩
  rw [k,Int.mul_zero] at e2
  omega
 ·exfalso
  by_cases hs:y.2.natAbs≤s
  ·have hl:(n*y.2 - (y.1:Int)*d).natAbs<(m:Int).natAbs:=by
    have t1:=Nat.mul_le_mul hn hs
    have t2:=Nat.mul_le_mul hy hd
    rw [← Int.natAbs_mul] at t1
    have t3:((y.1:Int)*d).natAbs≤s*s:=by rw [Int.natAbs_mul,Int.natAbs_natCast]; exact t2
    rw [Int.natAbs_natCast]
    omega
   have hz:=uJ ⟨_,hα⟩ hl
   rw [hα] at hz
   rcases Int.mul_eq_zero.1 hz with k | k <;> omega
  ·rcases Int.lt_trichotomy α 0 with p | p | p
   ·rcases Int.lt_trichotomy β 0 with q | q | q
    ·have t1:=Int.mul_le_mul_of_nonneg_right (show α ≤ -1 by omega) (show (0:Int)≤x.1 by omega)
     have t2:=Int.mul_le_mul_of_nonneg_right (show β≤0 by omega) hy1
     omega
    ·have t1:=Int.mul_le_mul_of_nonneg_right (show α ≤ -1 by omega) (show (0:Int)≤x.1 by omega)
     rw [q,Int.zero_mul] at e1
     omega
    ·have t1:0≤(α*x.2)*(β*y.2):=by
      have e:(α*x.2)*(β*y.2)=(α*β)*(x.2*y.2):=by ac_rfl
      rw [e]
      exact Int.mul_nonneg_of_nonpos_of_nonpos (by have:=Int.mul_neg_of_neg_of_pos p q;omega) v
     have t2:=tt t1
     rw [← e2,Int.natAbs_mul] at t2
     have t3:=Nat.le_mul_of_pos_left y.2.natAbs (show 0<β.natAbs by omega)
     omega
   ·exact h0 p
   ·rcases Int.lt_trichotomy β 0 with q | q | q
    ·have t1:0≤(α*x.2)*(β*y.2):=by
      have e:(α*x.2)*(β*y.2)=(α*β)*(x.2*y.2):=by ac_rfl
      rw [e]
      exact Int.mul_nonneg_of_nonpos_of_nonpos (by have:=Int.mul_neg_of_pos_of_neg p q;omega) v
     have t2:=tt t1
     rw [← e2,Int.natAbs_mul] at t2
     have t3:=Nat.le_mul_of_pos_left y.2.natAbs (show 0<β.natAbs by omega)
     omega
    ·have t1:=Int.mul_le_mul_of_nonneg_right (show 1≤α by omega) (show (0:Int)≤x.1 by omega)
     rw [q,Int.zero_mul] at e1
     omega
    ·have t1:=Int.mul_le_mul_of_nonneg_right (show 1≤α by omega) (show (0:Int)≤x.1 by omega)
     have t2:=Int.mul_le_mul_of_nonneg_right (show 0≤β by omega) hy1
     omega
theorem vV {a n d:Int} {m s:Nat} (hm:2*(s*s)<m) (hsm:s<m) (hn:n.natAbs≤s) (hd:d.natAbs≤s) (hd0:0<d) (hg:Nat.gcd d.natAbs m=1) (hc:(m:Int)∣n - a*d) :
  uA a m s=some (Rat.divInt n d):=by
 have hm0:(m:Int)≠0:=by omega
 have n1:=Int.emod_nonneg a hm0
 have n2:=Int.emod_lt_of_pos a (show 0<(m:Int) by omega)
 obtain ⟨x,hi,hy⟩:=tr (a:=a) (m:=m) (s:=s) (m+1) (m,0) ((a % (m:Int)).toNat,1) (show (a % (m:Int)).toNat<m+1 by omega)
  ⟨.inl (by simp),by simp,hsm,by simp,by
   show (m:Int)∣((a % (m:Int)).toNat:Int) - a*1
   rw [Int.toNat_of_nonneg n1,Int.mul_one]
   have:=Int.dvd_self_sub_emod (x:=a) (m:=(m:Int))
   have e:a % (m:Int) - a = -(a - a % (m:Int)):=by omega
   rw [e]; exact Int.dvd_neg.2 this⟩
 unfold uA
 dsimp only
 generalize kQ s (m+1) (m,0) ((a % (m:Int)).toNat,1)=y at *
 obtain ⟨l1,l2⟩:=BL hi hy hm hn hd hd0 hc
 have hE:Rat.divInt (y.1:Int) y.2=Rat.divInt n d:=(Rat.divInt_eq_divInt_iff l2 X).2 l1.symm
 rw [if_neg l2,hE,if_pos]
 have g0:((Nat.gcd n.natAbs d.natAbs:Nat):Int)≠0:=tZ X
 obtain ⟨p1,p2⟩:=qV (n:=n) hd0
 have d1:((Nat.gcd n.natAbs d.natAbs:Nat):Int)∣n:=Int.gcd_dvd_left ..
 have d2:((Nat.gcd n.natAbs d.natAbs:Nat):Int)∣d:=Int.gcd_dvd_right ..
 have hgm:Nat.gcd (Nat.gcd n.natAbs d.natAbs) m=1:=Nat.eq_one_of_dvd_one (hg▸Nat.dvd_gcd (Nat.dvd_trans (Nat.gcd_dvd_left _ _) (Nat.gcd_dvd_right _ _)) (Nat.gcd_dvd_right _ _))
 have b1:=vO (a:=n) (b:=d)
 have b2:=zI (a:=n) (b:=d) X
 rw [tp]
 generalize Nat.gcd n.natAbs d.natAbs=g at *
 obtain ⟨n',hn'⟩:=d1
 obtain ⟨d',hd'⟩:=d2
 rw [Int.ediv_eq_of_eq_mul_right g0 hn'] at p1
 rw [Int.ediv_eq_of_eq_mul_right g0 hd'] at p2
 refine ⟨by omega,by omega,?_,?_⟩
 ·refine Nat.eq_one_of_dvd_one (hg▸Nat.dvd_gcd (Nat.dvd_trans (Nat.gcd_dvd_left _ _) ?_) (Nat.gcd_dvd_right _ _))
  have t:=congrArg Int.natAbs hd'
  rw [Int.natAbs_mul,p2,Int.natAbs_natCast,Int.natAbs_natCast] at t
  exact ⟨g,by rw [t]; exact Nat.mul_comm _ _⟩
 ·refine Int.emod_eq_zero_of_dvd ?_
  rw [← p1, ← p2]
  have e:n - a*d=(g:Int)*(n' - a*d'):=by
   conv=>lhs;rw [hn',hd']
   grind
  rw [e] at hc
  have t:=Int.natAbs_dvd_natAbs.2 hc
  rw [Int.natAbs_mul,Int.natAbs_natCast,Int.natAbs_natCast] at t
  have hcop:Nat.Coprime m g:=(Nat.gcd_comm m g).trans hgm
  exact Int.natAbs_dvd_natAbs.1 (by rw [Int.natAbs_natCast]; exact hcop.dvd_of_dvd_mul_left t)
end Tor
end
section
namespace Tor
theorem jg {n:Nat} {g:Nat→Int} (h : ∀ i,i<n→0≤g i):0≤prZ n g:=by
 induction n with
 | zero => exact Int.zero_le_ofNat 1
 | succ n ih => exact Int.mul_nonneg (ih fun i hi => h i X) (h n (Nat.lt_succ_self n))
theorem l7 {n:Nat} {f g:Nat→Int} (h : ∀ i,i<n→f i=g i):prZ n f=prZ n g:=by
 induction n with
 | zero => rfl
 | succ n ih => rw [prZ, prZ, ih fun i hi => h i X, h n (Nat.lt_succ_self n)]
theorem vW {t:Nat} {x:Int} {g:Nat→Int} : ∀ {m},t<m→prZ m (fun i=>if i=t then x else g i)*g t=prZ m g*x
 | m + 1, h => by
  by_cases e:t=m
  ·subst e
   rw [prZ,prZ,if_pos Y,l7 (g:=g) fun i hi=>if_neg X,Int.mul_assoc,Int.mul_assoc,Int.mul_comm x]
  ·have ih:=vW (x:=x) (g:=g) (show t<m by omega)
   rw [prZ,prZ,if_neg (fun h=>e h.symm),Int.mul_assoc,Int.mul_comm (g m), ← Int.mul_assoc,ih,Int.mul_assoc,Int.mul_comm x, ← Int.mul_assoc]
theorem vX {n t:Nat} {g:Nat→Int} (ht:t≤n):dI (n+1) g n≤g t:=by
 have h1:g t∈lst (n+1) (dI (n+1) g):=(e8 g (Nat.le_refl (n+1))).mem_iff.2 (List.mem_map.2 ⟨t,List.mem_range.2 X,rfl⟩)
 obtain ⟨a,ha,e⟩:=List.mem_map.1 h1
 have ha:=List.mem_range.1 ha
 rw [← e]
 by_cases h:a=n
 ·rw [h]; exact Int.le_refl _
 ·exact l0 g (n+1) a n X (Nat.lt_succ_self n)
theorem kS {n:Nat} {g:Nat→Int} (hg : ∀ i,0≤g i) {a:Nat} (ha:a<n):0≤dI n g a:=by
 have h1:dI n g a∈lst n g:=(e8 g (Nat.le_refl n)).mem_iff.1 (List.mem_map.2 ⟨a,List.mem_range.2 ha,rfl⟩)
 obtain ⟨i,_,e⟩:=List.mem_map.1 h1
 rw [← e]; exact hg i
theorem oP {A B x y:Int} (hA:0≤A) (hB:0≤B) (hx:0<x) (hy:y≤x) (h:A*x=B*y):A≤B:=by
 have h1:B*y≤B*x:=Int.mul_le_mul_of_nonneg_left hy hB
 rw [← h] at h1
 exact Int.le_of_mul_le_mul_right h1 hx
theorem xv {n t:Nat} {g:Nat→Int} (hg : ∀ i,0≤g i) (ht:t<n) (h0:0<g t):prZ n (fun i=>if i=t then g n else g i)≤prZ n (dI (n+1) g) :=
 oP (jg fun i _=>by split <;> exact hg _) (jg fun i hi=>kS hg X) h0 (vX (g:=g) (n:=n) (t:=t) X) (by
  rw [vW ht]
  exact (sV (n+1) g).symm)
theorem xw {n:Nat} {g:Nat→Int} (hg : ∀ i,0≤g i):prZ n g≤prZ n (dI (n+1) g):=by
 have h1:=vX (g:=g) (Nat.le_refl n)
 have h2:=kS hg (n:=n+1) (Nat.lt_succ_self n)
 by_cases e:dI (n+1) g n=g n
 ·have hp:=e8 g (Nat.le_refl (n+1))
  rw [fD,fD,e] at hp
  rw [nr,nr,sU ((List.perm_append_right_iff _).1 hp)]
  exact Int.le_refl _
 ·exact oP (jg fun i _=>hg i) (jg fun i hi=>kS hg X) X h1 (sV (n+1) g).symm
def kT (n:Nat) (F:Nat→Nat→Int) (b:Nat→Int):Nat:=if n=0 then 1 else upN (prN n (mI (n+1) n (dx n F (fun _=>b))))
theorem z8 {n:Nat} {F:Nat→Nat→Int} {b:Nat→Int} : ((prN n (mI (n+1) n (dx n F (fun _=>b))):Nat):Int)=prZ n (dI (n+1) (fun i=>(eS n (dx n F (fun _=>b) i):Int))):=by
 rw [l3]
 exact l7 fun i hi=>p6 X
theorem uK {n i:Nat} {F:Nat→Nat→Int} {b:Nat→Int} (hi:i<n):dx n F (fun _=>b) i=F i:=funext fun k=>if_pos hi
theorem DT {n:Nat} {F:Nat→Nat→Int} {b:Nat→Int} : dx n F (fun _=>b) n=b:=funext fun k=>if_neg (Nat.lt_irrefl n)
theorem BM {n:Nat} {F:Nat→Nat→Int} {b:Nat→Int} : (Lin.bW n F).natAbs≤kT n F b:=by
 unfold kT
 by_cases h0:n=0
 ·subst h0;rw [if_pos Y]; exact Nat.le_refl 1
 ·rw [if_neg h0]
  refine z5 (Int.ofNat_le.1 ?_)
  rw [z8,Int.natCast_mul,Int.natAbs_mul_self']
  refine Int.le_trans (nt n F) ?_
  rw [l3,l7 (g:=fun i=>(eS n (dx n F (fun _=>b) i):Int)) fun i hi=>by rw [uK hi]]
  exact xw fun i=>Int.natCast_nonneg _
theorem BN {n j:Nat} {F:Nat→Nat→Int} (hd:Lin.bW n F≠0) (hj:j<n):0<eS n (F j):=by
 rcases Nat.eq_zero_or_pos (eS n (F j)) with h | h
 ·exfalso
  have h1:=nt n F
  have h2 : ∀ m,j<m→prN m (fun i=>eS n (F i))=0:=fun m hm=>by
   induction m with
   | zero => omega
   | succ m ih =>
    rw [prN]
    by_cases e:j=m
    ·rw [← e,h,Nat.mul_zero]
    ·rw [ih X,Nat.zero_mul]
  rw [h2 n hj] at h1
  have h3:Lin.bW n F*Lin.bW n F=0:=Int.le_antisymm h1 (kP _)
  rcases Int.mul_eq_zero.1 h3 with h | h <;> exact hd h
 ·exact h
theorem BO {n j:Nat} {F:Nat→Nat→Int} {b:Nat→Int} (hd:Lin.bW n F≠0) (hj:j<n):(Lin.bW n (kR F j b)).natAbs≤kT n F b:=by
 unfold kT
 rw [if_neg X]
 refine z5 (Int.ofNat_le.1 ?_)
 rw [z8,Int.natCast_mul,Int.natAbs_mul_self']
 refine Int.le_trans (nt n _) ?_
 have hlen : ∀ i,i<n→((eS n (kR F j b i):Nat):Int)=(fun i=>if i=j then (fun i=>(eS n (dx n F (fun _=>b) i):Int)) n else (fun i=>(eS n (dx n F (fun _=>b) i):Int)) i) i:=fun i hi=>by
  dsimp only
  by_cases e:i=j
  ·rw [if_pos e,DT]; unfold kR eS;rw [e]; simp
  ·rw [if_neg e,uK hi]; unfold kR eS;simp [e]
 rw [l3,l7 hlen]
 exact xv (g:=fun i=>(eS n (dx n F (fun _=>b) i):Int)) (fun i=>Int.natCast_nonneg _) hj (by rw [uK hj]; exact Int.natCast_pos.2 (BN hd hj))
theorem BP {n:Nat} {F:Nat→Nat→Int} {b:Nat→Int} (hn:n≤4) (hF : ∀ i j,(F i j).natAbs≤34359738368) (hb : ∀ i,(b i).natAbs≤1152921504606846976):kT n F b≤2^380:=by
 unfold kT
 split
 ·decide +kernel
 ·have h1:prN n (mI (n+1) n (dx n F (fun _=>b)))≤(4*(1152921504606846976*1152921504606846976))^n:=rg (n:=n+1) (fun i hi=>vP (B:=4*(1152921504606846976*1152921504606846976)) (fun i hi=>Nat.le_trans (oM (B:=1152921504606846976) fun k=>by
   unfold dx;split
   ·exact Nat.le_trans (hF _ _) S
   ·exact hb _) (Nat.mul_le_mul_right _ hn)) hi) n X
  have h2:(4*(1152921504606846976*1152921504606846976))^n≤(4*(1152921504606846976*1152921504606846976))^4:=Nat.pow_le_pow_right S hn
  generalize prN n (mI (n+1) n (dx n F (fun _=>b)))=a at *
  rcases Nat.eq_zero_or_pos (upN a) with h0 | h0
  ·rw [h0]; exact Nat.zero_le _
  ·have h3:=C7 h0
   rcases Nat.lt_or_ge (2^380) (upN a) with h4 | h4
   ·have h5:2^380≤upN a - 1:=Nat.le_sub_one_of_lt h4
    exact absurd (Nat.lt_of_le_of_lt (Nat.mul_le_mul h5 h5) (Nat.lt_of_lt_of_le h3 (Nat.le_trans h1 h2))) U
   ·exact h4
theorem tu (c d:Int):Rat.divInt (-c) (-d)=Rat.divInt c d:=by
 rw [Rat.divInt_eq_div,Rat.divInt_eq_div,Rat.intCast_neg,Rat.intCast_neg]
 grind
theorem DU {p n k s:Nat} {F:Nat→Nat→Int} {b Ed:Nat→Int} (hp:Lin.Pr p) (hd : ¬ (p:Int)∣Lin.bW n F) (hk:2*(kT n F b*kT n F b)<p^k) (hS : ∀ i,i<n→((p:Int)^k)∣b i - bh n (fun t=>Ed t*F t i)) {j:Nat} (hj:j<n)
  (hs1:s*s≤(p^k - 1) / 2) (hs2:(p^k - 1) / 2<(s+1)*(s+1)):uA (Ed j) (p^k) s=some (Rat.divInt (Lin.bW n (kR F j b)) (Lin.bW n F)):=by
 have hd0:Lin.bW n F≠0:=fun e=>hd (e▸Int.dvd_zero _)
 obtain ⟨G,hG⟩:=oN n F
 have h1:=tn hG hS hj
 rw [vU hG hd0 hj] at h1
 have hL:kT n F b≤s:=by
  rcases Nat.lt_or_ge s (kT n F b) with h | h
  ·have:(s+1)*(s+1)≤kT n F b*kT n F b:=Nat.mul_le_mul h h
   omega
  ·exact h
 have b1:=Nat.le_trans (BO (b:=b) hd0 hj) hL
 have b2:=Nat.le_trans (BM (F:=F) (b:=b)) hL
 have hm0:0<p^k:=by omega
 have hm:2*(s*s)<p^k:=by omega
 have hsm:s<p^k:=by
  rcases Nat.eq_zero_or_pos s with h | h
  ·omega
  ·have:=Nat.le_mul_of_pos_right s h
   omega
 have hg:Nat.gcd (Lin.bW n F).natAbs (p^k)=1:=by
  have h2 : ¬ p∣(Lin.bW n F).natAbs:=fun h=>hd (Int.ofNat_dvd_left.2 h)
  exact Nat.Coprime.symm ((hp.coprime h2).pow_left k)
 rw [← Int.natCast_pow] at h1
 generalize Lin.bW n F=d at *
 generalize Lin.bW n (kR F j b)=c at *
 rcases Int.lt_or_gt_of_ne hd0 with h | h
 ·have:=vV (a:=Ed j) (n := -c) (d := -d) (m:=p^k) (s:=s) hm hsm X X X (by rw [Int.natAbs_neg]; exact hg) (by
   obtain ⟨q,hq⟩:=h1
   exact ⟨-q,by rw [Int.mul_neg,Int.mul_neg, ← hq,Int.mul_comm (Ed j)]; omega⟩)
  rw [this]
  congr 1
  exact tu c d
 ·exact vV hm hsm b1 b2 h hg (by rw [Int.mul_comm (Ed j)]; exact h1)
end Tor
end
section
namespace Tor
/-! ### Trial division by one gcd -/
def oQ:Nat→Nat→Nat
 | 0, d => d
 | k + 1, d => oQ k d * oQ k (d + 2 ^ k)
theorem mM : ∀ {k d e:Nat},d≤e→e<d+2^k→e∣oQ k d
 | 0, d, e, h1, h2 => by
  have:e=d:=by simp at h2;omega
  subst this;exact Nat.dvd_refl _
 | k + 1, d, e, h1, h2 => by
  rw [Nat.pow_succ] at h2
  rcases Nat.lt_or_ge e (d+2^k) with hl | hl
  ·exact Nat.dvd_trans (mM h1 hl) (Nat.dvd_mul_right _ _)
  ·exact Nat.dvd_trans (mM hl X) (Nat.dvd_mul_left _ _)
theorem mN {n:Nat} : ∀ {k d:Nat},(∀ e,d≤e→e<d+2^k→Nat.Coprime n e)→Nat.Coprime n (oQ k d)
 | 0, d, h => h d (Nat.le_refl _) (by simp)
 | k + 1, d, h => by
  refine Nat.Coprime.mul_right (mN fun e h1 h2=>h e h1 ?_) (mN fun e h1 h2=>h e ?_ ?_)
  ·rw [Nat.pow_succ]; omega
  ·have:=Nat.two_pow_pos k;omega
  ·rw [Nat.pow_succ]; omega
theorem xx {n d:Nat} (hT:mY n) (h1:1≤d) (h2:d<n):Nat.Coprime n d:=by
 have hg:=Nat.gcd_dvd_left n d
 have hd:=Nat.gcd_dvd_right n d
 have hp:0<Nat.gcd n d:=Nat.gcd_pos_of_pos_right _ X
 have hle:Nat.gcd n d≤d:=Nat.le_of_dvd X hd
 show Nat.gcd n d=1
 generalize Nat.gcd n d=g at *
 rcases Nat.lt_or_ge g 2 with h | h
 ·omega
 ·exfalso
  obtain ⟨m,hm⟩:=hg
  by_cases hs:g*g≤n
  ·exact hT g h hs (by rw [hm]; exact Nat.mul_mod_right _ _)
  ·have hmg:m<g:=by
    rcases Nat.lt_or_ge m g with h' | h'
    ·exact h'
    ·have:=Nat.mul_le_mul_left g h';omega
   have hm2:2≤m:=by
    rcases Nat.lt_or_ge m 2 with h' | h'
    ·have:m=0∨m=1:=by omega
     rcases this with rfl | rfl
     ·simp at hm;omega
     ·simp at hm;omega
    ·exact h'
   refine hT m hm2 ?_ (by rw [hm,Nat.mul_comm]; exact Nat.mul_mod_right _ _)
   rw [hm]; exact Nat.mul_le_mul (Nat.le_of_lt hmg) (Nat.le_refl _)
theorem xy {n k:Nat} (h1:2+2^k≤n) (h2:n<(2+2^k)*(2+2^k)):Nat.gcd n (oQ k 2)=1↔mY n:=by
 constructor
 ·intro h d hd hs hz
  have hlt:d<2+2^k:=by
   rcases Nat.lt_or_ge d (2+2^k) with h' | h'
   ·exact h'
   ·have:=Nat.mul_le_mul h' h';omega
  have:=Nat.dvd_gcd (Nat.dvd_of_mod_eq_zero hz) (mM hd hlt)
  rw [h] at this
  have:=Nat.le_of_dvd S this
  omega
 ·intro hT
  exact mN fun e h3 h4=>xx hT X X
/-! ### The prime test, for evaluation -/
noncomputable def xz (p:Nat) (f:Nat):Nat→Nat→Nat→Nat := @Nat.rec (fun _=>Nat→Nat→Nat→Nat) (fun r _ _=>r)
 (fun _ ih r a e => @Nat.rec (fun _=>Nat) r (fun e' _ => @Bool.rec (fun _=>Nat) (ih r (Nat.mod (Nat.mul a a) p) (Nat.div (Nat.succ e') 2)) (ih (Nat.mod (Nat.mul r a) p) (Nat.mod (Nat.mul a a) p) (Nat.div (Nat.succ e') 2)) (Nat.beq (Nat.mod (Nat.succ e') 2) 1)) e) f
theorem vY (p:Nat) : ∀ (f r a e:Nat),xz p f r a e=mu f p r a e
 | 0, _, _, _ => rfl
 | f + 1, r, a, 0 => rfl
 | f + 1, r, a, e + 1 => by
  rw [mu,if_neg X, ← vY p f]
  show @Bool.rec (fun _=>Nat) (xz p f r (a*a % p) ((e+1) / 2)) (xz p f (r*a % p) (a*a % p) ((e+1) / 2)) (Nat.beq ((e+1) % 2) 1)=_
  by_cases h:(e+1) % 2=1
  ·rw [if_pos h,h]; rfl
  ·have h0:(e+1) % 2=0:=by omega
   rw [if_neg h,h0]; rfl
noncomputable def Dq (n:Nat) (c:Nat):Nat→Bool := @Nat.rec (fun _=>Nat→Bool) (fun _=>false)
 (fun _ ih x => @Bool.rec (fun _=>Bool) (ih (Nat.mod (Nat.mul x x) n)) true (Nat.beq (Nat.mod (Nat.mul x x) n) (Nat.sub n 1))) c
theorem l8 (a b:Nat):Nat.beq a b=decide (a=b):=by
 by_cases h:a=b
 ·rw [decide_eq_true h]; exact Nat.beq_eq.mpr h
 ·rw [decide_eq_false h, ← Bool.not_eq_true]; exact fun e=>h (Nat.eq_of_beq_eq_true e)
theorem vZ (n:Nat) : ∀ (c x:Nat),Dq n c x=sqrF n c x
 | 0, _ => rfl
 | c + 1, x => by
  rw [sqrF, ← vZ n c]
  show @Bool.rec (fun _=>Bool) (Dq n c (x*x % n)) true (Nat.beq (x*x % n) (n - 1))=_
  rw [l8]
  by_cases h:x*x % n=n - 1
  ·rw [if_pos h,decide_eq_true h]
  ·rw [if_neg h,decide_eq_false h]
noncomputable def kn (n O T b:Nat):Bool := @Bool.rec (fun _=>Bool) (@Bool.rec (fun _=>Bool) (Dq n (Nat.sub T 1) (xz n 64 (Nat.mod 1 n) b O)) true (Nat.beq (xz n 64 (Nat.mod 1 n) b O) (Nat.sub n 1))) true (Nat.beq (xz n 64 (Nat.mod 1 n) b O) 1)
theorem uL (n O T b:Nat):kn n O T b=dV n O T b:=by
 unfold kn dV
 rw [vY,vZ,l8,l8]
 show @Bool.rec (fun _=>Bool) (@Bool.rec (fun _=>Bool) (sqrF n (T - 1) (mu 64 n (1 % n) b O)) true (decide (mu 64 n (1 % n) b O=n - 1))) true (decide (mu 64 n (1 % n) b O=1))=_
 cases decide (mu 64 n (1 % n) b O=1) <;> cases decide (mu 64 n (1 % n) b O=n - 1) <;> rfl
noncomputable def Dr (n O T:Nat):Bool := @Bool.rec (fun _=>Bool) false (@Bool.rec (fun _=>Bool) false (@Bool.rec (fun _=>Bool) false (kn n O T 7) (kn n O T 5)) (kn n O T 3)) (kn n O T 2)
theorem BQ {n O T:Nat} (h7:7<n):Dr n O T=pL n O T 4 0:=by
 have hb : ∀ j,n≠ec j:=fun j h=>by have:=(om j).1;omega
 unfold Dr
 simp only [pL,if_neg (hb _),uL]
 show @Bool.rec (fun _=>Bool) false (@Bool.rec (fun _=>Bool) false (@Bool.rec (fun _=>Bool) false (dV n O T 7) (dV n O T 5)) (dV n O T 3)) (dV n O T 2)=(dV n O T 2 && (dV n O T 3 && (dV n O T 5 && (dV n O T 7 && true))))
 cases dV n O T 2 <;> cases dV n O T 3 <;> cases dV n O T 5 <;> cases dV n O T 7 <;> rfl
noncomputable def uM (k:Nat→Nat→Bool) (f:Nat):Nat→Nat→Bool := @Nat.rec (fun _=>Nat→Nat→Bool) (fun o t=>k o t)
 (fun _ ih o t => @Bool.rec (fun _=>Bool) (k o t) (ih (Nat.div o 2) (Nat.succ t)) (Nat.beq (Nat.mod o 2) 0)) f
theorem qc (k:Nat→Nat→Bool) : ∀ (f o t:Nat),uM k f o t=k (dL f o t).1 (dL f o t).2
 | 0, _, _ => rfl
 | f + 1, o, t => by
  rw [dL]
  show @Bool.rec (fun _=>Bool) (k o t) (uM k f (o / 2) (t+1)) (Nat.beq (o % 2) 0)=_
  rw [l8]
  by_cases h:o % 2=0
  ·rw [if_pos h,decide_eq_true h]; exact qc k f _ _
  ·rw [if_neg h,decide_eq_false h]
noncomputable def kU (n:Nat):Bool:=uM (Dr n) 32 (Nat.sub n 1) 0
theorem xA {n:Nat} (h7:7<n) (h31:n<2147483648) (ho:n % 2=1):kU n=cC n:=by
 rw [lR h7]
 unfold kU qU
 rw [if_neg X,if_neg X,qc]
 exact BQ h7
/-! ### Runs of numbers -/
noncomputable def z9 (f:Nat→Bool) (k:Nat):Nat→Bool := @Nat.rec (fun _=>Nat→Bool) f (fun k ih d => @Bool.rec (fun _=>Bool) false (ih (Nat.add d (Nat.pow 2 k))) (ih d)) k
theorem rq {f:Nat→Bool} : ∀ {k d:Nat},z9 f k d=true → ∀ e,d≤e→e<d+2^k→f e=true
 | 0, d, h, e, h1, h2 => by
  have:e=d:=by simp at h2;omega
  subst this;exact h
 | k + 1, d, h, e, h1, h2 => by
  have h : @Bool.rec (fun _=>Bool) false (z9 f k (d+2^k)) (z9 f k d)=true:=h
  rw [Nat.pow_succ] at h2
  cases ha:z9 f k d with
  | false => rw [ha] at h; cases h
  | true =>
   rw [ha] at h
   rcases Nat.lt_or_ge e (d+2^k) with hl | hl
   ·exact rq ha e h1 hl
   ·exact rq h e hl X
noncomputable def Ds (k n:Nat):Bool := @Bool.rec (fun _=>Bool) true (@Bool.rec (fun _=>Bool) (@Bool.rec (fun _=>Bool) true false (kU n)) (kU n) (Nat.beq (Nat.gcd n (oQ k 2)) 1)) (Nat.beq (Nat.mod n 2) 1)
theorem BR {n k:Nat} (h1:2+2^k≤n) (h2:n<(2+2^k)*(2+2^k)) (h7:7<n) (h31:n<2147483648) (h:Ds k n=true):cC n=t7 n:=by
 have hT:=xy h1 h2
 by_cases ho:n % 2=1
 ·rw [← xA h7 h31 ho]
  unfold Ds at h
  rw [show Nat.beq (Nat.mod n 2) 1=true from Nat.beq_eq.mpr ho,l8] at h
  by_cases hg:Nat.gcd n (oQ k 2)=1
  ·rw [decide_eq_true hg] at h
   have h:kU n=true:=h
   rw [h,CO.2 ⟨by omega,h31,hT.1 hg⟩]
  ·rw [decide_eq_false hg] at h
   have hf:kU n=false:=by
    cases hq:kU n with
    | false => rfl
    | true => rw [hq] at h; cases h
   rw [hf]
   exact (Bool.eq_false_iff.2 fun e=>hg (hT.2 (CO.1 e).2.2)).symm
 ·have hp:cC n=false:=by
   unfold cC
   rw [if_neg X,if_pos X,decide_eq_false X]
  rw [hp]
  exact (Bool.eq_false_iff.2 fun e=>(CO.1 e).2.2 2 (Nat.le_refl _) X X).symm
theorem BS:z9 (Ds 16) 12 2147479552=true:=by decide +kernel
theorem xB {n:Nat} (h:2147479552≤n) (h':n<2147483648):cC n=t7 n :=
 BR (k:=16) (by show 65538≤n;omega) (by show n<65538*65538;omega) X h' (rq BS n h (by show n<2147479552+4096;omega))
end Tor
end
section
namespace Tor
open Go Go.RowKit Go.Proofs
theorem Lin.Pr.invP {p:Nat} (hp:Lin.Pr p):ul p:=fun x hx h0=>by
 have h1 : ¬ p∣x:=fun h=>absurd (Nat.le_of_dvd (Nat.pos_of_ne_zero h0) h) X
 have h2:=hp.inverse h1
 rw [Nat.mod_mul_mod,Nat.mul_comm]; exact h2
theorem Aa:((List.range 17).all fun i => !qU (2147483630+i))=true:=by decide +kernel
theorem Ab:bf cC 2147483648=2147483647:=by
 show mw cC (2147483647+1)=_
 rw [mw,if_pos iQ]
theorem Ac : ∀ k,k≤17→mw cC (2147483630+k)=2147483629
 | 0, _ => by
  show mw cC (2147483629+1)=_
  rw [mw,if_pos iR]
 | k + 1, h => by
  have h1:=List.all_eq_true.1 Aa k (List.mem_range.2 X)
  rw [← Nat.add_assoc,mw,lR X,if_neg (by simpa using h1)]
  exact Ac k X
theorem Dt:bf cC 2147483647=2147483629:=Ac 17 S
theorem DV {p:Nat} (h:2147479552≤p) (h':p<2147483648) (hb:cC p=true):Lin.Pr p:=by
 rw [xB h h'] at hb
 exact Lin.Pr.of_trial X (CO.1 hb).2.2
def eH (d:Int):Nat:=if d % 2147483647=0 then 2147483629 else 2147483647
def mO (d:Int):Prop:=d % 2147483647=0→d % 2147483629≠0
theorem oR (d:Int):eH d=2147483629∨eH d=2147483647:=by
 unfold eH;split
 ·exact .inl Y
 ·exact .inr Y
theorem uN (d:Int):cC (eH d)=true:=by
 rcases oR d with h | h <;> rw [h]
 ·exact iR
 ·exact iQ
theorem nu (d:Int):2147483629≤eH d∧eH d<2147483648:=by
 rcases oR d with h | h <;> rw [h] <;> decide
theorem gC (d:Int):Lin.Pr (eH d):=DV (by have:=nu d;omega) (nu d).2 (uN d)
theorem jQ {d:Int} (h:mO d) : ¬ ((eH d:Nat):Int)∣d:=by
 unfold eH
 split
 ·rename_i h1;exact fun h2=>h h1 (Int.emod_eq_zero_of_dvd h2)
 ·rename_i h1;exact fun h2=>h1 (Int.emod_eq_zero_of_dvd h2)
theorem v5 (d:Int) (hs:bm d) (h:mO d):Ok Tryz.prog 56 [aL d] (one (.int .u64 (eH d:Nat))):=by
 unfold eH
 split
 ·rename_i h1
  exact xe d 2147483647 2147483629 hs Ab Dt S S S h1 (h h1)
 ·rename_i h1
  exact xb d 2147483647 hs Ab S S h1
def Ad (n:Nat) (F:Nat→Nat→Int) (b:Nat→Int) (j:Nat):Rat:=Rat.divInt (Lin.bW n (kR F j b)) (Lin.bW n F)
theorem ko {n:Nat} (hn:n≤4):sQ 2 n:=⟨by decide,Nat.le_trans (Nat.mul_le_mul_left 3 (Nat.pow_le_pow_right (n:=2) S hn)) S⟩
theorem oS {x:Int} (h:x.natAbs≤34359738368):lz 2 x:=cF (k:=2) X
theorem qd {n:Nat} {F:Nat→Nat→Int} (hn:n≤4) (hF : ∀ i j,(F i j).natAbs≤34359738368):bm (Lin.bW n F):=Nat.le_trans (C3 (ko hn) fun i j=>oS (hF i j)) S
theorem uO (n:Nat) (F:Nat→Nat→Int) (b:Nat→Int) (hn:n≤4) (hF : ∀ i j,(F i j).natAbs≤34359738368) (hb : ∀ i,(b i).natAbs≤1152921504606846976) :
  Ok Tryz.prog 53 [bP (n+1) n (dx n F (fun _=>b)),one (.int .i64 (n:Nat))] (aL (kT n F b:Nat)):=by
 unfold kT
 split
 ·rename_i h;subst h;exact xk 1 0 _ 0 S
 ·have hB : ∀ i k,(dx n F (fun _=>b) i k).natAbs≤1152921504606846976:=fun i k=>by
   unfold dx;split
   ·exact Nat.le_trans (hF _ _) S
   ·exact hb _
  refine zK (n+1) n _ n (4*(1152921504606846976*1152921504606846976)) X X X X (fun i j=>Nat.le_trans (hB i j) U) S ?_ (fun i _=>Nat.le_trans (oM (B:=1152921504606846976) (hB i)) (Nat.mul_le_mul_right _ hn))
  exact Nat.lt_of_le_of_lt (Nat.pow_le_pow_right (n:=4*(1152921504606846976*1152921504606846976)) (j:=5) S X) U
theorem jR (n:Nat) (F:Nat→Nat→Int) (b:Nat→Int) (hn:n≤4) (hF : ∀ i j,(F i j).natAbs≤34359738368) (hb : ∀ i,(b i).natAbs≤1152921504606846976) (hd:Lin.bW n F≠0) (hg:mO (Lin.bW n F)) :
  Ok Tryz.prog 13 [bP n n F,bA n b] (bv [uD n (Ad n F b),one (.int .i64 0)]):=by
 obtain ⟨G,hG⟩:=oN n F
 have hp:=nu (Lin.bW n F)
 exact uF (eH (Lin.bW n F)) n F b (Lin.bW n F) (kT n F b) (Ad n F b) (uN _) X hp.2 (gC _).invP (z7 (gC _) hG (jQ hg)) X
  (fun i j=>Nat.le_trans (hF i j) S) (fun i=>Nat.le_trans (hb i) S) (uu n F 2 X (ko hn) (fun i j=>oS (hF i j))) hd (v5 _ (qd hn hF) hg) (uO n F b hn hF hb) (BP hn hF hb)
  (fun k Ed hk hS j hj s hs1 hs2=>DU (gC _) (jQ hg) hk hS hj hs1 hs2)
theorem tv (n:Nat) (F:Nat→Nat→Int) (b:Nat→Int) (hn:n≤4) (hF : ∀ i j,(F i j).natAbs≤34359738368) (hd:Lin.bW n F=0) :
  Ok Tryz.prog 13 [bP n n F,bA n b] (bv [uD 0 (fun _=>0),one (.int .i64 110)]):=by
 have h:=uu n F 2 X (ko hn) (fun i j=>oS (hF i j))
 rw [hd] at h
 exact xp n F b h
theorem jh (n k:Nat) (F:Nat→Nat→Int) (b:Nat→Int) (hn:n≤4) (hF : ∀ i j,(F i j).natAbs≤34359738368) (hb : ∀ i,(b i).natAbs≤1152921504606846976) (hd:Lin.bW n F≠0) (hg:mO (Lin.bW n F)) (hk:k≤64) :
  Ok Tryz.prog 15 [bP n n F,bA n b,one (.int .i64 (k:Nat))] (exT fun pre:List (Nat→Int)=>bZ (gr (eH (Lin.bW n F)) n F b pre∧pre.length=k) (bv [oG n pre,one (.int .u64 (eH (Lin.bW n F):Nat)),one (.int .i64 0)])):=by
 obtain ⟨G,hG⟩:=oN n F
 have hp:=nu (Lin.bW n F)
 exact xh (eH (Lin.bW n F)) n k F b (Lin.bW n F) (uN _) X hp.2 (gC _).invP (z7 (gC _) hG (jQ hg)) X
  (fun i j=>Nat.le_trans (hF i j) S) (fun i=>Nat.le_trans (hb i) S) (uu n F 2 X (ko hn) (fun i j=>oS (hF i j))) hd (v5 _ (qd hn hF) hg) hk
end Tor
end
section
namespace Tor
open Go Go.RowKit Go.Proofs
theorem D5 : ∀ n,n≤4→rdB 2 n≤1099511627700:=by decide +kernel
theorem xC (n:Nat) (F:Nat→Nat→Int) (hn:n≤4) (hF : ∀ i j,(F i j).natAbs≤34359738368):Ok Tryz.prog 20 [bP n n F] (aL (Lin.bW n F)):=uI n F 2 X S (fun i j=>oS (hF i j)) (D5 n hn)
attribute [local irreducible] J PJ aJ one slT bQ bC bv exT bZ eP aP aI slV VT.le Ret bJ xO
attribute [local irreducible] aL
def dgR (p:Nat) (q:Rat):Nat:=(q.num % (p:Int)).toNat*((q.den % p)^(p - 2) % p) % p
theorem BT {n:Nat} {f:Nat→Int} {l:List Int} (h : ∀ j,j<n→f j=l.getD j 0) (hn:n=l.length):VT.le (bA n f) (bA l.length (fun j=>l.getD j 0)):=by
 subst hn
 exact dZ fun j hj=>by rw [h j hj]; exact VT.le_refl _
theorem ix (l:List Int) (hl:l.length≤1048576) (h:(l.all fun x=>decide (-9223372036854775808≤x) && decide (x≤9223372036854775807))=true):Ok Tryz.prog 44 [ib .i64 l] (bA l.length (fun j=>l.getD j 0)):=by
 have hi:=ki 1 l.length l S hl h
 unfold IN bP ib at *
 refine Ok.enter Tryz.func44 Y Tryz.ntmps44 Y (fun w O => ?_)
 refine ae (ai (En Y (Ep (aa (ae (ai (Em Y (El (aW Y) (Em Y ?_)))))))))
 refine El (am (hi) Y ⟨H,H,H,Er⟩) ?_
 refine El (uS Y Y) (El (aC Y Y S) (El (aM Y) (En Y (Ep (aa (aF ?_))))))
 refine aV Tryz.results44 (.tmp Y (BT (fun j hj=>by unfold eU;rw [Nat.zero_mul,Nat.zero_add]) Y))
theorem uP (n:Nat) (f:Nat→Int):Ok Tryz.prog 65 [bA n f,bA n f] (one (.bool true)):=by
 have h:=sB ((List.range n).map f) ((List.range n).map f)
 rw [decide_eq_true Y] at h
 exact h.le ⟨lV n f,lV n f,Er⟩ H
theorem oT (n l:Nat) (f g:Nat→Nat→Int) (hl:l≤1048576) (h : ∀ i j,i<l→j<n→f i j=g i j):Ok Tryz.prog 18 [slT .one l (fun i=>bA n (f i)),slT .one l (fun i=>bA n (g i))] (one (.bool true)):=by
 have hv : ∀ i,i<l→Ok Tryz.prog 65 [bA n (f i),bA n (g i)] (one (.bool true)):=fun i hi=>(uP n (g i)).le ⟨dZ fun j hj=>by rw [h i j hi hj]; exact VT.le_refl _,H,Er⟩ H
 refine Ok.enter Tryz.func18 Y Tryz.ntmps18 Y (fun w O => ?_)
 refine ae (ai (En Y (Ep (aa (ae (ae (ai (Em Y (El (aW Y) ?_)))))))))
 refine Em Y (El (aW Y) (El (sF X (dy Y Y)) (Ep (aa (aB Y (az (aa (ae (ae ?_)))))))))
 refine ai (En Y (Ep (aa (au (cp (Γ' := [(0,_),(1,_),(4,_),(5,_)]) Eg (SubM.refl _) ?_)))))
 refine bD (σ:=Nat) (Γk := [(0,_),(1,_)]) Eg (fun i => [(5,one (.int .i64 (i:Nat)))]) (fun i M0=>M0) (fun i=>i≤l) (fun i=>l - i) (0) (Nat.zero_le _) Eh (.nil) (fun i hi => ?_)
 refine bU (Γ' := [(5,_),(0,_),(1,_)]) (M' := []) Y Y ?_
 by_cases hi2:i<l
 ·have hvi:=hv i hi2
  refine ae (ae (ai (Em Y (Em Y (El (aW Y) (El (sT X (a7 Y Y)) (Ep (aa (aH Y ?_)))))))))
  refine az (aa (ae (au (ae (a8 10 a4 Z S (Em Y (Em Y (El (aC Y Y X) (El (aM Y) ?_)))))))))
  refine Em Y (Em Y (El (aC Y Y X) (El (aM Y) ?_)))
  refine El (am (hv _ (by assumption)) Y ⟨H,H,Er⟩) ?_
  refine El (cR Y) (Ep (Ep (aa (aB Y (az (aD (aa (ai (Em Y ?_)))))))))
  refine El (bI _ 1 Y Y X) (En Y (Ep ?_))
  refine aR (i+1) X X Eh (.nil)
 ·refine ae (ae (ai (Em Y (Em Y (El (aW Y) (El (sF X (a7 Y Y)) (Ep (aa (aB Y ?_)))))))))
  refine aX (av (av (aE (aa (ae (ai (En Y (Ep (aa ?_)))))))))
  refine aF ?_
  refine aV Tryz.results18 (.tmp Y H)
end Tor
end
section
namespace Tor
open Go Go.RowKit Go.Proofs
theorem tx {c d:Int} : Rat.divInt c d=(c:Rat) / (d:Rat):=Rat.divInt_eq_div c d
theorem v6 {n j:Nat} {F G:Nat→Nat→Int} {b:Nat→Int} (h:AdjI n F G (Lin.bW n F)) (hd:Lin.bW n F≠0) (hj:j<n):Ad n F b j=(crB n b G j:Rat) / (Lin.bW n F:Rat):=by
 unfold Ad;rw [tx,vU h hd hj]
attribute [local irreducible] J PJ aJ one slT bQ bC bv exT bZ eP aP aI slV VT.le Ret bJ xO
attribute [local irreducible] aL cD
end Tor
end
section
namespace Tor
open Go Go.RowKit Go.Proofs
def mP (p n:Nat) (F:Nat→Nat→Int) (b:Nat→Int):Nat→Nat→Rat
 | 0 => Ad n F b
 | k + 1 => fun j => (mP p n F b k j - (((dgR p (mP p n F b k j) : Nat) : Int) : Rat)) / ((p : Int) : Rat)
theorem BU {n:Nat} {b c:Nat→Int} {G:Nat→Nat→Int} {m:Int} (j:Nat):crB n (fun i=>b i+m*c i) G j=crB n b G j+m*crB n c G j:=by
 unfold crB
 rw [show (fun i=>(b i+m*c i)*G i j)=fun i=>b i*G i j+m*(c i*G i j) by funext i;rw [Int.add_mul,Int.mul_assoc],f7,du]
theorem BV {n j:Nat} {d:Int} {F G:Nat→Nat→Int} {Ed:Nat→Int} (h:AdjI n F G d) (hj:j<n):crB n (fun i=>bh n (fun t=>Ed t*F t i)) G j=d*Ed j:=by
 have h1:=tn (m:=0) (b:=fun i=>bh n (fun t=>Ed t*F t i)) (Ed:=Ed) h (fun i _=>by rw [Int.sub_self]; exact Int.dvd_refl 0) hj
 have:=Int.zero_dvd.1 h1
 omega
theorem tz {p n k j:Nat} {d:Int} {F G:Nat→Nat→Int} {R:Nat→Nat→Nat} {b:Nat→Int} (hp:0<p) (h:AdjI n F G d) (hR:rh p n F R) (hj:j<n) :
  crB n (stR p n F R b k) G j=d*dgs p n R (stR p n F R b k) j+(p:Int)*crB n (stR p n F R b (k+1)) G j:=by
 rw [← BV (Ed:=dgs p n R (stR p n F R b k)) h hj, ← BU j]
 unfold crB
 exact c7 fun i hi=>by rw [sX hp hR k hi]
theorem uQ {p:Nat} {c d:Int} {x:Nat} (hp:Lin.Pr p) (hd : ¬ (p:Int)∣d) (hx:x<p) (hc:(p:Int)∣c - d*x):((c:Rat) / (d:Rat)).den % p≠0∧dgR p ((c:Rat) / (d:Rat))=x:=by
 have hd0:d≠0:=fun e=>hd (e▸Int.dvd_zero _)
 have hp2:=hp.1
 have hden:(((c:Rat) / (d:Rat)).den:Int)∣d:=by
  rw [← Rat.divInt_eq_div,Rat.den_divInt,if_neg hd0]
  exact Int.ofNat_dvd_left.2 (Nat.div_dvd_of_dvd (Nat.gcd_dvd_left _ _))
 have hnum:((c:Rat) / (d:Rat)).num*d=c*((c:Rat) / (d:Rat)).den:=by
  have h1:=Rat.num_divInt_den ((c:Rat) / (d:Rat))
  rw [Rat.divInt_eq_div] at h1
  have hd1:(d:Rat)≠0:=fun e=>hd0 (Rat.intCast_eq_zero_iff.1 e)
  have hq1:((((c:Rat) / (d:Rat)).den:Int):Rat)≠0:=fun e=>fE _ (Rat.intCast_eq_zero_iff.1 e)
  generalize ((c:Rat) / (d:Rat)).num=a at *
  generalize ((c:Rat) / (d:Rat)).den=e at *
  have h2:(a:Rat)*(d:Rat)=(c:Rat)*((e:Int):Rat):=by
   grind
  rw [← Rat.intCast_mul, ← Rat.intCast_mul] at h2
  exact Rat.intCast_inj.1 h2
 generalize hq:(c:Rat) / (d:Rat)=q at *
 have hdp : ¬ p∣q.den:=fun h=>hd (Int.dvd_trans (Int.natCast_dvd_natCast.2 h) hden)
 have h0:q.den % p≠0:=fun h=>hdp (Nat.dvd_of_mod_eq_zero h)
 refine ⟨h0,?_⟩
 -- the numerator
 have h1:(p:Int)∣d*(q.num - q.den*x):=by
  obtain ⟨t,ht⟩:=hc
  refine ⟨q.den*t,?_⟩
  have e:c*q.den=(d*x+p*t)*q.den:=by rw [← ht]; congr 1;omega
  rw [Int.mul_sub,Int.mul_comm d,hnum,e]
  grind
 have h2:(p:Int)∣q.num - q.den*x:=by
  have h3:=Int.natAbs_dvd_natAbs.2 h1
  rw [Int.natAbs_natCast,Int.natAbs_mul] at h3
  rcases hp.mul h3 with h4 | h4
  ·exact absurd (Int.ofNat_dvd_left.2 h4) hd
  ·exact Int.ofNat_dvd_left.2 h4
 have hinv:=hp.inverse (a:=q.den % p) (fun h=>h0 (Nat.eq_zero_of_dvd_of_lt h (Nat.mod_lt _ X)))
 unfold dgR
 generalize (q.den % p)^(p - 2)=v at *
 have hv:(p:Int)∣((q.den % p:Nat):Int)*(v:Int) - 1:=by
  have h3:=d7 (q.den % p*v) p
  rw [hinv,Int.natCast_mul] at h3
  exact fB h3
 have hv2:(p:Int)∣(q.den:Int)*(v:Int) - 1:=by
  have h3:=c8 (v:Int) (fB (d7 q.den p))
  exact fA h3 hv
 have hv3:=d7 v p
 have hn3:(p:Int)∣((q.num % (p:Int)).toNat:Int) - q.num:=by
  rw [Int.toNat_of_nonneg (Int.emod_nonneg _ X)]
  exact ⟨-(q.num / (p:Int)),by have:=Int.mul_ediv_add_emod q.num (p:Int);rw [Int.mul_neg]; omega⟩
 have h5:(p:Int)∣(((q.num % (p:Int)).toNat*(v % p) % p:Nat):Int) - (x:Int):=by
  refine fA (d7 _ p) ?_
  rw [Int.natCast_mul]
  refine fA (c8 _ hn3) ?_
  have h6:=c8 q.num hv3
  rw [Int.mul_comm _ q.num,Int.mul_comm _ q.num] at h6
  refine fA h6 ?_
  have h8:=c8 (x:Int) hv2
  obtain ⟨s,hs⟩:=Int.dvd_trans h2 (Int.dvd_mul_right _ (v:Int))
  obtain ⟨t,ht⟩:=h8
  exact ⟨s+t,by rw [Int.mul_add, ← hs, ← ht]; grind⟩
 have h9:(q.num % (p:Int)).toNat*(v % p) % p<p:=Nat.mod_lt _ X
 generalize (q.num % (p:Int)).toNat*(v % p) % p=y at *
 obtain ⟨s,hs⟩:=h5
 have h10:s=0:=by
  by_cases h:1≤s
  ·have:=Int.mul_le_mul_of_nonneg_left h (show (0:Int)≤(p:Int) by omega)
   omega
  ·by_cases h':s ≤ -1
   ·have:=Int.mul_le_mul_of_nonneg_left h' (show (0:Int)≤(p:Int) by omega)
    omega
   ·omega
 rw [h10,Int.mul_zero] at hs
 omega
theorem BW {p n:Nat} {F G:Nat→Nat→Int} {R:Nat→Nat→Nat} {b:Nat→Int} (hp:Lin.Pr p) (h:AdjI n F G (Lin.bW n F)) (hd : ¬ (p:Int)∣Lin.bW n F) (hR:rh p n F R) : ∀ k j,j<n →
  mP p n F b k j=(crB n (stR p n F R b k) G j:Rat) / (Lin.bW n F:Rat)∧(mP p n F b k j).den % p≠0∧dgR p (mP p n F b k j)=eG p n R (stR p n F R b k) n j:=by
 have hd0:Lin.bW n F≠0:=fun e=>hd (e▸Int.dvd_zero _)
 have hp2:=hp.1
 have fin : ∀ k j,j<n→mP p n F b k j=(crB n (stR p n F R b k) G j:Rat) / (Lin.bW n F:Rat)→(mP p n F b k j).den % p≠0∧dgR p (mP p n F b k j)=eG p n R (stR p n F R b k) n j:=fun k j hj e=>by
  rw [e]
  exact uQ hp hd (jc hp2 n j) ⟨crB n (stR p n F R b (k+1)) G j,by
   have e:crB n (stR p n F R b k) G j=Lin.bW n F*(eG p n R (stR p n F R b k) n j:Int)+(p:Int)*crB n (stR p n F R b (k+1)) G j:=tz X h hR hj
   omega⟩
 intro k
 induction k with
 | zero => exact fun j hj => ⟨v6 h hd0 hj, fin 0 j hj (v6 h hd0 hj)⟩
 | succ k ih =>
  intro j hj
  obtain ⟨h1,h2,h3⟩:=ih j hj
  have e:mP p n F b (k+1) j=(crB n (stR p n F R b (k+1)) G j:Rat) / (Lin.bW n F:Rat):=by
   show (mP p n F b k j - (((dgR p (mP p n F b k j):Nat):Int):Rat)) / ((p:Int):Rat)=_
   have h4:=congrArg (fun z:Int=>(z:Rat)) (tz (k:=k) (b:=b) X h hR hj)
   rw [Rat.intCast_add,Rat.intCast_mul,Rat.intCast_mul] at h4
   have hd1:(Lin.bW n F:Rat)≠0:=fun e=>hd0 (Rat.intCast_eq_zero_iff.1 e)
   have hp1:((p:Int):Rat)≠0:=fun e=>by have:=Rat.intCast_eq_zero_iff.1 e;omega
   rw [h3,h1,h4]
   rw [show ((eG p n R (stR p n F R b k) n j:Nat):Int)=dgs p n R (stR p n F R b k) j from rfl]
   generalize ((dgs p n R (stR p n F R b k) j:Int):Rat)=a at *
   generalize (crB n (stR p n F R b (k+1)) G j:Rat)=c at *
   generalize (Lin.bW n F:Rat)=d at *
   generalize ((p:Int):Rat)=q at *
   grind
  exact ⟨e,fin (k+1) j hj e⟩
end Tor
end
section
namespace Tor
open Go Go.RowKit Go.Proofs
theorem tA {l:List Int} {B:Nat} (h : ∀ x∈l,x.natAbs≤B) (j:Nat):(l.getD j 0).natAbs≤B:=by
 rw [List.getD_eq_getElem?_getD]
 cases e:l[j]? with
 | none => exact Nat.zero_le _
 | some x => exact h x (List.mem_of_getElem? e)
theorem tB {c:Nat} {l:List Int} (h:(l.all fun x=>decide (x.natAbs≤34359738368))=true) : ∀ i j,(eU c l i j).natAbs≤34359738368:=fun i j=>tA (fun x hx=>of_decide_eq_true (List.all_eq_true.1 h x hx)) _
theorem uR {pre:List (Nat→Int)} (hg:gr 2147483647 1 (eU 1 [2]) (fun j => [1].getD j 0) pre) (hl:pre.length=2):pre.getD 0 z0 0=1073741824∧pre.getD 1 z0 0=1073741823:=by
 obtain ⟨x,y,rfl⟩ : ∃ x y,pre = [x,y]:=by
  match pre,hl with
  | [x, y], _ => exact ⟨x, y, rfl⟩
 have hy:=(show gr 2147483647 1 (eU 1 [2]) (fun j => [1].getD j 0) ([x] ++ [y]) from hg).last S 0
 have hx:=(show gr 2147483647 1 (eU 1 [2]) (fun j => [1].getD j 0) ([] ++ [x]) from (show gr 2147483647 1 (eU 1 [2]) (fun j => [1].getD j 0) ([x] ++ [y]) from hg).init).last S 0
 obtain ⟨t,ht⟩:=hg.sum S 0 S
 have ht:(1:Int) - (0+(0+(2147483647:Int)^0*x 0+(2147483647:Int)^1*y 0)*2)=(2147483647:Int)^2*t:=ht
 rw [Int.pow_zero,Int.pow_succ,Int.pow_zero,show (2147483647:Int)^2=4611686014132420609 by decide] at ht
 show x 0=_∧y 0=_
 omega
theorem BX {φ ψ χ:VT} : VT.le (bv [φ, ψ, χ]) (bv [bJ, ψ, χ]):=by
 rintro v g ⟨vs,h1,h2⟩
 refine ⟨vs,h1,?_⟩
 match vs,h2 with
 | [a, b, c], ⟨p, q, r, _⟩ => exact ⟨trivial, q, r, trivial⟩
theorem tC {n k:Nat} {l:List (Nat→Int)} {f:Nat→Nat→Int} (hk:l.length=k) (h : ∀ i j,i<k→j<n→l.getD i z0 j=f i j) {ψ χ:VT} : VT.le (bv [oG n l, ψ, χ]) (bv [slT .one k (fun i=>bA n (f i)), ψ, χ]):=by
 subst hk
 rintro v g ⟨vs,h1,h2⟩
 refine ⟨vs,h1,?_⟩
 match vs,h2 with
 | [a, b, c], ⟨p, q, r, _⟩ => exact ⟨(dZ fun i hi => dZ fun j hj => by rw [h i j hi hj]; exact VT.le_refl _ : VT.le (oG n l) _) _ _ p, q, r, trivial⟩
theorem l9 {n m:Nat} {f g:Nat→Rat} (hn:n=m) (h : ∀ i,i<n→f i=g i) {χ:VT} : VT.le (bv [uD n f, χ]) (bv [d9 m g, χ]):=by
 subst hn
 rintro v k ⟨vs,h1,h2⟩
 refine ⟨vs,h1,?_⟩
 match vs,h2 with
 | [a, b], ⟨p, q, _⟩ => exact ⟨BD h _ _ p, q, trivial⟩
theorem Ae {L:Lay} {φ ψ:VT} {f:Nat→VT} (h0:φ=f 0) (h1:ψ=f 1):VT.le (slT L 2 (fun q => [ψ, φ].reverse.getD q bJ)) (slT L 2 f):=dZ fun i hi=>by
 rcases (show i=0∨i=1 by omega) with rfl | rfl
 ·exact kf h0
 ·exact kf h1
theorem BY {L:Lay} {φ:VT} {f:Nat→VT} (h0:φ=f 0):VT.le (slT L 1 (fun q => [φ].reverse.getD q bJ)) (slT L 1 f):=dZ fun i hi=>by
 obtain rfl:i=0:=by omega
 exact kf h0
theorem Af {a:Rat} {g:Nat→Rat} (h0:a=g 0):VT.le (slT (.agg 4) 1 (fun q => [cD a].reverse.getD q bJ)) (d9 1 g):=BY (f:=fun i=>cD (g i)) (congrArg cD h0)
theorem Ag {a b:Rat} {g:Nat→Rat} (h0:a=g 0) (h1:b=g 1):VT.le (slT (.agg 4) 2 (fun q => [cD b,cD a].reverse.getD q bJ)) (d9 2 g):=Ae (f:=fun i=>cD (g i)) (congrArg cD h0) (congrArg cD h1)
theorem Ah {f:Nat→Int} : VT.le (one (.slice none 0 0)) (bA 0 f):=eX
theorem Du:Ok Tryz.prog 13 [bP 0 0 (fun _ _=>0),bA 0 (fun _=>0)] (bv [slT (.agg 4) 0 (fun _=>cD 0),one (.int .i64 0)]) :=
 (jR 0 (fun _ _=>0) (fun _=>0) S (fun _ _=>Nat.zero_le _) (fun _=>Nat.zero_le _) S (by unfold mO;decide +kernel)).le (de _) (l9 (g:=fun _=>0) Y (fun i hi=>absurd hi (Nat.not_lt_zero i)))
attribute [local irreducible] J PJ aJ one slT bQ bC bv exT bZ eP aP aI slV VT.le Ret bJ xO
attribute [local irreducible] aL cD bP bA d9
set_option maxRecDepth 20000 in
theorem tD:Ok Tryz.prog 8 [] (one (.bool true)):=by
 have i1:Ok Tryz.prog 43 [one (.int .i64 (2:Nat)),one (.int .i64 (2:Nat)),ib .i64 [1,2,3,4]] (bP 2 2 (eU 2 [1,2,3,4])):=ki 2 2 [1,2,3,4] S S S
 have i2:Ok Tryz.prog 43 [one (.int .i64 (1:Nat)),one (.int .i64 (1:Nat)),ib .i64 [2]] (bP 1 1 (eU 1 [2])):=ki 1 1 [2] S S S
 have i3:Ok Tryz.prog 43 [one (.int .i64 (1:Nat)),one (.int .i64 (1:Nat)),ib .i64 [2147483647]] (bP 1 1 (eU 1 [2147483647])):=ki 1 1 [2147483647] S S S
 have i4:Ok Tryz.prog 43 [one (.int .i64 (2:Nat)),one (.int .i64 (2:Nat)),ib .i64 [1,2,2,4]] (bP 2 2 (eU 2 [1,2,2,4])):=ki 2 2 [1,2,2,4] S S S
 have i5:Ok Tryz.prog 43 [one (.int .i64 (1:Nat)),one (.int .i64 (2:Nat)),ib .i64 [1,2]] (bP 1 2 (eU 2 [1,2])):=ki 1 2 [1,2] S S S
 have w1:Ok Tryz.prog 44 [ib .i64 [1,0]] (bA 2 (fun j=>([1,0]:List Int).getD j 0)):=ix [1,0] S S
 have w2:Ok Tryz.prog 44 [ib .i64 [1]] (bA 1 (fun j=>([1]:List Int).getD j 0)):=ix [1] S S
 have w3:Ok Tryz.prog 44 [ib .i64 [1073741824]] (bA 1 (fun j=>([1073741824]:List Int).getD j 0)):=ix [1073741824] S S
 have w4:Ok Tryz.prog 44 [ib .i64 [1073741823]] (bA 1 (fun j=>([1073741823]:List Int).getD j 0)):=ix [1073741823] S S
 have n1:=zX 0 0 S S
 have s1:=(jR 2 (eU 2 [1,2,3,4]) (fun j=>([1,0]:List Int).getD j 0) S (tB S) (tA S) U (by unfold mO;decide +kernel)).le (de _) (l9 (g:=fun i=>(([-2,1]:List Int).getD i 0:Rat)) Y U)
 have s2:=(jR 1 (eU 1 [2]) (fun j=>([1]:List Int).getD j 0) S (tB S) (tA S) U (by unfold mO;decide +kernel)).le (de _) (l9 (g:=fun i=>Rat.divInt 1 2) Y U)
 have s3:=Du
 have s4:=(tv 2 (eU 2 [1,2,2,4]) (fun j=>([1,0]:List Int).getD j 0) S (tB S) U).le (de _) (l9 (g:=fun _=>0) Y (fun i hi=>absurd hi (Nat.not_lt_zero i)))
 have s5:=(xo 1 2 2 (eU 2 [1,2]) (fun j=>([1,0]:List Int).getD j 0) S).le (de _) (l9 (g:=fun _=>0) Y (fun i hi=>absurd hi (Nat.not_lt_zero i)))
 have d1:=(jh 1 2 (eU 1 [2]) (fun j=>([1]:List Int).getD j 0) S (tB S) (tA S) U (by unfold mO;decide +kernel) S).le (de _)
  (tL fun pre=>qi fun h=>tC (f:=fun i j=>if i=0 then ([1073741824]:List Int).getD j 0 else ([1073741823]:List Int).getD j 0) h.2 (fun i j hi hj=>by
   have:=uR h.1 h.2
   obtain rfl:j=0:=by omega
   rcases (show i=0∨i=1 by omega) with rfl | rfl
   ·exact this.1
   ·exact this.2))
 rw [show eH (Lin.bW 1 (eU 1 [2]))=2147483647 by decide +kernel] at d1
 have d2:=(jh 1 1 (eU 1 [2147483647]) (fun j=>([1]:List Int).getD j 0) S (tB S) (tA S) U (by unfold mO;decide +kernel) S).le (de _) (tL fun pre=>qi fun h=>BX)
 rw [show eH (Lin.bW 1 (eU 1 [2147483647]))=2147483629 by decide +kernel] at d2
 have d3:=uz 1 (eU 1 [2]) (fun j=>([1]:List Int).getD j 0) 65 S
 have hsa:=oT 1 2 (fun i j=>if i=0 then ([1073741824]:List Int).getD j 0 else ([1073741823]:List Int).getD j 0) (fun i j=>if i=0 then ([1073741824]:List Int).getD j 0 else ([1073741823]:List Int).getD j 0) S (fun i j _ _=>rfl)
 have hl1:=oK 2 2 (fun i=>(([-2,1]:List Int).getD i 0:Rat)) (fun i=>(([-2,1]:List Int).getD i 0:Rat)) S
 have hl2:=oK 1 1 (fun i=>Rat.divInt 1 2) (fun i=>Rat.divInt 1 2) S
 rw [decide_eq_true ⟨rfl,fun i _=>rfl⟩] at hl1 hl2
 have m1:=xr 1 2 S S S S S
 have u1:=jO (-2) S S
 have u2:=jO 1 S S
 refine Ok.enter Tryz.func8 Y Tryz.ntmps8 Y (fun w O => ?_)
 refine ae (ai (En Y (Ep (aa (ae (ai (stS Y Y Y Y (PartsK.cons Y (PartsK.cons Y ?_)))))))))
 refine PartsK.cons Y (PartsK.cons Y (PartsK.nil ?_))
 refine El (am (i1) Y ⟨H,H,(iw [1,2,3,4]),Er⟩) ?_
 refine gm Y Y Y Y ?_
 refine El (am (i2) Y ⟨H,H,(iV 2),Er⟩) ?_
 refine bj (T:=30) Y Y Y (fun b1 => ?_)
 refine bj (T:=30) Y Y Y (fun b2 => ?_)
 refine lh 1 Y Y Y Y (lh 0 Y Y Y Y (Ep (aa (ae (a8 8 a4 Z S (El (ak 1 Y Y Y) (stS Y Y Y Y (PartsK.cons Y (PartsK.cons Y ?_)))))))))
 refine PartsK.nil ?_
 refine El (am (w1) Y ⟨(iw [1,0]),Er⟩) ?_
 refine El (am (s1) Y ⟨H,H,Er⟩) ?_
 refine Em Y (El (ar Y Y) (El (ar Y Y) (En Y (Ep (En Y (Ep (aa (ae (a8 8 a4 Z S ?_)))))))))
 refine El (ak 0 Y Y Y) (gm Y Y Y Y ?_)
 refine El (am (w2) Y ⟨(iV 1),Er⟩) ?_
 refine El (am (s2) Y ⟨H,H,Er⟩) ?_
 refine Em Y (El (ar Y Y) (El (ar Y Y) (En Y (Ep (En Y (Ep (aa (ae (ai ?_)))))))))
 refine El (am (n1) Y ⟨H,H,Er⟩) ?_
 refine El (am (s3) Y ⟨H,(Ah),Er⟩) ?_
 refine Em Y (El (ar Y Y) (El (ar Y Y) (En Y (En Y (Ep (aa (ae (a8 10 a4 Z S (El (ak 0 Y Y Y) ?_)))))))))
 refine gm Y Y Y Y ?_
 refine El (am (w2) Y ⟨(iV 1),Er⟩) ?_
 refine El (am (d1) Y ⟨H,H,H,Er⟩) ?_
 refine Em Y (El (ar Y Y) (El (ar Y Y) (El (ar Y Y) (En Y (En Y (Ep (En Y (Ep (aa ?_)))))))))
 refine ae (ai (gm Y Y Y Y ?_))
 refine El (am (i3) Y ⟨H,H,(iV 2147483647),Er⟩) ?_
 refine gm Y Y Y Y ?_
 refine El (am (w2) Y ⟨(iV 1),Er⟩) ?_
 refine El (am (d2) Y ⟨H,H,H,Er⟩) ?_
 refine Em Y (El (ar Y Y) (El (ar Y Y) (El (ar Y Y) (En Y (En Y (En Y (Ep (aa (ae ?_)))))))))
 refine ai (stS Y Y Y Y (PartsK.cons Y (PartsK.cons Y (PartsK.cons Y (PartsK.cons Y (PartsK.nil ?_))))))
 refine El (am (i4) Y ⟨H,H,(iw [1,2,2,4]),Er⟩) ?_
 refine stS Y Y Y Y (PartsK.cons Y (PartsK.cons Y (PartsK.nil ?_)))
 refine El (am (w1) Y ⟨(iw [1,0]),Er⟩) ?_
 refine El (am (s4) Y ⟨H,H,Er⟩) ?_
 refine Em Y (El (ar Y Y) (El (ar Y Y) (En Y (En Y (Ep (aa (ae (ai (stS Y Y Y Y ?_)))))))))
 refine PartsK.cons Y (PartsK.cons Y (PartsK.nil ?_))
 refine El (am (i5) Y ⟨H,H,(iw [1,2]),Er⟩) ?_
 refine stS Y Y Y Y (PartsK.cons Y (PartsK.cons Y (PartsK.nil ?_)))
 refine El (am (w1) Y ⟨(iw [1,0]),Er⟩) ?_
 refine El (am (s5) Y ⟨H,H,Er⟩) ?_
 refine Em Y (El (ar Y Y) (El (ar Y Y) (En Y (En Y (Ep (aa (ae (a8 10 a4 Z S (El (ak 0 Y Y Y) ?_)))))))))
 refine gm Y Y Y Y ?_
 refine El (am (w2) Y ⟨(iV 1),Er⟩) ?_
 refine El (am (d3) Y ⟨H,H,H,Er⟩) ?_
 refine Em Y (El (ar Y Y) (El (ar Y Y) (El (ar Y Y) (En Y (En Y (Ep (En Y (Ep (aa ?_)))))))))
 refine ae (ai (Em Y (El (sT X (cm Y Y)) (Em Y (Eo (ab Y) ?_)))))
 refine Eo (am (u1) Y ⟨H,Er⟩) ?_
 refine Eo (am (u2) Y ⟨H,Er⟩) ?_
 refine xT Y Y Y Y Y Y (PartsK.cons Y (PartsK.cons Y (PartsK.nil ?_)))
 refine Eo (am (hl1) Y ⟨H,(Ag Y Y),Er⟩) ?_
 refine El (bp Y Y) (Em Y (Eo (ab Y) (Eo (sT X (cm Y Y)) (El (bp Y Y) (Em Y (Eo (ab Y) ?_))))))
 refine Eo (am (m1) Y ⟨H,H,Er⟩) ?_
 refine xT Y Y Y Y Y Y (PartsK.cons Y (PartsK.nil ?_))
 refine Eo (am (hl2) Y ⟨H,(Af Y),Er⟩) ?_
 refine El (bp Y Y) (Em Y (Eo (ab Y) (Eo (sT X (cm Y Y)) (El (bp Y Y) (Em Y (Eo (ab Y) (Eo (aW Y) (Eo (sT X (cm Y Y)) (El (bp Y Y) ?_)))))))))
 refine En Y (Ep (aa (ae (ai (Em Y (El (sT X (cm Y Y)) (Em Y (Eo (ab Y) (Eo (sT X (cm Y Y)) ?_)))))))))
 refine El (bp Y Y) (Em Y (Eo (ab Y) (xT Y Y Y Y Y Y (PartsK.cons Y (PartsK.nil ?_)))))
 refine Eo (am (w3) Y ⟨(iw [1073741824]),Er⟩) ?_
 refine xT Y Y Y Y Y Y (PartsK.cons Y (PartsK.nil ?_))
 refine Eo (am (w4) Y ⟨(iw [1073741823]),Er⟩) ?_
 refine xT Y Y Y Y Y Y (PartsK.cons Y (PartsK.cons Y (PartsK.nil ?_)))
 refine Eo (am (hsa) Y ⟨H,(Ae Y Y),Er⟩) ?_
 refine El (bp Y Y) (Em Y (Eo (ab Y) (Eo (sT X (cm Y Y)) (El (bp Y Y) (Em Y (Eo (ab Y) (Eo (sT X (cm Y Y)) (El (bp Y Y) (En Y ?_)))))))))
 refine Ep (aa (ae (ai (Em Y (Em Y (Eo (ab Y) (El (bp Y Y) (Em Y (Eo (ab Y) ?_)))))))))
 refine Eo (sT X (cm Y Y)) (El (bp Y Y) (Em Y (Eo (ab Y) (Eo (sT X (cm Y Y)) (El (bp Y Y) (Em Y (Eo (ab Y) (Eo (sT X (cm Y Y)) (El (bp Y Y) ?_)))))))))
 refine En Y (Ep (aa (aF ?_)))
 refine aV Tryz.results8 (.tmp Y H)
end Tor
end
