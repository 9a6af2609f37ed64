/-
  Theorems that the proofs of laws of this seat rest on.
  No condition.
-/
import Derived.Test.YtbgloceimmbliaaGreatEA10
set_option linter.unusedVariables false
set_option linter.unusedSimpArgs false
section
namespace Tor
namespace Lin
theorem cramer_to {n j:Nat} (hj:j<n) (F:Nat→Nat→Rat) (c:Nat→Rat) : ∀ m,m≤n→det n (fun i k=>if i=j then sm m (fun t=>c t*F t k) else F i k)=if j<m then c j*det n F else 0
 | 0, _ => by
  rw [if_neg (Nat.not_lt_zero j),im 0 0 (p:=j) (G:=F) (DP:=F) hj (fun k _=>by rw [if_pos Y]; show (0:Rat)=_;grind) (fun i k _ _ hi=>by rw [if_neg hi]) (fun i k _ _ hi=>by rw [if_neg hi])]
  grind
 | m + 1, hm => by
  have ih:=cramer_to hj F c m Z
  rw [im 1 (c m) (p:=j) (G:=fun i k=>if i=j then sm m (fun t=>c t*F t k) else F i k) (DP:=fun i k=>if i=j then F m k else F i k) hj
   (fun k _=>by rw [if_pos Y,if_pos Y,if_pos Y]; show sm m (fun t=>c t*F t k)+c m*F m k=_;grind) (fun i k _ _ hi=>by rw [if_neg hi,if_neg hi]) (fun i k _ _ hi=>by rw [if_neg hi,if_neg hi]),ih]
  by_cases e:m=j
  ·subst e
   have h:det n (fun i k=>if i=m then F m k else F i k)=det n F:=bG fun i k _ _=>by
    by_cases h:i=m
    ·rw [if_pos h,h]
    ·rw [if_neg h]
   rw [h,if_neg (Nat.lt_irrefl m),if_pos (Nat.lt_succ_self m)]
   grind
  ·have h:det n (fun i k=>if i=j then F m k else F i k)=0:=by
    rcases Nat.lt_or_gt_of_ne e with h | h
    ·exact e6 fL h hj (fun k _=>by rw [if_neg Z,if_pos Y])
    ·exact e6 fL h Z (fun k _=>by rw [if_pos Y,if_neg Z])
   rw [h]
   by_cases h2:j<m
   ·rw [if_pos h2,if_pos Z]; grind
   ·rw [if_neg h2,if_neg Z]; grind
end Lin
def kr (F:Nat→Nat→Int) (j:Nat) (b:Nat→Int):Nat→Nat→Int:=fun i k=>if i=j then b k else F i k
theorem C7 {n j:Nat} {F:Nat→Nat→Int} {b c:Nat→Int} {d:Int} (hj:j<n) (hd:d≠0) (h : ∀ k,k<n→bA n (fun t=>c t*F t k)=d*b k):d*Lin.bY n (kr F j b)=c j*Lin.bY n F:=by
 have h1:=Lin.cramer_to hj (fun i k=>(F i k:Rat)) (fun t=>(c t:Rat)) n (Nat.le_refl _)
 rw [if_pos hj] at h1
 have h2:Lin.det n (fun i k=>if i=j then Lin.sm n (fun t=>(c t:Rat)*(F t k:Rat)) else (F i k:Rat))=(d:Rat)*Lin.det n (fun i k=>((kr F j b i k:Int):Rat)):=by
  rw [Lin.im (d:Rat) 0 (p:=j) (G:=fun i k=>((kr F j b i k:Int):Rat)) (DP:=fun i k=>((kr F j b i k:Int):Rat)) hj (fun k hk=>by
   rw [if_pos Y]
   unfold kr
   rw [if_pos Y]
   have:=congrArg (fun z:Int=>(z:Rat)) (h k hk)
   rw [g9,Rat.intCast_mul] at this
   rw [show (fun t=>(c t:Rat)*(F t k:Rat))=fun t=>((c t*F t k:Int):Rat) by funext t;rw [Rat.intCast_mul],this]
   grind) (fun i k _ _ hi=>by unfold kr;rw [if_neg hi,if_neg hi]) (fun i k _ _ hi=>by unfold kr;rw [if_neg hi,if_neg hi])]
  grind
 rw [h2, ← Lin.dj, ← Lin.dj, ← Rat.intCast_mul, ← Rat.intCast_mul] at h1
 exact Rat.intCast_inj.1 h1
structure AdjI (n:Nat) (F G:Nat→Nat→Int) (d:Int):Prop where
 fg : ∀ i j,i<n→j<n→bA n (fun k=>F i k*G k j)=if i=j then d else 0
 gf : ∀ i j,i<n→j<n→bA n (fun k=>G i k*F k j)=if i=j then d else 0
theorem oQ (n:Nat) (F:Nat→Nat→Int) : ∃ G,AdjI n F G (Lin.bY n F):=⟨_,fun i j hi hj=>(tp n F i j hi hj).1,fun i j hi hj=>(tp n F i j hi hj).2⟩
theorem z4 (n m:Nat) (f:Nat→Nat→Int):bA n (fun i=>bA m (fun j=>f i j))=bA m (fun j=>bA n (fun i=>f i j)):=by
 induction n with
 | zero => exact ((dU (n := m) (f := fun _ => (0 : Int)) (g := fun _ => (0 : Int) * 0) (fun _ _ => rfl)).trans ((dV m 0 _).trans (Int.zero_mul _))).symm
 | succ n ih => rw [bA, ih, ← iu]; rfl
theorem oR {n:Nat} {G F:Nat→Nat→Int} {u:Nat→Int} (j:Nat):bA n (fun h=>G j h*bA n (fun k=>F h k*u k))=bA n (fun k=>bA n (fun h=>G j h*F h k)*u k):=by
 have e1:(fun h=>G j h*bA n (fun k=>F h k*u k))=fun h=>bA n (fun k=>G j h*F h k*u k):=by
  funext h
  rw [← dV]
  exact congrArg (bA n) (funext fun k=>by rw [Int.mul_assoc])
 have e2:(fun k=>bA n (fun h=>G j h*F h k)*u k)=fun k=>bA n (fun h=>G j h*F h k*u k):=by
  funext k
  rw [Int.mul_comm, ← dV]
  exact congrArg (bA n) (funext fun h=>Int.mul_comm _ _)
 rw [e1,e2]
 exact z4 n n _
theorem mG {n j:Nat} {d:Int} {u:Nat→Int} (hj:j<n):bA n (fun k=>(if j=k then d else 0)*u k)=d*u j:=by
 rw [gZ hj fun k _ hne=>by rw [if_neg (fun e=>hne e.symm),Int.zero_mul],if_pos Y]
theorem z5 {p n:Nat} {F G:Nat→Nat→Int} {d:Int} (hp:Lin.Pr p) (h:AdjI n F G d) (hd : ¬ (p:Int)∣d):ui p n F:=fun u hu j hj=>by
 have h1:(p:Int)∣bA n (fun h=>G j h*bA n (fun k=>F h k*u k)):=re fun k hk=>Int.dvd_mul_of_dvd_right (hu k hk)
 rw [oR,dU (g:=fun k=>(if j=k then d else 0)*u k) (fun k hk=>by rw [h.gf j k hj hk]),mG hj] at h1
 have h2:=Int.natAbs_dvd_natAbs.2 h1
 rw [Int.natAbs_natCast,Int.natAbs_mul] at h2
 rcases hp.mul h2 with h3 | h3
 ·exact absurd (Int.ofNat_dvd_left.2 h3) hd
 ·exact Int.ofNat_dvd_left.2 h3
def crB (n:Nat) (b:Nat→Int) (G:Nat→Nat→Int) (j:Nat):Int:=bA n (fun i=>b i*G i j)
theorem vN {n k:Nat} {F G:Nat→Nat→Int} {d:Int} {b:Nat→Int} (h:AdjI n F G d) (hk:k<n):bA n (fun t=>crB n b G t*F t k)=d*b k:=by
 have e:(fun t=>crB n b G t*F t k)=fun t=>F t k*bA n (fun i=>G i t*b i):=by
  funext t
  rw [Int.mul_comm]
  exact congrArg (F t k * ·) (congrArg (bA n) (funext fun i=>Int.mul_comm _ _))
 rw [e,show (fun t=>F t k*bA n (fun i=>G i t*b i))=fun t=>(fun a c=>F c a) k t*bA n (fun i=>(fun a c=>G c a) t i*b i) from rfl,oR (G:=fun a c=>F c a) (F:=fun a c=>G c a) k,
  dU (g:=fun i=>(if k=i then d else 0)*b i) (fun i hi=>by
   have:=h.gf i k hi hk
   rw [dU (g:=fun t=>G i t*F t k) (fun t _=>Int.mul_comm _ _),this]
   by_cases e:i=k
   ·rw [if_pos e,if_pos e.symm]
   ·rw [if_neg e,if_neg fun e'=>e e'.symm]),mG hk]
theorem vO {n j:Nat} {F G:Nat→Nat→Int} {b:Nat→Int} (h:AdjI n F G (Lin.bY n F)) (hd:Lin.bY n F≠0) (hj:j<n):crB n b G j=Lin.bY n (kr F j b):=by
 have:=C7 (F:=F) (b:=b) (c:=crB n b G) hj hd (fun k hk=>vN h hk)
 rw [Int.mul_comm (crB n b G j)] at this
 exact (Int.eq_of_mul_eq_mul_left hd this).symm
theorem z6 {n j:Nat} {m d:Int} {F G:Nat→Nat→Int} {b DN:Nat→Int} (h:AdjI n F G d) (hS : ∀ i,i<n→m∣b i - bA n (fun t=>DN t*F t i)) (hj:j<n):m∣crB n b G j - d*DN j:=by
 have h1:m∣bA n (fun i=>(b i - bA n (fun t=>DN t*F t i))*G i j):=re fun i hi=>Int.dvd_mul_of_dvd_left (hS i hi)
 have e:(fun i=>(b i - bA n (fun t=>DN t*F t i))*G i j)=fun i=>b i*G i j+(-1)*((fun a c=>G c a) j i*bA n (fun t=>(fun a c=>F c a) i t*DN t)):=by
  funext i
  dsimp only
  rw [Int.sub_mul,Int.mul_comm (bA n _) (G i j),show (fun t=>DN t*F t i)=fun t=>F t i*DN t by funext t;exact Int.mul_comm _ _]
  omega
 rw [e,iu,dV,oR (G:=fun a c=>G c a) (F:=fun a c=>F c a) j,dU (f:=fun k=>bA n (fun i=>(fun a c=>G c a) j i*(fun a c=>F c a) i k)*DN k) (g:=fun k=>(if j=k then d else 0)*DN k) (fun k hk=>by
   have:=h.fg k j hk hj
   dsimp only
   rw [dU (g:=fun i=>F k i*G i j) (fun i _=>Int.mul_comm _ _),this]
   by_cases e:k=j
   ·rw [if_pos e,if_pos e.symm]
   ·rw [if_neg e,if_neg fun e'=>e e'.symm]),mG hj] at h1
 unfold crB
 rwa [show bA n (fun i=>b i*G i j) - d*DN j=bA n (fun i=>b i*G i j) + -1*(d*DN j) by omega]
end Tor
end
section
namespace Tor
open Go Go.RowKit Go.Proofs
theorem tq {a:Int} {m s:Nat} {f:Rat} : jd a m s f=true↔f.num.natAbs≤s∧f.den≤s∧Nat.gcd f.den m=1∧(f.num - a*f.den) % (m:Int)=0:=by
 unfold jd
 simp only [Bool.and_eq_true,decide_eq_true_eq]
structure EucI (a:Int) (m s:Nat) (x y:Nat × Int):Prop where
 det:(x.1:Int)*y.2 - (y.1:Int)*x.2=m∨(x.1:Int)*y.2 - (y.1:Int)*x.2 = -(m:Int)
 sg:x.2*y.2≤0
 gx:s<x.1
 ax:(m:Int)∣(x.1:Int) - a*x.2
 ay:(m:Int)∣(y.1:Int) - a*y.2
theorem tr (q:Int):0≤q*q:=by
 rcases Int.le_total 0 q with h | h
 ·exact Int.mul_nonneg h h
 ·exact Int.mul_nonneg_of_nonpos_of_nonpos h h
theorem EucI.step {a:Int} {m s:Nat} {x y:Nat × Int} (h:EucI a m s x y) (hc:s<y.1):EucI a m s y (x.1 % y.1,x.2 - ((x.1 / y.1:Nat):Int)*y.2):=by
 have hd:(y.1:Int)*((x.1 / y.1:Nat):Int)+((x.1 % y.1:Nat):Int)=(x.1:Int):=by
  have:=Nat.div_add_mod x.1 y.1
  rw [← Int.natCast_mul, ← Int.natCast_add,this]
 have hq:(0:Int)≤((x.1 / y.1:Nat):Int):=Int.natCast_nonneg _
 obtain ⟨u,v,w,k1,k2⟩:=h
 refine ⟨?_,?_,hc,k2,?_⟩ <;> dsimp only at *
 ·generalize ((x.1 / y.1:Nat):Int)=q at *
  generalize ((x.1 % y.1:Nat):Int)=r at *
  have e:(y.1:Int)*(x.2 - q*y.2) - r*y.2 = -((x.1:Int)*y.2 - (y.1:Int)*x.2):=by grind
  rw [e]
  rcases u with u | u <;> rw [u]
  ·right;rfl
  ·left;omega
 ·generalize ((x.1 / y.1:Nat):Int)=q at *
  have e:y.2*(x.2 - q*y.2)=x.2*y.2 - q*(y.2*y.2):=by grind
  rw [e]
  have:=Int.mul_nonneg hq (tr y.2)
  omega
 ·generalize ((x.1 / y.1:Nat):Int)=q at *
  generalize ((x.1 % y.1:Nat):Int)=r at *
  have e:r - a*(x.2 - q*y.2)=((x.1:Int) - a*x.2) - q*((y.1:Int) - a*y.2):=by grind
  rw [e]
  exact Int.dvd_sub k1 (Int.dvd_mul_of_dvd_right k2)
theorem tt {a:Int} {m s:Nat} : ∀ (f:Nat) (x y:Nat × Int),y.1<f→EucI a m s x y → ∃ x',EucI a m s x' (kO s f x y)∧(kO s f x y).1≤s
 | 0, _, _, h, _ => absurd h (Nat.not_lt_zero _)
 | f + 1, x, y, h, hi => by
  rw [kO]
  by_cases c:s<y.1
  ·rw [if_pos c]
   exact tt f _ _ (by have:=Nat.mod_lt x.1 (show 0<y.1 by omega);show x.1 % y.1<f;omega) (hi.step c)
  ·rw [if_neg c]
   exact ⟨x,hi,by omega⟩
theorem uC {m z:Int} (h:m∣z) (hl:z.natAbs<m.natAbs):z=0:=by
 obtain ⟨k,rfl⟩:=h
 rw [Int.natAbs_mul] at hl
 by_cases hk:k=0
 ·rw [hk,Int.mul_zero]
 ·have:=Nat.le_mul_of_pos_right m.natAbs (show 0<k.natAbs by omega)
  omega
theorem tu {P Q:Int} (h:0≤P*Q):Q.natAbs≤(P+Q).natAbs:=by
 rcases Int.lt_trichotomy P 0 with p | p | p
 ·rcases Int.lt_trichotomy Q 0 with q | q | q
  ·omega
  ·omega
  ·have:=Int.mul_neg_of_neg_of_pos p q;omega
 ·omega
 ·rcases Int.lt_trichotomy Q 0 with q | q | q
  ·have:=Int.mul_neg_of_pos_of_neg p q;omega
  ·omega
  ·omega
theorem BF {a n d:Int} {m s:Nat} {x y:Nat × Int} (h:EucI a m s x y) (hy:y.1≤s) (hm:2*(s*s)<m) (hn:n.natAbs≤s) (hd:d.natAbs≤s) (hd0:0<d) (hc:(m:Int)∣n - a*d) :
  n*y.2=(y.1:Int)*d∧y.2≠0:=by
 obtain ⟨u,v,w,k1,k2⟩:=h
 have hA:(m:Int)∣n*y.2 - (y.1:Int)*d:=by
  have e:n*y.2 - (y.1:Int)*d=(n - a*d)*y.2 - ((y.1:Int) - a*y.2)*d:=by grind
  rw [e]
  exact Int.dvd_sub (Int.dvd_mul_of_dvd_left hc) (Int.dvd_mul_of_dvd_left k2)
 have hB:(m:Int)∣(x.1:Int)*d - n*x.2:=by
  have e:(x.1:Int)*d - n*x.2=((x.1:Int) - a*x.2)*d - (n - a*d)*x.2:=by grind
  rw [e]
  exact Int.dvd_sub (Int.dvd_mul_of_dvd_left k1) (Int.dvd_mul_of_dvd_left hc)
 have hm0:(m:Int)≠0:=by omega
 obtain ⟨α,hα⟩:=hA
 obtain ⟨β,hβ⟩:=hB
 -- with the sign of the determinant taken into the factors
 obtain ⟨α, β,eα,e1,e2⟩ : ∃ α' β':Int,(α=α'∨α = -α')∧n=α'*x.1+β'*y.1∧d=α'*x.2+β'*y.2:=by
  rcases u with u | u
  ·refine ⟨α, β, .inl Y,Int.eq_of_mul_eq_mul_left hm0 ?_,Int.eq_of_mul_eq_mul_left hm0 ?_⟩ <;> grind
  ·refine ⟨-α, -β, .inr Z,Int.eq_of_mul_eq_mul_left hm0 ?_,Int.eq_of_mul_eq_mul_left hm0 ?_⟩ <;> grind
 have hx1:(s:Int)<(x.1:Int):=by omega
 have hy1:(0:Int)≤(y.1:Int):=Int.natCast_nonneg _
 by_cases h0:α=0
 ·rw [h0,Int.zero_mul,Int.zero_add] at e1 e2
  refine ⟨by rw [e1,e2]; ac_rfl,fun k => ?_⟩
  rw [k,Int.mul_zero] at e2
  omega
 ·exfalso
  by_cases hs:y.2.natAbs≤s
  ·have hl:(n*y.2 - (y.1:Int)*d).natAbs<(m:Int).natAbs:=by
    have t1:=Nat.mul_le_mul hn hs
    have t2:=Nat.mul_le_mul hy hd
    rw [← Int.natAbs_mul] at t1
    have t3:((y.1:Int)*d).natAbs≤s*s:=by rw [Int.natAbs_mul,Int.natAbs_natCast]; exact t2
    rw [Int.natAbs_natCast]
    omega
   have hz:=uC ⟨_,hα⟩ hl
   rw [hα] at hz
   rcases Int.mul_eq_zero.1 hz with k | k <;> omega
  ·rcases Int.lt_trichotomy α 0 with p | p | p
   ·rcases Int.lt_trichotomy β 0 with q | q | q
    ·have t1:=Int.mul_le_mul_of_nonneg_right (show α ≤ -1 by omega) (show (0:Int)≤x.1 by omega)
     have t2:=Int.mul_le_mul_of_nonneg_right (show β≤0 by omega) hy1
     omega
    ·have t1:=Int.mul_le_mul_of_nonneg_right (show α ≤ -1 by omega) (show (0:Int)≤x.1 by omega)
     rw [q,Int.zero_mul] at e1
     omega
    ·have t1:0≤(α*x.2)*(β*y.2):=by
      have e:(α*x.2)*(β*y.2)=(α*β)*(x.2*y.2):=by ac_rfl
      rw [e]
      exact Int.mul_nonneg_of_nonpos_of_nonpos (by have:=Int.mul_neg_of_neg_of_pos p q;omega) v
     have t2:=tu t1
     rw [← e2,Int.natAbs_mul] at t2
     have t3:=Nat.le_mul_of_pos_left y.2.natAbs (show 0<β.natAbs by omega)
     omega
   ·exact h0 p
   ·rcases Int.lt_trichotomy β 0 with q | q | q
    ·have t1:0≤(α*x.2)*(β*y.2):=by
      have e:(α*x.2)*(β*y.2)=(α*β)*(x.2*y.2):=by ac_rfl
      rw [e]
      exact Int.mul_nonneg_of_nonpos_of_nonpos (by have:=Int.mul_neg_of_pos_of_neg p q;omega) v
     have t2:=tu t1
     rw [← e2,Int.natAbs_mul] at t2
     have t3:=Nat.le_mul_of_pos_left y.2.natAbs (show 0<β.natAbs by omega)
     omega
    ·have t1:=Int.mul_le_mul_of_nonneg_right (show 1≤α by omega) (show (0:Int)≤x.1 by omega)
     rw [q,Int.zero_mul] at e1
     omega
    ·have t1:=Int.mul_le_mul_of_nonneg_right (show 1≤α by omega) (show (0:Int)≤x.1 by omega)
     have t2:=Int.mul_le_mul_of_nonneg_right (show 0≤β by omega) hy1
     omega
theorem vP {a n d:Int} {m s:Nat} (hm:2*(s*s)<m) (hsm:s<m) (hn:n.natAbs≤s) (hd:d.natAbs≤s) (hd0:0<d) (hg:Nat.gcd d.natAbs m=1) (hc:(m:Int)∣n - a*d) :
  uu a m s=some (Rat.divInt n d):=by
 have hm0:(m:Int)≠0:=by omega
 have n1:=Int.emod_nonneg a hm0
 have n2:=Int.emod_lt_of_pos a (show 0<(m:Int) by omega)
 obtain ⟨x,hi,hy⟩:=tt (a:=a) (m:=m) (s:=s) (m+1) (m,0) ((a % (m:Int)).toNat,1) (show (a % (m:Int)).toNat<m+1 by omega)
  ⟨.inl (by simp),by simp,hsm,by simp,by
   show (m:Int)∣((a % (m:Int)).toNat:Int) - a*1
   rw [Int.toNat_of_nonneg n1,Int.mul_one]
   have:=Int.dvd_self_sub_emod (x:=a) (m:=(m:Int))
   have e:a % (m:Int) - a = -(a - a % (m:Int)):=by omega
   rw [e]; exact Int.dvd_neg.2 this⟩
 unfold uu
 dsimp only
 generalize kO s (m+1) (m,0) ((a % (m:Int)).toNat,1)=y at *
 obtain ⟨l1,l2⟩:=BF hi hy hm hn hd hd0 hc
 have hE:Rat.divInt (y.1:Int) y.2=Rat.divInt n d:=(Rat.divInt_eq_divInt_iff l2 Z).2 l1.symm
 rw [if_neg l2,hE,if_pos]
 have g0:((Nat.gcd n.natAbs d.natAbs:Nat):Int)≠0:=tT Z
 obtain ⟨p1,p2⟩:=q6 (n:=n) hd0
 have d1:((Nat.gcd n.natAbs d.natAbs:Nat):Int)∣n:=Int.gcd_dvd_left ..
 have d2:((Nat.gcd n.natAbs d.natAbs:Nat):Int)∣d:=Int.gcd_dvd_right ..
 have hgm:Nat.gcd (Nat.gcd n.natAbs d.natAbs) m=1:=Nat.eq_one_of_dvd_one (hg▸Nat.dvd_gcd (Nat.dvd_trans (Nat.gcd_dvd_left _ _) (Nat.gcd_dvd_right _ _)) (Nat.gcd_dvd_right _ _))
 have b1:=vH (a:=n) (b:=d)
 have b2:=zG (a:=n) (b:=d) Z
 rw [tq]
 generalize Nat.gcd n.natAbs d.natAbs=g at *
 obtain ⟨n',hn'⟩:=d1
 obtain ⟨d',hd'⟩:=d2
 rw [Int.ediv_eq_of_eq_mul_right g0 hn'] at p1
 rw [Int.ediv_eq_of_eq_mul_right g0 hd'] at p2
 refine ⟨by omega,by omega,?_,?_⟩
 ·refine Nat.eq_one_of_dvd_one (hg▸Nat.dvd_gcd (Nat.dvd_trans (Nat.gcd_dvd_left _ _) ?_) (Nat.gcd_dvd_right _ _))
  have t:=congrArg Int.natAbs hd'
  rw [Int.natAbs_mul,p2,Int.natAbs_natCast,Int.natAbs_natCast] at t
  exact ⟨g,by rw [t]; exact Nat.mul_comm _ _⟩
 ·refine Int.emod_eq_zero_of_dvd ?_
  rw [← p1, ← p2]
  have e:n - a*d=(g:Int)*(n' - a*d'):=by
   conv=>lhs;rw [hn',hd']
   grind
  rw [e] at hc
  have t:=Int.natAbs_dvd_natAbs.2 hc
  rw [Int.natAbs_mul,Int.natAbs_natCast,Int.natAbs_natCast] at t
  have hcop:Nat.Coprime m g:=(Nat.gcd_comm m g).trans hgm
  exact Int.natAbs_dvd_natAbs.1 (by rw [Int.natAbs_natCast]; exact hcop.dvd_of_dvd_mul_left t)
end Tor
end
section
namespace Tor
theorem jg {n:Nat} {g:Nat→Int} (h : ∀ i,i<n→0≤g i):0≤prZ n g:=by
 induction n with
 | zero => exact Int.zero_le_ofNat 1
 | succ n ih => exact Int.mul_nonneg (ih fun i hi => h i Z) (h n (Nat.lt_succ_self n))
theorem l4 {n:Nat} {f g:Nat→Int} (h : ∀ i,i<n→f i=g i):prZ n f=prZ n g:=by
 induction n with
 | zero => rfl
 | succ n ih => rw [prZ, prZ, ih fun i hi => h i Z, h n (Nat.lt_succ_self n)]
theorem vQ {t:Nat} {x:Int} {g:Nat→Int} : ∀ {m},t<m→prZ m (fun i=>if i=t then x else g i)*g t=prZ m g*x
 | m + 1, h => by
  by_cases e:t=m
  ·subst e
   rw [prZ,prZ,if_pos Y,l4 (g:=g) fun i hi=>if_neg Z,Int.mul_assoc,Int.mul_assoc,Int.mul_comm x]
  ·have ih:=vQ (x:=x) (g:=g) (show t<m by omega)
   rw [prZ,prZ,if_neg (fun h=>e h.symm),Int.mul_assoc,Int.mul_comm (g m), ← Int.mul_assoc,ih,Int.mul_assoc,Int.mul_comm x, ← Int.mul_assoc]
theorem vR {n t:Nat} {g:Nat→Int} (ht:t≤n):dF (n+1) g n≤g t:=by
 have h1:g t∈lst (n+1) (dF (n+1) g):=(eW g (Nat.le_refl (n+1))).mem_iff.2 (List.mem_map.2 ⟨t,List.mem_range.2 Z,rfl⟩)
 obtain ⟨a,ha,e⟩:=List.mem_map.1 h1
 have ha:=List.mem_range.1 ha
 rw [← e]
 by_cases h:a=n
 ·rw [h]; exact Int.le_refl _
 ·exact lY g (n+1) a n Z (Nat.lt_succ_self n)
theorem kR {n:Nat} {g:Nat→Int} (hg : ∀ i,0≤g i) {a:Nat} (ha:a<n):0≤dF n g a:=by
 have h1:dF n g a∈lst n g:=(eW g (Nat.le_refl n)).mem_iff.1 (List.mem_map.2 ⟨a,List.mem_range.2 ha,rfl⟩)
 obtain ⟨i,_,e⟩:=List.mem_map.1 h1
 rw [← e]; exact hg i
theorem oS {A B x y:Int} (hA:0≤A) (hB:0≤B) (hx:0<x) (hy:y≤x) (h:A*x=B*y):A≤B:=by
 have h1:B*y≤B*x:=Int.mul_le_mul_of_nonneg_left hy hB
 rw [← h] at h1
 exact Int.le_of_mul_le_mul_right h1 hx
theorem xp {n t:Nat} {g:Nat→Int} (hg : ∀ i,0≤g i) (ht:t<n) (h0:0<g t):prZ n (fun i=>if i=t then g n else g i)≤prZ n (dF (n+1) g) :=
 oS (jg fun i _=>by split <;> exact hg _) (jg fun i hi=>kR hg Z) h0 (vR (g:=g) (n:=n) (t:=t) Z) (by
  rw [vQ ht]
  exact (sY (n+1) g).symm)
theorem xq {n:Nat} {g:Nat→Int} (hg : ∀ i,0≤g i):prZ n g≤prZ n (dF (n+1) g):=by
 have h1:=vR (g:=g) (Nat.le_refl n)
 have h2:=kR hg (n:=n+1) (Nat.lt_succ_self n)
 by_cases e:dF (n+1) g n=g n
 ·have hp:=eW g (Nat.le_refl (n+1))
  rw [fu,fu,e] at hp
  rw [nr,nr,sX ((List.perm_append_right_iff _).1 hp)]
  exact Int.le_refl _
 ·exact oS (jg fun i _=>hg i) (jg fun i hi=>kR hg Z) Z h1 (sY (n+1) g).symm
def ks (n:Nat) (F:Nat→Nat→Int) (b:Nat→Int):Nat:=if n=0 then 1 else upN (prN n (mD (n+1) n (dn n F (fun _=>b))))
theorem z7 {n:Nat} {F:Nat→Nat→Int} {b:Nat→Int} : ((prN n (mD (n+1) n (dn n F (fun _=>b))):Nat):Int)=prZ n (dF (n+1) (fun i=>(eK n (dn n F (fun _=>b) i):Int))):=by
 rw [lZ]
 exact l4 fun i hi=>qc Z
theorem uD {n i:Nat} {F:Nat→Nat→Int} {b:Nat→Int} (hi:i<n):dn n F (fun _=>b) i=F i:=funext fun k=>if_pos hi
theorem Dz {n:Nat} {F:Nat→Nat→Int} {b:Nat→Int} : dn n F (fun _=>b) n=b:=funext fun k=>if_neg (Nat.lt_irrefl n)
theorem vS {n:Nat} {F:Nat→Nat→Int} {b:Nat→Int} : (Lin.bY n F).natAbs≤ks n F b:=by
 unfold ks
 by_cases h0:n=0
 ·subst h0;rw [if_pos Y]; exact Nat.le_refl 1
 ·rw [if_neg h0]
  refine zZ (Int.ofNat_le.1 ?_)
  rw [z7,Int.natCast_mul,Int.natAbs_mul_self']
  refine Int.le_trans (nt n F) ?_
  rw [lZ,l4 (g:=fun i=>(eK n (dn n F (fun _=>b) i):Int)) fun i hi=>by rw [uD hi]]
  exact xq fun i=>Int.natCast_nonneg _
theorem BG {n j:Nat} {F:Nat→Nat→Int} (hd:Lin.bY n F≠0) (hj:j<n):0<eK n (F j):=by
 rcases Nat.eq_zero_or_pos (eK n (F j)) with h | h
 ·exfalso
  have h1:=nt n F
  have h2 : ∀ m,j<m→prN m (fun i=>eK n (F i))=0:=fun m hm=>by
   induction m with
   | zero => omega
   | succ m ih =>
    rw [prN]
    by_cases e:j=m
    ·rw [← e,h,Nat.mul_zero]
    ·rw [ih Z,Nat.zero_mul]
  rw [h2 n hj] at h1
  have h3:Lin.bY n F*Lin.bY n F=0:=Int.le_antisymm h1 (kN _)
  rcases Int.mul_eq_zero.1 h3 with h | h <;> exact hd h
 ·exact h
theorem vT {n j:Nat} {F:Nat→Nat→Int} {b:Nat→Int} (hd:Lin.bY n F≠0) (hj:j<n):(Lin.bY n (kr F j b)).natAbs≤ks n F b:=by
 unfold ks
 rw [if_neg Z]
 refine zZ (Int.ofNat_le.1 ?_)
 rw [z7,Int.natCast_mul,Int.natAbs_mul_self']
 refine Int.le_trans (nt n _) ?_
 have hlen : ∀ i,i<n→((eK n (kr F j b i):Nat):Int)=(fun i=>if i=j then (fun i=>(eK n (dn n F (fun _=>b) i):Int)) n else (fun i=>(eK n (dn n F (fun _=>b) i):Int)) i) i:=fun i hi=>by
  dsimp only
  by_cases e:i=j
  ·rw [if_pos e,Dz]; unfold kr eK;rw [e]; simp
  ·rw [if_neg e,uD hi]; unfold kr eK;simp [e]
 rw [lZ,l4 hlen]
 exact xp (g:=fun i=>(eK n (dn n F (fun _=>b) i):Int)) (fun i=>Int.natCast_nonneg _) hj (by rw [uD hj]; exact Int.natCast_pos.2 (BG hd hj))
theorem vU {n:Nat} {F:Nat→Nat→Int} {b:Nat→Int} (hn:n≤4) (hF : ∀ i j,(F i j).natAbs≤34359738368) (hb : ∀ i,(b i).natAbs≤1152921504606846976):ks n F b≤2^380:=by
 unfold ks
 split
 ·decide +kernel
 ·have h1:prN n (mD (n+1) n (dn n F (fun _=>b)))≤(4*(1152921504606846976*1152921504606846976))^n:=rj (n:=n+1) (fun i hi=>vI (B:=4*(1152921504606846976*1152921504606846976)) (fun i hi=>Nat.le_trans (oP (B:=1152921504606846976) fun k=>by
   unfold dn;split
   ·exact Nat.le_trans (hF _ _) S
   ·exact hb _) (Nat.mul_le_mul_right _ hn)) hi) n Z
  have h2:(4*(1152921504606846976*1152921504606846976))^n≤(4*(1152921504606846976*1152921504606846976))^4:=Nat.pow_le_pow_right S hn
  generalize prN n (mD (n+1) n (dn n F (fun _=>b)))=a at *
  rcases Nat.eq_zero_or_pos (upN a) with h0 | h0
  ·rw [h0]; exact Nat.zero_le _
  ·have h3:=CR h0
   rcases Nat.lt_or_ge (2^380) (upN a) with h4 | h4
   ·have h5:2^380≤upN a - 1:=Nat.le_sub_one_of_lt h4
    exact absurd (Nat.lt_of_le_of_lt (Nat.mul_le_mul h5 h5) (Nat.lt_of_lt_of_le h3 (Nat.le_trans h1 h2))) U
   ·exact h4
theorem tv (c d:Int):Rat.divInt (-c) (-d)=Rat.divInt c d:=by
 rw [Rat.divInt_eq_div,Rat.divInt_eq_div,Rat.intCast_neg,Rat.intCast_neg]
 grind
theorem DA {p n k s:Nat} {F:Nat→Nat→Int} {b DN:Nat→Int} (hp:Lin.Pr p) (hd : ¬ (p:Int)∣Lin.bY n F) (hk:2*(ks n F b*ks n F b)<p^k) (hS : ∀ i,i<n→((p:Int)^k)∣b i - bA n (fun t=>DN t*F t i)) {j:Nat} (hj:j<n)
  (hs1:s*s≤(p^k - 1) / 2) (hs2:(p^k - 1) / 2<(s+1)*(s+1)):uu (DN j) (p^k) s=some (Rat.divInt (Lin.bY n (kr F j b)) (Lin.bY n F)):=by
 have hd0:Lin.bY n F≠0:=fun e=>hd (e▸Int.dvd_zero _)
 obtain ⟨G,hG⟩:=oQ n F
 have h1:=z6 hG hS hj
 rw [vO hG hd0 hj] at h1
 have hL:ks n F b≤s:=by
  rcases Nat.lt_or_ge s (ks n F b) with h | h
  ·have:(s+1)*(s+1)≤ks n F b*ks n F b:=Nat.mul_le_mul h h
   omega
  ·exact h
 have b1:=Nat.le_trans (vT (b:=b) hd0 hj) hL
 have b2:=Nat.le_trans (vS (F:=F) (b:=b)) hL
 have hm0:0<p^k:=by omega
 have hm:2*(s*s)<p^k:=by omega
 have hsm:s<p^k:=by
  rcases Nat.eq_zero_or_pos s with h | h
  ·omega
  ·have:=Nat.le_mul_of_pos_right s h
   omega
 have hg:Nat.gcd (Lin.bY n F).natAbs (p^k)=1:=by
  have h2 : ¬ p∣(Lin.bY n F).natAbs:=fun h=>hd (Int.ofNat_dvd_left.2 h)
  exact Nat.Coprime.symm ((hp.coprime h2).pow_left k)
 rw [← Int.natCast_pow] at h1
 generalize Lin.bY n F=d at *
 generalize Lin.bY n (kr F j b)=c at *
 rcases Int.lt_or_gt_of_ne hd0 with h | h
 ·have:=vP (a:=DN j) (n := -c) (d := -d) (m:=p^k) (s:=s) hm hsm Z Z Z (by rw [Int.natAbs_neg]; exact hg) (by
   obtain ⟨q,hq⟩:=h1
   exact ⟨-q,by rw [Int.mul_neg,Int.mul_neg, ← hq,Int.mul_comm (DN j)]; omega⟩)
  rw [this]
  congr 1
  exact tv c d
 ·exact vP hm hsm b1 b2 h hg (by rw [Int.mul_comm (DN j)]; exact h1)
end Tor
end
section
namespace Tor
/-! ### Trial division by one gcd -/
def oT:Nat→Nat→Nat
 | 0, d => d
 | k + 1, d => oT k d * oT k (d + 2 ^ k)
theorem mH : ∀ {k d e:Nat},d≤e→e<d+2^k→e∣oT k d
 | 0, d, e, h1, h2 => by
  have:e=d:=by simp at h2;omega
  subst this;exact Nat.dvd_refl _
 | k + 1, d, e, h1, h2 => by
  rw [Nat.pow_succ] at h2
  rcases Nat.lt_or_ge e (d+2^k) with hl | hl
  ·exact Nat.dvd_trans (mH h1 hl) (Nat.dvd_mul_right _ _)
  ·exact Nat.dvd_trans (mH hl Z) (Nat.dvd_mul_left _ _)
theorem mI {n:Nat} : ∀ {k d:Nat},(∀ e,d≤e→e<d+2^k→Nat.Coprime n e)→Nat.Coprime n (oT k d)
 | 0, d, h => h d (Nat.le_refl _) (by simp)
 | k + 1, d, h => by
  refine Nat.Coprime.mul_right (mI fun e h1 h2=>h e h1 ?_) (mI fun e h1 h2=>h e ?_ ?_)
  ·rw [Nat.pow_succ]; omega
  ·have:=Nat.two_pow_pos k;omega
  ·rw [Nat.pow_succ]; omega
theorem xr {n d:Nat} (hT:sH n) (h1:1≤d) (h2:d<n):Nat.Coprime n d:=by
 have hg:=Nat.gcd_dvd_left n d
 have hd:=Nat.gcd_dvd_right n d
 have hp:0<Nat.gcd n d:=Nat.gcd_pos_of_pos_right _ Z
 have hle:Nat.gcd n d≤d:=Nat.le_of_dvd Z hd
 show Nat.gcd n d=1
 generalize Nat.gcd n d=g at *
 rcases Nat.lt_or_ge g 2 with h | h
 ·omega
 ·exfalso
  obtain ⟨m,hm⟩:=hg
  by_cases hs:g*g≤n
  ·exact hT g h hs (by rw [hm]; exact Nat.mul_mod_right _ _)
  ·have hmg:m<g:=by
    rcases Nat.lt_or_ge m g with h' | h'
    ·exact h'
    ·have:=Nat.mul_le_mul_left g h';omega
   have hm2:2≤m:=by
    rcases Nat.lt_or_ge m 2 with h' | h'
    ·have:m=0∨m=1:=by omega
     rcases this with rfl | rfl
     ·simp at hm;omega
     ·simp at hm;omega
    ·exact h'
   refine hT m hm2 ?_ (by rw [hm,Nat.mul_comm]; exact Nat.mul_mod_right _ _)
   rw [hm]; exact Nat.mul_le_mul (Nat.le_of_lt hmg) (Nat.le_refl _)
theorem xt {n k:Nat} (h1:2+2^k≤n) (h2:n<(2+2^k)*(2+2^k)):Nat.gcd n (oT k 2)=1↔sH n:=by
 constructor
 ·intro h d hd hs hz
  have hlt:d<2+2^k:=by
   rcases Nat.lt_or_ge d (2+2^k) with h' | h'
   ·exact h'
   ·have:=Nat.mul_le_mul h' h';omega
  have:=Nat.dvd_gcd (Nat.dvd_of_mod_eq_zero hz) (mH hd hlt)
  rw [h] at this
  have:=Nat.le_of_dvd S this
  omega
 ·intro hT
  exact mI fun e h3 h4=>xr hT Z Z
/-! ### The prime test, for evaluation -/
noncomputable def xu (p:Nat) (f:Nat):Nat→Nat→Nat→Nat := @Nat.rec (fun _=>Nat→Nat→Nat→Nat) (fun r _ _=>r)
 (fun _ ih r a e => @Nat.rec (fun _=>Nat) r (fun e' _ => @Bool.rec (fun _=>Nat) (ih r (Nat.mod (Nat.mul a a) p) (Nat.div (Nat.succ e') 2)) (ih (Nat.mod (Nat.mul r a) p) (Nat.mod (Nat.mul a a) p) (Nat.div (Nat.succ e') 2)) (Nat.beq (Nat.mod (Nat.succ e') 2) 1)) e) f
theorem vV (p:Nat) : ∀ (f r a e:Nat),xu p f r a e=mr f p r a e
 | 0, _, _, _ => rfl
 | f + 1, r, a, 0 => rfl
 | f + 1, r, a, e + 1 => by
  rw [mr,if_neg Z, ← vV p f]
  show @Bool.rec (fun _=>Nat) (xu p f r (a*a % p) ((e+1) / 2)) (xu p f (r*a % p) (a*a % p) ((e+1) / 2)) (Nat.beq ((e+1) % 2) 1)=_
  by_cases h:(e+1) % 2=1
  ·rw [if_pos h,h]; rfl
  ·have h0:(e+1) % 2=0:=by omega
   rw [if_neg h,h0]; rfl
noncomputable def C8 (n:Nat) (c:Nat):Nat→Bool := @Nat.rec (fun _=>Nat→Bool) (fun _=>false)
 (fun _ ih x => @Bool.rec (fun _=>Bool) (ih (Nat.mod (Nat.mul x x) n)) true (Nat.beq (Nat.mod (Nat.mul x x) n) (Nat.sub n 1))) c
theorem l5 (a b:Nat):Nat.beq a b=decide (a=b):=by
 by_cases h:a=b
 ·rw [decide_eq_true h]; exact Nat.beq_eq.mpr h
 ·rw [decide_eq_false h, ← Bool.not_eq_true]; exact fun e=>h (Nat.eq_of_beq_eq_true e)
theorem vW (n:Nat) : ∀ (c x:Nat),C8 n c x=sqrF n c x
 | 0, _ => rfl
 | c + 1, x => by
  rw [sqrF, ← vW n c]
  show @Bool.rec (fun _=>Bool) (C8 n c (x*x % n)) true (Nat.beq (x*x % n) (n - 1))=_
  rw [l5]
  by_cases h:x*x % n=n - 1
  ·rw [if_pos h,decide_eq_true h]
  ·rw [if_neg h,decide_eq_false h]
noncomputable def kj (n O T b:Nat):Bool := @Bool.rec (fun _=>Bool) (@Bool.rec (fun _=>Bool) (C8 n (Nat.sub T 1) (xu n 64 (Nat.mod 1 n) b O)) true (Nat.beq (xu n 64 (Nat.mod 1 n) b O) (Nat.sub n 1))) true (Nat.beq (xu n 64 (Nat.mod 1 n) b O) 1)
theorem uE (n O T b:Nat):kj n O T b=dR n O T b:=by
 unfold kj dR
 rw [vV,vW,l5,l5]
 show @Bool.rec (fun _=>Bool) (@Bool.rec (fun _=>Bool) (sqrF n (T - 1) (mr 64 n (1 % n) b O)) true (decide (mr 64 n (1 % n) b O=n - 1))) true (decide (mr 64 n (1 % n) b O=1))=_
 cases decide (mr 64 n (1 % n) b O=1) <;> cases decide (mr 64 n (1 % n) b O=n - 1) <;> rfl
noncomputable def C9 (n O T:Nat):Bool := @Bool.rec (fun _=>Bool) false (@Bool.rec (fun _=>Bool) false (@Bool.rec (fun _=>Bool) false (kj n O T 7) (kj n O T 5)) (kj n O T 3)) (kj n O T 2)
theorem BH {n O T:Nat} (h7:7<n):C9 n O T=pP n O T 4 0:=by
 have hb : ∀ j,n≠d7 j:=fun j h=>by have:=(om j).1;omega
 unfold C9
 simp only [pP,if_neg (hb _),uE]
 show @Bool.rec (fun _=>Bool) false (@Bool.rec (fun _=>Bool) false (@Bool.rec (fun _=>Bool) false (dR n O T 7) (dR n O T 5)) (dR n O T 3)) (dR n O T 2)=(dR n O T 2 && (dR n O T 3 && (dR n O T 5 && (dR n O T 7 && true))))
 cases dR n O T 2 <;> cases dR n O T 3 <;> cases dR n O T 5 <;> cases dR n O T 7 <;> rfl
noncomputable def uF (k:Nat→Nat→Bool) (f:Nat):Nat→Nat→Bool := @Nat.rec (fun _=>Nat→Nat→Bool) (fun o t=>k o t)
 (fun _ ih o t => @Bool.rec (fun _=>Bool) (k o t) (ih (Nat.div o 2) (Nat.succ t)) (Nat.beq (Nat.mod o 2) 0)) f
theorem qi (k:Nat→Nat→Bool) : ∀ (f o t:Nat),uF k f o t=k (dH f o t).1 (dH f o t).2
 | 0, _, _ => rfl
 | f + 1, o, t => by
  rw [dH]
  show @Bool.rec (fun _=>Bool) (k o t) (uF k f (o / 2) (t+1)) (Nat.beq (o % 2) 0)=_
  rw [l5]
  by_cases h:o % 2=0
  ·rw [if_pos h,decide_eq_true h]; exact qi k f _ _
  ·rw [if_neg h,decide_eq_false h]
noncomputable def kS (n:Nat):Bool:=uF (C9 n) 32 (Nat.sub n 1) 0
theorem xv {n:Nat} (h7:7<n) (h31:n<2147483648) (ho:n % 2=1):kS n=cB n:=by
 rw [lQ h7]
 unfold kS qZ
 rw [if_neg Z,if_neg Z,qi]
 exact BH h7
/-! ### Runs of numbers -/
noncomputable def z8 (f:Nat→Bool) (k:Nat):Nat→Bool := @Nat.rec (fun _=>Nat→Bool) f (fun k ih d => @Bool.rec (fun _=>Bool) false (ih (Nat.add d (Nat.pow 2 k))) (ih d)) k
theorem rs {f:Nat→Bool} : ∀ {k d:Nat},z8 f k d=true → ∀ e,d≤e→e<d+2^k→f e=true
 | 0, d, h, e, h1, h2 => by
  have:e=d:=by simp at h2;omega
  subst this;exact h
 | k + 1, d, h, e, h1, h2 => by
  have h : @Bool.rec (fun _=>Bool) false (z8 f k (d+2^k)) (z8 f k d)=true:=h
  rw [Nat.pow_succ] at h2
  cases ha:z8 f k d with
  | false => rw [ha] at h; cases h
  | true =>
   rw [ha] at h
   rcases Nat.lt_or_ge e (d+2^k) with hl | hl
   ·exact rs ha e h1 hl
   ·exact rs h e hl Z
noncomputable def Da (k n:Nat):Bool := @Bool.rec (fun _=>Bool) true (@Bool.rec (fun _=>Bool) (@Bool.rec (fun _=>Bool) true false (kS n)) (kS n) (Nat.beq (Nat.gcd n (oT k 2)) 1)) (Nat.beq (Nat.mod n 2) 1)
theorem BI {n k:Nat} (h1:2+2^k≤n) (h2:n<(2+2^k)*(2+2^k)) (h7:7<n) (h31:n<2147483648) (h:Da k n=true):cB n=tZ n:=by
 have hT:=xt h1 h2
 by_cases ho:n % 2=1
 ·rw [← xv h7 h31 ho]
  unfold Da at h
  rw [show Nat.beq (Nat.mod n 2) 1=true from Nat.beq_eq.mpr ho,l5] at h
  by_cases hg:Nat.gcd n (oT k 2)=1
  ·rw [decide_eq_true hg] at h
   have h:kS n=true:=h
   rw [h,Cx.2 ⟨by omega,h31,hT.1 hg⟩]
  ·rw [decide_eq_false hg] at h
   have hf:kS n=false:=by
    cases hq:kS n with
    | false => rfl
    | true => rw [hq] at h; cases h
   rw [hf]
   exact (Bool.eq_false_iff.2 fun e=>hg (hT.2 (Cx.1 e).2.2)).symm
 ·have hp:cB n=false:=by
   unfold cB
   rw [if_neg Z,if_pos Z,decide_eq_false Z]
  rw [hp]
  exact (Bool.eq_false_iff.2 fun e=>(Cx.1 e).2.2 2 (Nat.le_refl _) Z Z).symm
theorem BJ:z8 (Da 16) 12 2147479552=true:=by decide +kernel
theorem xw {n:Nat} (h:2147479552≤n) (h':n<2147483648):cB n=tZ n :=
 BI (k:=16) (by show 65538≤n;omega) (by show n<65538*65538;omega) Z h' (rs BJ n h (by show n<2147479552+4096;omega))
end Tor
end
section
namespace Tor
open Go Go.RowKit Go.Proofs
theorem Lin.Pr.invP {p:Nat} (hp:Lin.Pr p):uh p:=fun x hx h0=>by
 have h1 : ¬ p∣x:=fun h=>absurd (Nat.le_of_dvd (Nat.pos_of_ne_zero h0) h) Z
 have h2:=hp.inverse h1
 rw [Nat.mod_mul_mod,Nat.mul_comm]; exact h2
theorem z9:((List.range 17).all fun i => !qZ (2147483630+i))=true:=by decide +kernel
theorem Aa:bf cB 2147483648=2147483647:=by
 show ms cB (2147483647+1)=_
 rw [ms,if_pos iN]
theorem Ab : ∀ k,k≤17→ms cB (2147483630+k)=2147483629
 | 0, _ => by
  show ms cB (2147483629+1)=_
  rw [ms,if_pos iO]
 | k + 1, h => by
  have h1:=List.all_eq_true.1 z9 k (List.mem_range.2 Z)
  rw [← Nat.add_assoc,ms,lQ Z,if_neg (by simpa using h1)]
  exact Ab k Z
theorem Db:bf cB 2147483647=2147483629:=Ab 17 S
theorem DB {p:Nat} (h:2147479552≤p) (h':p<2147483648) (hb:cB p=true):Lin.Pr p:=by
 rw [xw h h'] at hb
 exact Lin.Pr.of_trial Z (Cx.1 hb).2.2
def jh (d:Int):Nat:=if d % 2147483647=0 then 2147483629 else 2147483647
def oU (d:Int):Prop:=d % 2147483647=0→d % 2147483629≠0
theorem oV (d:Int):jh d=2147483629∨jh d=2147483647:=by
 unfold jh;split
 ·exact .inl Y
 ·exact .inr Y
theorem uG (d:Int):cB (jh d)=true:=by
 rcases oV d with h | h <;> rw [h]
 ·exact iO
 ·exact iN
theorem nu (d:Int):2147483629≤jh d∧jh d<2147483648:=by
 rcases oV d with h | h <;> rw [h] <;> decide
theorem l6 (d:Int):Lin.Pr (jh d):=DB (by have:=nu d;omega) (nu d).2 (uG d)
theorem oW {d:Int} (h:oU d) : ¬ ((jh d:Nat):Int)∣d:=by
 unfold jh
 split
 ·rename_i h1;exact fun h2=>h h1 (Int.emod_eq_zero_of_dvd h2)
 ·rename_i h1;exact fun h2=>h1 (Int.emod_eq_zero_of_dvd h2)
theorem vX (d:Int) (hs:bm d) (h:oU d):Ok Tryz.prog 56 [aL d] (one (.int .u64 (jh d:Nat))):=by
 unfold jh
 split
 ·rename_i h1
  exact w9 d 2147483647 2147483629 hs Aa Db S S S h1 (h h1)
 ·rename_i h1
  exact w6 d 2147483647 hs Aa S S h1
def ie (n:Nat) (F:Nat→Nat→Int) (b:Nat→Int) (j:Nat):Rat:=Rat.divInt (Lin.bY n (kr F j b)) (Lin.bY n F)
theorem kn {n:Nat} (hn:n≤4):sU 2 n:=⟨by decide,Nat.le_trans (Nat.mul_le_mul_left 3 (Nat.pow_le_pow_right (n:=2) S hn)) S⟩
theorem oX {x:Int} (h:x.natAbs≤34359738368):lz 2 x:=cr (k:=2) Z
theorem qj {n:Nat} {F:Nat→Nat→Int} (hn:n≤4) (hF : ∀ i j,(F i j).natAbs≤34359738368):bm (Lin.bY n F):=Nat.le_trans (CN (kn hn) fun i j=>oX (hF i j)) S
theorem uH (n:Nat) (F:Nat→Nat→Int) (b:Nat→Int) (hn:n≤4) (hF : ∀ i j,(F i j).natAbs≤34359738368) (hb : ∀ i,(b i).natAbs≤1152921504606846976) :
  Ok Tryz.prog 53 [bR (n+1) n (dn n F (fun _=>b)),one (.int .i64 (n:Nat))] (aL (ks n F b:Nat)):=by
 unfold ks
 split
 ·rename_i h;subst h;exact xf 1 0 _ 0 S
 ·have hB : ∀ i k,(dn n F (fun _=>b) i k).natAbs≤1152921504606846976:=fun i k=>by
   unfold dn;split
   ·exact Nat.le_trans (hF _ _) S
   ·exact hb _
  refine zI (n+1) n _ n (4*(1152921504606846976*1152921504606846976)) Z Z Z Z (fun i j=>Nat.le_trans (hB i j) U) S ?_ (fun i _=>Nat.le_trans (oP (B:=1152921504606846976) (hB i)) (Nat.mul_le_mul_right _ hn))
  exact Nat.lt_of_le_of_lt (Nat.pow_le_pow_right (n:=4*(1152921504606846976*1152921504606846976)) (j:=5) S Z) U
theorem iy (n:Nat) (F:Nat→Nat→Int) (b:Nat→Int) (hn:n≤4) (hF : ∀ i j,(F i j).natAbs≤34359738368) (hb : ∀ i,(b i).natAbs≤1152921504606846976) (hd:Lin.bY n F≠0) (hg:oU (Lin.bY n F)) :
  Ok Tryz.prog 13 [bR n n F,bD n b] (bv [uw n (ie n F b),one (.int .i64 0)]):=by
 obtain ⟨G,hG⟩:=oQ n F
 have hp:=nu (Lin.bY n F)
 exact uz (jh (Lin.bY n F)) n F b (Lin.bY n F) (ks n F b) (ie n F b) (uG _) Z hp.2 (l6 _).invP (z5 (l6 _) hG (oW hg)) Z
  (fun i j=>Nat.le_trans (hF i j) S) (fun i=>Nat.le_trans (hb i) S) (uo n F 2 Z (kn hn) (fun i j=>oX (hF i j))) hd (vX _ (qj hn hF) hg) (uH n F b hn hF hb) (vU hn hF hb)
  (fun k DN hk hS j hj s hs1 hs2=>DA (l6 _) (oW hg) hk hS hj hs1 hs2)
theorem mW (n:Nat) (F:Nat→Nat→Int) (b:Nat→Int) (hn:n≤4) (hF : ∀ i j,(F i j).natAbs≤34359738368) (hd:Lin.bY n F=0) :
  Ok Tryz.prog 13 [bR n n F,bD n b] (bv [uw 0 (fun _=>0),one (.int .i64 110)]):=by
 have h:=uo n F 2 Z (kn hn) (fun i j=>oX (hF i j))
 rw [hd] at h
 exact xk n F b h
theorem l7 (n k:Nat) (F:Nat→Nat→Int) (b:Nat→Int) (hn:n≤4) (hF : ∀ i j,(F i j).natAbs≤34359738368) (hb : ∀ i,(b i).natAbs≤1152921504606846976) (hd:Lin.bY n F≠0) (hg:oU (Lin.bY n F)) (hk:k≤64) :
  Ok Tryz.prog 15 [bR n n F,bD n b,one (.int .i64 (k:Nat))] (exT fun pre:List (Nat→Int)=>cd (g7 (jh (Lin.bY n F)) n F b pre∧pre.length=k) (bv [oK n pre,one (.int .u64 (jh (Lin.bY n F):Nat)),one (.int .i64 0)])):=by
 obtain ⟨G,hG⟩:=oQ n F
 have hp:=nu (Lin.bY n F)
 exact xc (jh (Lin.bY n F)) n k F b (Lin.bY n F) (uG _) Z hp.2 (l6 _).invP (z5 (l6 _) hG (oW hg)) Z
  (fun i j=>Nat.le_trans (hF i j) S) (fun i=>Nat.le_trans (hb i) S) (uo n F 2 Z (kn hn) (fun i j=>oX (hF i j))) hd (vX _ (qj hn hF) hg) hk
end Tor
end
section
namespace Tor
open Go Go.RowKit Go.Proofs
theorem DJ : ∀ n,n≤4→rdB 2 n≤1099511627700:=by decide +kernel
theorem xx (n:Nat) (F:Nat→Nat→Int) (hn:n≤4) (hF : ∀ i j,(F i j).natAbs≤34359738368):Ok Tryz.prog 20 [bR n n F] (aL (Lin.bY n F)):=uA n F 2 Z S (fun i j=>oX (hF i j)) (DJ n hn)
attribute [local irreducible] Tor.J Tor.PJ Tor.aK Tor.one Tor.slT Tor.bO Tor.bC Tor.bv Tor.exT Tor.cd Tor.eP Tor.aR Tor.aI Tor.slV Tor.VT.le Tor.Ret Tor.bJ Tor.xO
attribute [local irreducible] aL
set_option maxHeartbeats 4000000 in
theorem ph (q:Rat) (hq:bm (q.den:Int)):Ok Tryz.prog 25 [cv q] (one (.bool (decide (q.den=1)))):=by
 have h1:=gS 1 S S
 have hc:=si (q.den:Int) 1 hq iL
 unfold cv dy
 refine Ok.enter Tryz.func25 Y Tryz.ntmps25 Y (fun w O => ?_)
 have e:decide (q.den=1)=decide (cU (q.den:Int) 1=0):=decide_eq_decide.2 (by unfold cU;split <;> (try split) <;> omega)
 rw [e]
 refine ae (ai ?_)
 refine aS Y Y (ltN Y) (fun b1 => ?_)
 refine st (ah Y) Y (Run.nil (aa (ae (a6 5 aZ X S (st (aj Y) Y (st (ak 0 Y Y Y) Y ?_))))))
 refine st (am (h1) Y ⟨VT.le_refl _,trivial⟩) Y ?_
 refine st (am (hc) Y ⟨VT.le_refl _,VT.le_refl _,trivial⟩) Y ?_
 refine st (ci Y Y) Y (Run.nil (st (ah Y) Y (Run.nil (aa (aE ?_)))))
 refine aT Tryz.results25 (.tmp Y H)
theorem BK {n:Nat} {f:Nat→Int} {l:List Int} (h : ∀ j,j<n→f j=l.getD j 0) (hn:n=l.length):VT.le (bD n f) (bD l.length (fun j=>l.getD j 0)):=by
 subst hn
 exact dX fun j hj=>by rw [h j hj]; exact VT.le_refl _
set_option maxHeartbeats 4000000 in
theorem iz (l:List Int) (hl:l.length≤1048576) (h:(l.all fun x=>decide (-9223372036854775808≤x) && decide (x≤9223372036854775807))=true):Ok Tryz.prog 44 [fI .i64 l] (bD l.length (fun j=>l.getD j 0)):=by
 have hi:=kg 1 l.length l S hl h
 unfold IN bR fI at *
 refine Ok.enter Tryz.func44 Y Tryz.ntmps44 Y (fun w O => ?_)
 refine ae (ai (st (ah Y) Y (Run.nil (aa (ae (ai (st (ab Y) Y (st (aU Y) Y (st (ab Y) Y ?_)))))))))
 refine st (am (hi) Y ⟨VT.le_refl _,VT.le_refl _,VT.le_refl _,trivial⟩) Y ?_
 refine st (uL Y Y) Y (st (aC Y Y S) Y (st (aM Y) Y (st (ah Y) Y (Run.nil (aa (aE ?_))))))
 refine aT Tryz.results44 (.tmp Y (BK (fun j hj=>by unfold eL;rw [Nat.zero_mul,Nat.zero_add]) Y))
theorem uI (n:Nat) (f:Nat→Int):Ok Tryz.prog 65 [bD n f,bD n f] (one (.bool true)):=by
 have h:=sI ((List.range n).map f) ((List.range n).map f)
 rw [decide_eq_true Y] at h
 exact h.le ⟨ot n f,ot n f,trivial⟩ H
set_option maxHeartbeats 4000000 in
theorem uJ (n l:Nat) (f g:Nat→Nat→Int) (hl:l≤1048576) (h : ∀ i j,i<l→j<n→f i j=g i j):Ok Tryz.prog 18 [slT .one l (fun i=>bD n (f i)),slT .one l (fun i=>bD n (g i))] (one (.bool true)):=by
 have hv : ∀ i,i<l→Ok Tryz.prog 65 [bD n (f i),bD n (g i)] (one (.bool true)):=fun i hi=>(uI n (g i)).le ⟨dX fun j hj=>by rw [h i j hi hj]; exact VT.le_refl _,VT.le_refl _,trivial⟩ H
 refine Ok.enter Tryz.func18 Y Tryz.ntmps18 Y (fun w O => ?_)
 refine ae (ai (st (ah Y) Y (Run.nil (aa (ae (ae (ai (st (ab Y) Y (st (aU Y) Y ?_)))))))))
 refine st (ab Y) Y (st (aU Y) Y (st (sF Z (di Y Y)) Y (Run.nil (aa (aB Y (az (aa (ae (ae ?_)))))))))
 refine ai (st (ah Y) Y (Run.nil (aa (au (cn (Γ' := [(0,_),(1,_),(4,_),(5,_)]) DQ (SubM.refl _) ?_)))))
 refine bB (σ:=Nat) (Γk := [(0,_),(1,_)]) DQ (fun i => [(5,one (.int .i64 (i:Nat)))]) (fun i M0=>M0) (fun i=>i≤l) (fun i=>l - i) (0) (Nat.zero_le _) DR (.nil) (fun i hi => ?_)
 refine bQ (Γ' := [(5,_),(0,_),(1,_)]) (M' := []) Y Y ?_
 by_cases hi2:i<l
 ·have hvi:=hv i hi2
  refine ae (ae (ai (st (ab Y) Y (st (ab Y) Y (st (aU Y) Y (st (sT Z (a7 Y Y)) Y (Run.nil (aa (aH Y ?_)))))))))
  refine az (aa (ae (au (ae (a6 10 aZ X S (st (ab Y) Y (st (ab Y) Y (st (aC Y Y Z) Y (st (aM Y) Y ?_)))))))))
  refine st (ab Y) Y (st (ab Y) Y (st (aC Y Y Z) Y (st (aM Y) Y ?_)))
  refine st (am (hv _ (by assumption)) Y ⟨VT.le_refl _,VT.le_refl _,trivial⟩) Y ?_
  refine st (cK Y) Y (Run.nil (Run.nil (aa (aB Y (az (aD (aa (ai (st (ab Y) Y ?_)))))))))
  refine st (bI _ 1 Y Y Z) Y (st (ah Y) Y (Run.nil ?_))
  refine aQ (i+1) Z Z DR (.nil)
 ·refine ae (ae (ai (st (ab Y) Y (st (ab Y) Y (st (aU Y) Y (st (sF Z (a7 Y Y)) Y (Run.nil (aa (aB Y ?_)))))))))
  refine aX (av (av (aF (aa (ae (ai (st (ah Y) Y (Run.nil (aa ?_)))))))))
  refine aE ?_
  refine aT Tryz.results18 (.tmp Y H)
end Tor
end
section
namespace Tor
open Go Go.RowKit Go.Proofs
theorem mX {c d:Int} : Rat.divInt c d=(c:Rat) / (d:Rat):=Rat.divInt_eq_div c d
theorem vY {n j:Nat} {F G:Nat→Nat→Int} {b:Nat→Int} (h:AdjI n F G (Lin.bY n F)) (hd:Lin.bY n F≠0) (hj:j<n):ie n F b j=(crB n b G j:Rat) / (Lin.bY n F:Rat):=by
 unfold ie;rw [mX,vO h hd hj]
theorem oY {n k:Nat} {F:Nat→Nat→Int} {b:Nat→Int} (hd:Lin.bY n F≠0) (hk:k<n):Lin.sm n (fun i=>ie n F b i*(F i k:Rat))=(b k:Rat):=by
 obtain ⟨G,h⟩:=oQ n F
 have h0:(Lin.bY n F:Rat)≠0:=fun e=>hd (Rat.intCast_eq_zero_iff.1 e)
 have h1:=congrArg (fun z:Int=>(z:Rat)) (vN (b:=b) h hk)
 rw [g9,Rat.intCast_mul] at h1
 rw [Lin.bg (g:=fun i=>((crB n b G i*F i k:Int):Rat)*(1 / (Lin.bY n F:Rat))) (fun i hi=>by rw [vY h hd hi,Rat.intCast_mul]; grind),Lin.io,h1]
 grind
theorem xy {n:Nat} {F:Nat→Nat→Int} {b:Nat→Int} {x:Nat→Rat} (hd:Lin.bY n F≠0) (hx : ∀ k,k<n→Lin.sm n (fun i=>x i*(F i k:Rat))=(b k:Rat)) {j:Nat} (hj:j<n):x j=ie n F b j:=by
 obtain ⟨G,h⟩:=oQ n F
 have h0:(Lin.bY n F:Rat)≠0:=fun e=>hd (Rat.intCast_eq_zero_iff.1 e)
 have h1:Lin.sm n (fun k=>(b k:Rat)*(G k j:Rat))=(crB n b G j:Rat):=by
  unfold crB;rw [g9]; exact Lin.bg fun k _=>by rw [Rat.intCast_mul]
 have h2:Lin.sm n (fun k=>Lin.sm n (fun i=>x i*(F i k:Rat))*(G k j:Rat))=Lin.sm n (fun i=>x i*Lin.sm n (fun k=>(F i k:Rat)*(G k j:Rat))):=by
  rw [Lin.bg (g:=fun k=>Lin.sm n (fun i=>x i*((F i k:Rat)*(G k j:Rat)))) (fun k _=>by rw [← Lin.io]; exact Lin.bg fun i _=>by grind),Lin.qO]
  exact Lin.bg fun i _=>by rw [Lin.lB]
 rw [Lin.bg (f:=fun k=>Lin.sm n (fun i=>x i*(F i k:Rat))*(G k j:Rat)) (g:=fun k=>(b k:Rat)*(G k j:Rat)) (fun k hk=>by rw [hx k hk]),h1,
  Lin.bg (f:=fun i=>x i*Lin.sm n (fun k=>(F i k:Rat)*(G k j:Rat))) (g:=fun i=>if i=j then x i*(Lin.bY n F:Rat) else 0) (fun i hi=>by
   have e:Lin.sm n (fun k=>(F i k:Rat)*(G k j:Rat))=((if i=j then Lin.bY n F else 0:Int):Rat):=by
    rw [← h.fg i j hi hj,g9]; exact Lin.bg fun k _=>by rw [Rat.intCast_mul]
   rw [e]
   split
   ·rfl
   ·rw [Rat.intCast_zero,Rat.mul_zero]),Lin.mo hj] at h2
 rw [vY h hd hj,h2]
 grind
attribute [local irreducible] Tor.J Tor.PJ Tor.aK Tor.one Tor.slT Tor.bO Tor.bC Tor.bv Tor.exT Tor.cd Tor.eP Tor.aR Tor.aI Tor.slV Tor.VT.le Tor.Ret Tor.bJ Tor.xO
attribute [local irreducible] aL cv
end Tor
end
section
namespace Tor
open Go Go.RowKit Go.Proofs
theorem ru {n j:Nat} {F:Nat→Nat→Int} {b:Nat→Int} (hn:n≤4) (hF : ∀ i j,(F i j).natAbs≤34359738368) (hb : ∀ i,(b i).natAbs≤1152921504606846976) (hd:Lin.bY n F≠0) (hj:j<n):qz 12 (ie n F b j):=by
 have hL:=vU hn hF hb
 have e : ∀ x:Int,x.natAbs≤ks n F b→lz 12 x:=fun x hx=>cr (k:=12) (Nat.lt_of_le_of_lt (Nat.le_trans hx hL) U)
 exact ro (e _ (vT hd hj)) (e _ vS) hd
attribute [local irreducible] Tor.J Tor.PJ Tor.aK Tor.one Tor.slT Tor.bO Tor.bC Tor.bv Tor.exT Tor.cd Tor.eP Tor.aR Tor.aI Tor.slV Tor.VT.le Tor.Ret Tor.bJ Tor.xO
attribute [local irreducible] aL cv
end Tor
end
section
namespace Tor
open Go Go.RowKit Go.Proofs
theorem tx {l:List Int} {B:Nat} (h : ∀ x∈l,x.natAbs≤B) (j:Nat):(l.getD j 0).natAbs≤B:=by
 rw [List.getD_eq_getElem?_getD]
 cases e:l[j]? with
 | none => exact Nat.zero_le _
 | some x => exact h x (List.mem_of_getElem? e)
theorem tz {c:Nat} {l:List Int} (h:(l.all fun x=>decide (x.natAbs≤34359738368))=true) : ∀ i j,(eL c l i j).natAbs≤34359738368:=fun i j=>tx (fun x hx=>of_decide_eq_true (List.all_eq_true.1 h x hx)) _
theorem uK {pre:List (Nat→Int)} (hg:g7 2147483647 1 (eL 1 [2]) (fun j => [1].getD j 0) pre) (hl:pre.length=2):pre.getD 0 z0 0=1073741824∧pre.getD 1 z0 0=1073741823:=by
 obtain ⟨x,y,rfl⟩ : ∃ x y,pre = [x,y]:=by
  match pre,hl with
  | [x, y], _ => exact ⟨x, y, rfl⟩
 have hy:=(show g7 2147483647 1 (eL 1 [2]) (fun j => [1].getD j 0) ([x] ++ [y]) from hg).last S 0
 have hx:=(show g7 2147483647 1 (eL 1 [2]) (fun j => [1].getD j 0) ([] ++ [x]) from (show g7 2147483647 1 (eL 1 [2]) (fun j => [1].getD j 0) ([x] ++ [y]) from hg).init).last S 0
 obtain ⟨t,ht⟩:=hg.sum S 0 S
 have ht:(1:Int) - (0+(0+(2147483647:Int)^0*x 0+(2147483647:Int)^1*y 0)*2)=(2147483647:Int)^2*t:=ht
 rw [Int.pow_zero,Int.pow_succ,Int.pow_zero,show (2147483647:Int)^2=4611686014132420609 by decide] at ht
 show x 0=_∧y 0=_
 omega
theorem BL {φ ψ χ:VT} : VT.le (bv [φ, ψ, χ]) (bv [bJ, ψ, χ]):=by
 rintro v g ⟨vs,h1,h2⟩
 refine ⟨vs,h1,?_⟩
 match vs,h2 with
 | [a, b, c], ⟨p, q, r, _⟩ => exact ⟨trivial, q, r, trivial⟩
theorem Ac {n k:Nat} {l:List (Nat→Int)} {f:Nat→Nat→Int} (hk:l.length=k) (h : ∀ i j,i<k→j<n→l.getD i z0 j=f i j) {ψ χ:VT} : VT.le (bv [oK n l, ψ, χ]) (bv [slT .one k (fun i=>bD n (f i)), ψ, χ]):=by
 subst hk
 rintro v g ⟨vs,h1,h2⟩
 refine ⟨vs,h1,?_⟩
 match vs,h2 with
 | [a, b, c], ⟨p, q, r, _⟩ => exact ⟨(dX fun i hi => dX fun j hj => by rw [h i j hi hj]; exact VT.le_refl _ : VT.le (oK n l) _) _ _ p, q, r, trivial⟩
theorem l8 {n m:Nat} {f g:Nat→Rat} (hn:n=m) (h : ∀ i,i<n→f i=g i) {χ:VT} : VT.le (bv [uw n f, χ]) (bv [dD m g, χ]):=by
 subst hn
 rintro v k ⟨vs,h1,h2⟩
 refine ⟨vs,h1,?_⟩
 match vs,h2 with
 | [a, b], ⟨p, q, _⟩ => exact ⟨By h _ _ p, q, trivial⟩
theorem Ad {L:Lay} {φ ψ:VT} {f:Nat→VT} (h0:φ=f 0) (h1:ψ=f 1):VT.le (slT L 2 (fun q => [ψ, φ].reverse.getD q bJ)) (slT L 2 f):=dX fun i hi=>by
 rcases (show i=0∨i=1 by omega) with rfl | rfl
 ·exact ke h0
 ·exact ke h1
theorem BM {L:Lay} {φ:VT} {f:Nat→VT} (h0:φ=f 0):VT.le (slT L 1 (fun q => [φ].reverse.getD q bJ)) (slT L 1 f):=dX fun i hi=>by
 obtain rfl:i=0:=by omega
 exact ke h0
theorem Ae {a:Rat} {g:Nat→Rat} (h0:a=g 0):VT.le (slT (.agg 4) 1 (fun q => [cv a].reverse.getD q bJ)) (dD 1 g):=BM (f:=fun i=>cv (g i)) (congrArg cv h0)
theorem Af {a b:Rat} {g:Nat→Rat} (h0:a=g 0) (h1:b=g 1):VT.le (slT (.agg 4) 2 (fun q => [cv b,cv a].reverse.getD q bJ)) (dD 2 g):=Ad (f:=fun i=>cv (g i)) (congrArg cv h0) (congrArg cv h1)
theorem Ag {f:Nat→Int} : VT.le (one (.slice none 0 0)) (bD 0 f):=eQ
theorem Dc:Ok Tryz.prog 13 [bR 0 0 (fun _ _=>0),bD 0 (fun _=>0)] (bv [slT (.agg 4) 0 (fun _=>cv 0),one (.int .i64 0)]) :=
 (iy 0 (fun _ _=>0) (fun _=>0) S (fun _ _=>Nat.zero_le _) (fun _=>Nat.zero_le _) S (by unfold oU;decide +kernel)).le (dm _) (l8 (g:=fun _=>0) Y (fun i hi=>absurd hi (Nat.not_lt_zero i)))
attribute [local irreducible] Tor.J Tor.PJ Tor.aK Tor.one Tor.slT Tor.bO Tor.bC Tor.bv Tor.exT Tor.cd Tor.eP Tor.aR Tor.aI Tor.slV Tor.VT.le Tor.Ret Tor.bJ Tor.xO
attribute [local irreducible] aL cv bR bD dD
set_option maxRecDepth 20000 in
set_option maxHeartbeats 20000000 in
theorem mY:Ok Tryz.prog 8 [] (one (.bool true)):=by
 have i1:Ok Tryz.prog 43 [one (.int .i64 (2:Nat)),one (.int .i64 (2:Nat)),fI .i64 [1,2,3,4]] (bR 2 2 (eL 2 [1,2,3,4])):=kg 2 2 [1,2,3,4] S S S
 have i2:Ok Tryz.prog 43 [one (.int .i64 (1:Nat)),one (.int .i64 (1:Nat)),fI .i64 [2]] (bR 1 1 (eL 1 [2])):=kg 1 1 [2] S S S
 have i3:Ok Tryz.prog 43 [one (.int .i64 (1:Nat)),one (.int .i64 (1:Nat)),fI .i64 [2147483647]] (bR 1 1 (eL 1 [2147483647])):=kg 1 1 [2147483647] S S S
 have i4:Ok Tryz.prog 43 [one (.int .i64 (2:Nat)),one (.int .i64 (2:Nat)),fI .i64 [1,2,2,4]] (bR 2 2 (eL 2 [1,2,2,4])):=kg 2 2 [1,2,2,4] S S S
 have i5:Ok Tryz.prog 43 [one (.int .i64 (1:Nat)),one (.int .i64 (2:Nat)),fI .i64 [1,2]] (bR 1 2 (eL 2 [1,2])):=kg 1 2 [1,2] S S S
 have w1:Ok Tryz.prog 44 [fI .i64 [1,0]] (bD 2 (fun j=>([1,0]:List Int).getD j 0)):=iz [1,0] S S
 have w2:Ok Tryz.prog 44 [fI .i64 [1]] (bD 1 (fun j=>([1]:List Int).getD j 0)):=iz [1] S S
 have w3:Ok Tryz.prog 44 [fI .i64 [1073741824]] (bD 1 (fun j=>([1073741824]:List Int).getD j 0)):=iz [1073741824] S S
 have w4:Ok Tryz.prog 44 [fI .i64 [1073741823]] (bD 1 (fun j=>([1073741823]:List Int).getD j 0)):=iz [1073741823] S S
 have n1:=zV 0 0 S S
 have s1:=(iy 2 (eL 2 [1,2,3,4]) (fun j=>([1,0]:List Int).getD j 0) S (tz S) (tx S) U (by unfold oU;decide +kernel)).le (dm _) (l8 (g:=fun i=>(([-2,1]:List Int).getD i 0:Rat)) Y U)
 have s2:=(iy 1 (eL 1 [2]) (fun j=>([1]:List Int).getD j 0) S (tz S) (tx S) U (by unfold oU;decide +kernel)).le (dm _) (l8 (g:=fun i=>Rat.divInt 1 2) Y U)
 have s3:=Dc
 have s4:=(mW 2 (eL 2 [1,2,2,4]) (fun j=>([1,0]:List Int).getD j 0) S (tz S) U).le (dm _) (l8 (g:=fun _=>0) Y (fun i hi=>absurd hi (Nat.not_lt_zero i)))
 have s5:=(xj 1 2 2 (eL 2 [1,2]) (fun j=>([1,0]:List Int).getD j 0) S).le (dm _) (l8 (g:=fun _=>0) Y (fun i hi=>absurd hi (Nat.not_lt_zero i)))
 have d1:=(l7 1 2 (eL 1 [2]) (fun j=>([1]:List Int).getD j 0) S (tz S) (tx S) U (by unfold oU;decide +kernel) S).le (dm _)
  (xH fun pre=>uO fun h=>Ac (f:=fun i j=>if i=0 then ([1073741824]:List Int).getD j 0 else ([1073741823]:List Int).getD j 0) h.2 (fun i j hi hj=>by
   have:=uK h.1 h.2
   obtain rfl:j=0:=by omega
   rcases (show i=0∨i=1 by omega) with rfl | rfl
   ·exact this.1
   ·exact this.2))
 rw [show jh (Lin.bY 1 (eL 1 [2]))=2147483647 by decide +kernel] at d1
 have d2:=(l7 1 1 (eL 1 [2147483647]) (fun j=>([1]:List Int).getD j 0) S (tz S) (tx S) U (by unfold oU;decide +kernel) S).le (dm _) (xH fun pre=>uO fun h=>BL)
 rw [show jh (Lin.bY 1 (eL 1 [2147483647]))=2147483629 by decide +kernel] at d2
 have d3:=ut 1 (eL 1 [2]) (fun j=>([1]:List Int).getD j 0) 65 S
 have hsa:=uJ 1 2 (fun i j=>if i=0 then ([1073741824]:List Int).getD j 0 else ([1073741823]:List Int).getD j 0) (fun i j=>if i=0 then ([1073741824]:List Int).getD j 0 else ([1073741823]:List Int).getD j 0) S (fun i j _ _=>rfl)
 have hl1:=kQ 2 2 (fun i=>(([-2,1]:List Int).getD i 0:Rat)) (fun i=>(([-2,1]:List Int).getD i 0:Rat)) S
 have hl2:=kQ 1 1 (fun i=>Rat.divInt 1 2) (fun i=>Rat.divInt 1 2) S
 rw [decide_eq_true ⟨rfl,fun i _=>rfl⟩] at hl1 hl2
 have m1:=xm 1 2 S S S S S
 have u1:=iw (-2) S S
 have u2:=iw 1 S S
 refine Ok.enter Tryz.func8 Y Tryz.ntmps8 Y (fun w O => ?_)
 refine ae (ai (st (ah Y) Y (Run.nil (aa (ae (ai (stS Y Y Y Y (PartsK.cons Y (PartsK.cons Y ?_)))))))))
 refine PartsK.cons Y (PartsK.cons Y (PartsK.nil ?_))
 refine st (am (i1) Y ⟨VT.le_refl _,VT.le_refl _,(ix [1,2,3,4]),trivial⟩) Y ?_
 refine fS Y Y Y Y ?_
 refine st (am (i2) Y ⟨VT.le_refl _,VT.le_refl _,(iV 2),trivial⟩) Y ?_
 refine bq (T:=30) Y Y Y (fun b1 => ?_)
 refine bq (T:=30) Y Y Y (fun b2 => ?_)
 refine jB 1 Y Y Y Y (jB 0 Y Y Y Y (Run.nil (aa (ae (a6 8 aZ X S (st (ak 1 Y Y Y) Y (stS Y Y Y Y (PartsK.cons Y (PartsK.cons Y ?_)))))))))
 refine PartsK.nil ?_
 refine st (am (w1) Y ⟨(ix [1,0]),trivial⟩) Y ?_
 refine st (am (s1) Y ⟨VT.le_refl _,VT.le_refl _,trivial⟩) Y ?_
 refine st (ab Y) Y (st (aq Y Y) Y (st (aq Y Y) Y (st (ah Y) Y (Run.nil (st (ah Y) Y (Run.nil (aa (ae (a6 8 aZ X S ?_)))))))))
 refine st (ak 0 Y Y Y) Y (fS Y Y Y Y ?_)
 refine st (am (w2) Y ⟨(iV 1),trivial⟩) Y ?_
 refine st (am (s2) Y ⟨VT.le_refl _,VT.le_refl _,trivial⟩) Y ?_
 refine st (ab Y) Y (st (aq Y Y) Y (st (aq Y Y) Y (st (ah Y) Y (Run.nil (st (ah Y) Y (Run.nil (aa (ae (ai ?_)))))))))
 refine st (am (n1) Y ⟨VT.le_refl _,VT.le_refl _,trivial⟩) Y ?_
 refine st (am (s3) Y ⟨VT.le_refl _,(Ag),trivial⟩) Y ?_
 refine st (ab Y) Y (st (aq Y Y) Y (st (aq Y Y) Y (st (ah Y) Y (st (ah Y) Y (Run.nil (aa (ae (a6 10 aZ X S (st (ak 0 Y Y Y) Y ?_)))))))))
 refine fS Y Y Y Y ?_
 refine st (am (w2) Y ⟨(iV 1),trivial⟩) Y ?_
 refine st (am (d1) Y ⟨VT.le_refl _,VT.le_refl _,VT.le_refl _,trivial⟩) Y ?_
 refine st (ab Y) Y (st (aq Y Y) Y (st (aq Y Y) Y (st (aq Y Y) Y (st (ah Y) Y (st (ah Y) Y (Run.nil (st (ah Y) Y (Run.nil (aa ?_)))))))))
 refine ae (ai (fS Y Y Y Y ?_))
 refine st (am (i3) Y ⟨VT.le_refl _,VT.le_refl _,(iV 2147483647),trivial⟩) Y ?_
 refine fS Y Y Y Y ?_
 refine st (am (w2) Y ⟨(iV 1),trivial⟩) Y ?_
 refine st (am (d2) Y ⟨VT.le_refl _,VT.le_refl _,VT.le_refl _,trivial⟩) Y ?_
 refine st (ab Y) Y (st (aq Y Y) Y (st (aq Y Y) Y (st (aq Y Y) Y (st (ah Y) Y (st (ah Y) Y (st (ah Y) Y (Run.nil (aa (ae ?_)))))))))
 refine ai (stS Y Y Y Y (PartsK.cons Y (PartsK.cons Y (PartsK.cons Y (PartsK.cons Y (PartsK.nil ?_))))))
 refine st (am (i4) Y ⟨VT.le_refl _,VT.le_refl _,(ix [1,2,2,4]),trivial⟩) Y ?_
 refine stS Y Y Y Y (PartsK.cons Y (PartsK.cons Y (PartsK.nil ?_)))
 refine st (am (w1) Y ⟨(ix [1,0]),trivial⟩) Y ?_
 refine st (am (s4) Y ⟨VT.le_refl _,VT.le_refl _,trivial⟩) Y ?_
 refine st (ab Y) Y (st (aq Y Y) Y (st (aq Y Y) Y (st (ah Y) Y (st (ah Y) Y (Run.nil (aa (ae (ai (stS Y Y Y Y ?_)))))))))
 refine PartsK.cons Y (PartsK.cons Y (PartsK.nil ?_))
 refine st (am (i5) Y ⟨VT.le_refl _,VT.le_refl _,(ix [1,2]),trivial⟩) Y ?_
 refine stS Y Y Y Y (PartsK.cons Y (PartsK.cons Y (PartsK.nil ?_)))
 refine st (am (w1) Y ⟨(ix [1,0]),trivial⟩) Y ?_
 refine st (am (s5) Y ⟨VT.le_refl _,VT.le_refl _,trivial⟩) Y ?_
 refine st (ab Y) Y (st (aq Y Y) Y (st (aq Y Y) Y (st (ah Y) Y (st (ah Y) Y (Run.nil (aa (ae (a6 10 aZ X S (st (ak 0 Y Y Y) Y ?_)))))))))
 refine fS Y Y Y Y ?_
 refine st (am (w2) Y ⟨(iV 1),trivial⟩) Y ?_
 refine st (am (d3) Y ⟨VT.le_refl _,VT.le_refl _,VT.le_refl _,trivial⟩) Y ?_
 refine st (ab Y) Y (st (aq Y Y) Y (st (aq Y Y) Y (st (aq Y Y) Y (st (ah Y) Y (st (ah Y) Y (Run.nil (st (ah Y) Y (Run.nil (aa ?_)))))))))
 refine ae (ai (st (ab Y) Y (st (sT Z (ci Y Y)) Y (st (ab Y) Y (sg1 Y Y (ab Y) Y ?_)))))
 refine sg1 Y Y (am (u1) Y ⟨VT.le_refl _,trivial⟩) Y ?_
 refine sg1 Y Y (am (u2) Y ⟨VT.le_refl _,trivial⟩) Y ?_
 refine xQ Y Y Y Y Y Y (PartsK.cons Y (PartsK.cons Y (PartsK.nil ?_)))
 refine sg1 Y Y (am (hl1) Y ⟨VT.le_refl _,(Af Y Y),trivial⟩) Y ?_
 refine st (bj Y Y) Y (st (ab Y) Y (sg1 Y Y (ab Y) Y (sg1 Y Y (sT Z (ci Y Y)) Y (st (bj Y Y) Y (st (ab Y) Y (sg1 Y Y (ab Y) Y ?_))))))
 refine sg1 Y Y (am (m1) Y ⟨VT.le_refl _,VT.le_refl _,trivial⟩) Y ?_
 refine xQ Y Y Y Y Y Y (PartsK.cons Y (PartsK.nil ?_))
 refine sg1 Y Y (am (hl2) Y ⟨VT.le_refl _,(Ae Y),trivial⟩) Y ?_
 refine st (bj Y Y) Y (st (ab Y) Y (sg1 Y Y (ab Y) Y (sg1 Y Y (sT Z (ci Y Y)) Y (st (bj Y Y) Y (st (ab Y) Y (sg1 Y Y (ab Y) Y (sg1 Y Y (aU Y) Y (sg1 Y Y (sT Z (ci Y Y)) Y (st (bj Y Y) Y ?_)))))))))
 refine st (ah Y) Y (Run.nil (aa (ae (ai (st (ab Y) Y (st (sT Z (ci Y Y)) Y (st (ab Y) Y (sg1 Y Y (ab Y) Y (sg1 Y Y (sT Z (ci Y Y)) Y ?_)))))))))
 refine st (bj Y Y) Y (st (ab Y) Y (sg1 Y Y (ab Y) Y (xQ Y Y Y Y Y Y (PartsK.cons Y (PartsK.nil ?_)))))
 refine sg1 Y Y (am (w3) Y ⟨(ix [1073741824]),trivial⟩) Y ?_
 refine xQ Y Y Y Y Y Y (PartsK.cons Y (PartsK.nil ?_))
 refine sg1 Y Y (am (w4) Y ⟨(ix [1073741823]),trivial⟩) Y ?_
 refine xQ Y Y Y Y Y Y (PartsK.cons Y (PartsK.cons Y (PartsK.nil ?_)))
 refine sg1 Y Y (am (hsa) Y ⟨VT.le_refl _,(Ad Y Y),trivial⟩) Y ?_
 refine st (bj Y Y) Y (st (ab Y) Y (sg1 Y Y (ab Y) Y (sg1 Y Y (sT Z (ci Y Y)) Y (st (bj Y Y) Y (st (ab Y) Y (sg1 Y Y (ab Y) Y (sg1 Y Y (sT Z (ci Y Y)) Y (st (bj Y Y) Y (st (ah Y) Y ?_)))))))))
 refine Run.nil (aa (ae (ai (st (ab Y) Y (st (ab Y) Y (sg1 Y Y (ab Y) Y (st (bj Y Y) Y (st (ab Y) Y (sg1 Y Y (ab Y) Y ?_)))))))))
 refine sg1 Y Y (sT Z (ci Y Y)) Y (st (bj Y Y) Y (st (ab Y) Y (sg1 Y Y (ab Y) Y (sg1 Y Y (sT Z (ci Y Y)) Y (st (bj Y Y) Y (st (ab Y) Y (sg1 Y Y (ab Y) Y (sg1 Y Y (sT Z (ci Y Y)) Y (st (bj Y Y) Y ?_)))))))))
 refine st (ah Y) Y (Run.nil (aa (aE ?_)))
 refine aT Tryz.results8 (.tmp Y H)
end Tor
end
