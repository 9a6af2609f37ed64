/-
  Theorems that the proofs of laws of this seat rest on.
  No condition.
-/
import Derived.Test.YtcpilpmonajidaaEE4
import Init
set_option maxHeartbeats 8000000
set_option linter.unusedVariables false
set_option linter.unusedSimpArgs false
section
namespace Tor
open Go Go.RowKit Go.Proofs
attribute [local irreducible] J PJ aF one slT cS bP bZ exT cR eP bf be slV VT.le Ret cm
theorem rH (a b:Int) (ha:a4 a) (hb:a4 b):Ok Try.prog 49 [aS a,aS b] (aS (Nat.gcd a.natAbs b.natAbs)):=by
 have ha':(ax a.natAbs).length≤1099511627776:=ha
 have hb':(ax b.natAbs).length≤1099511627776:=hb
 unfold aS
 refine Ok.enter Try.func49 Z Try.ntmps49 Z (fun w O => ?_)
 refine ae (ai ?_)
 refine aO Z Z (ltN Z) (fun b2 => ?_)
 refine aO Z Z (ltN Z) (fun b3 => ?_)
 refine av (T:=29) Z (ltN Z) (fun b4 => ?_)
 refine Ao (aa (ae (aU 7 aR X Y (Ak (am Z) (Ak (ak 2 Z Z Z) ?_)))))
 refine Ak (aj (cr _) Z ⟨(bM _),Ap⟩) ?_
 refine Ak (am Z) (Ak (ak 1 Z Z Z) ?_)
 refine Ak (aj (cr _) Z ⟨(bM _),Ap⟩) ?_
 refine Am Z (Ao (Am Z (Ao (aa (ae (aw (cl (Γ' := [(4,_),(5,_),(6,_)]) Ag (SubM.refl _) ?_)))))))
 refine bA (σ:=Nat × Nat) (Γk := [(4,_)]) Ag (fun p => [(5,bC (ax p.1)),(6,bC (ax p.2))]) (fun p M0=>M0) (fun p=>Nat.gcd p.1 p.2=Nat.gcd a.natAbs b.natAbs∧(ax p.1).length≤1099511627776∧(ax p.2).length≤1099511627776) (fun p=>p.2) ((a.natAbs,b.natAbs)) (⟨rfl,ha',hb'⟩) Ah (.keep Aj (.keep Aj (.keep Aj (.nil)))) (fun p hp => ?_)
 refine bS (Γ' := [(5,_),(6,_),(4,_)]) (M' := [_,_,_]) Z Z ?_
 obtain ⟨x,y⟩:=p
 dsimp only at hp ⊢
 obtain ⟨p1,p2,p3⟩:=hp
 by_cases hy:y=0
 ·subst hy
  have hl:(ax 0).length=0:=rfl
  have hcl:=jb (ax x) p2
  have hv:=cN false x
  rw [Nat.gcd_zero_right] at p1
  rw [← p1]
  unfold aS at hv
  refine ae (ae (ai (Al Z (Ak (aM Z) (Ak (sF S (cT Z Z)) (Al Z (sg0 Z Z Z Z (sg0 Z Z Z Z (sg0 Z Z Z Z ?_)))))))))
  refine sg0 Z Z Z Z (sg0 Z Z Z Z (sg0 Z Z Z Z (Ak (aY Z Z) (Ao (aa (az Z (a6 (ay (ay ?_)))))))))
  refine aI (aa (ae (ae (ai (Al Z (Ak (aM Z) (Ak (sT S (bW Z Z)) (Ao (aa ?_)))))))))
  refine aB Z (ae (ai (Al Z ?_)))
  refine Ak (aj (hcl) Z ⟨A,Ap⟩) ?_
  refine Ak (aj (hv) Z ⟨A,(bM _),Ap⟩) ?_
  refine ao 0 Z Z Z Z Z (leN Z) Z (Ao (aa (aC (aD ?_))))
  refine aJ Try.results49 (.cellB 0 Z Z Z A)
 ·have hl:(ax y).length≠0:=fun h=>hy (dZ h)
  have hd:=ma x y hy p2
  have hm:=Nat.mod_lt x (Nat.pos_of_ne_zero hy)
  have hg:Nat.gcd y (x % y)=Nat.gcd a.natAbs b.natAbs:=by rw [← p1,Nat.gcd_comm y, ← Nat.gcd_rec,Nat.gcd_comm]
  have hml:=bB (Nat.le_of_lt hm)
  refine ae (ae (ai (Al Z (Ak (aM Z) (Ak (sT S (cT Z Z)) (Al Z (An (ab Z) (An (aM Z) (An (ab Z) ?_)))))))))
  refine An (aM Z) (An (tT Z Z) (An (cT Z Z) (Ak (a9 Z Z) (Ao (aa ?_)))))
  refine mE Z (fun hc => ?_) (fun hc => ?_)
  ·refine au (aa (aw (ae (ai (Al Z (Al Z ?_))))))
   refine Ak (aj (hd) Z ⟨A,A,Ap⟩) ?_
   refine Al Z (Ak (an Z Z) (Ak (an Z Z) (Am Z (Am Z (Ao (aa (ai (Al Z (Al Z ?_)))))))))
   refine Ak (aj (cr _) Z ⟨A,Ap⟩) ?_
   refine Am Z (Am Z (Ao (aK ?_)))
   refine aN ((y,x % y)) (⟨hg,p3,by dsimp only;omega⟩) (by assumption) Ah (.keep Aj (.keep Aj (.keep Aj (.nil))))
  ·have hx2:(ax x).length≤2:=by omega
   have hy2:(ax y).length≤2:=by omega
   have hw1:=ko (ax x) (aG x) hx2
   have hw2:=ko (ax y) (aG y) hy2
   rw [bh] at hw1 hw2
   have x64:x<18446744073709551616:=Nat.lt_of_lt_of_le (cC x) (Nat.pow_le_pow_right (n:=4294967296) Y hx2)
   have y64:y<18446744073709551616:=Nat.lt_of_lt_of_le (cC y) (Nat.pow_le_pow_right (n:=4294967296) Y hy2)
   refine a6 (ay (ay (aI (aa (ae (ae (ai (Al Z (Ak (aM Z) ?_)))))))))
   refine Ak (sF S (bW Z Z)) (Ao (aa (az Z (au (aa (ae (ai (Al Z ?_))))))))
   refine Ak (aj (hw1) Z ⟨A,Ap⟩) ?_
   refine Al Z ?_
   refine Ak (aj (hw2) Z ⟨A,Ap⟩) ?_
   refine Am Z (Am Z (Ao (aa (ae (aw (cl (Γ' := [(4,_),(9,_),(10,_)]) Ag (SubM.refl _) ?_))))))
   refine bA (σ:=Nat × Nat) (Γk := [(4,_)]) Ag (fun q => [(9,one (.int .u64 (q.1:Nat))),(10,one (.int .u64 (q.2:Nat)))]) (fun q M0=>M0) (fun q=>Nat.gcd q.1 q.2=Nat.gcd a.natAbs b.natAbs∧q.1<18446744073709551616∧q.2<18446744073709551616) (fun q=>q.2) ((x,y)) (⟨p1,x64,y64⟩) Ah (.keep Aj (.keep Aj (.keep Aj (.nil)))) (fun q hq => ?_)
   refine bS (Γ' := [(9,_),(10,_),(4,_)]) (M' := [_,_,_]) Z Z ?_
   obtain ⟨u,v⟩:=q
   dsimp only at hq ⊢
   obtain ⟨q1,q2,q3⟩:=hq
   by_cases hv0:v=0
   ·subst hv0
    rw [Nat.gcd_zero_right] at q1
    have hlu:=gS u q2
    have hv:=cN false u
    rw [← q1]
    unfold aS at hv
    refine ae (ae (ai (Al Z (Ak (sF S (cT Z Z)) (Ao (aa (az Z (a6 (ay ?_)))))))))
    refine ay (aI (aa (ae (ai (Al Z ?_)))))
    refine Ak (aj (hlu) Z ⟨A,Ap⟩) ?_
    refine Ak (aj (hv) Z ⟨A,A,Ap⟩) ?_
    refine ao 0 Z Z Z Z Z (leN Z) Z (Ao (aa (aC ?_)))
    refine aJ Try.results49 (.cellB 0 Z Z Z A)
   ·have hvm:=Nat.mod_lt u (Nat.pos_of_ne_zero hv0)
    have hvg:Nat.gcd v (u % v)=Nat.gcd a.natAbs b.natAbs:=by rw [← q1,Nat.gcd_comm v, ← Nat.gcd_rec,Nat.gcd_comm]
    refine ae (ae (ai (Al Z (Ak (sT S (cT Z Z)) (Ao (aa (aB Z (au (aa ?_)))))))))
    refine aw (aU 5 aR X Y (Al Z (Al Z (Al Z (Ak (dW _ Z Z Z S) (Am Z (Ao (Am Z (Ao ?_)))))))))
    refine aK ?_
    refine aN ((v,u % v)) (⟨hvg,q3,by dsimp only;omega⟩) (by assumption) Ah (.keep Aj (.keep Aj (.keep Aj (.nil))))
end Tor
end
section
namespace Tor
open Go Go.RowKit Go.Proofs
attribute [local irreducible] J PJ aF one slT cS bP bZ exT cR eP bf be slV VT.le Ret cm
theorem tf (a:Int) (ha:a4 a):Ok Try.prog 71 [aS a] (one (.int .i64 (jX a.natAbs:Nat))):=by
 have ha':(ax a.natAbs).length≤1099511627776:=ha
 have hx:=aL (aG a.natAbs) ((ax a.natAbs).length - 1)
 have hbl:=jc (n:=32) (x:=(ax a.natAbs).getD ((ax a.natAbs).length - 1) 0) S Y
 have hL:=nK _ hx
 unfold aS jX
 refine Ok.enter Try.func71 Z Try.ntmps71 Z (fun w O => ?_)
 by_cases h0:a.natAbs=0
 ·have hl:(ax a.natAbs).length=0:=by rw [h0]; rfl
  rw [if_pos h0]
  refine ae (ai ?_)
  refine aO Z Z (ltN Z) (fun b1 => ?_)
  refine Am Z (Ao (aa (ae (ai (Ak (am Z) (Ak (ak 0 Z Z Z) ?_))))))
  refine Ak (aj (cr _) Z ⟨(bM _),Ap⟩) ?_
  refine Am Z (Ao (aa (ae (ae (ai (Al Z (Ak (aM Z) (Ak (sT S (bW Z Z)) (Ao ?_)))))))))
  refine aa (aB Z (ae (ai (Am Z (Ao (aa (aC (aD ?_))))))))
  refine aJ Try.results71 (.tmp Z A)
 ·have hl:(ax a.natAbs).length≠0:=fun h=>h0 (dZ h)
  rw [if_neg h0]
  refine ae (ai ?_)
  refine aO Z Z (ltN Z) (fun b1 => ?_)
  refine Am Z (Ao (aa (ae (ai (Ak (am Z) (Ak (ak 0 Z Z Z) ?_))))))
  refine Ak (aj (cr _) Z ⟨(bM _),Ap⟩) ?_
  refine Am Z (Ao (aa (ae (ae (ai (Al Z (Ak (aM Z) (Ak (sF S (bW Z Z)) (Ao ?_)))))))))
  refine aa (az Z (au (aa (ae (ai (Al Z (Ak (aM Z) (Ak (cM _ 1 Z Z S S) (Ak (rj 32 _ Z Z S) ?_)))))))))
  refine Al Z (Al Z (Ak (aM Z) (Ak (cM _ 1 Z Z S S) (Ak (ar Z Z S) (Ak (aE Z) ?_)))))
  refine Ak (aj (hL) Z ⟨A,Ap⟩) ?_
  refine Ak (bX _ _ Z Z S) (Am Z (Ao (aa (aC ?_))))
  refine aJ Try.results71 (.tmp Z A)
end Tor
end
section
namespace Tor
theorem vF (s x:Nat):(2*s - x)*x≤s*s:=by
 rcases Nat.le_total x s with h | h
 ·obtain ⟨d,rfl⟩ : ∃ d,s=x+d:=⟨s - x,by omega⟩
  rw [show 2*(x+d) - x=x+2*d by omega,Nat.add_mul,Nat.add_mul,Nat.mul_add,Nat.mul_add,Nat.mul_assoc,Nat.mul_comm d x]
  have:=Nat.zero_le (d*d)
  omega
 ·rcases Nat.le_total x (2*s) with h2 | h2
  ·obtain ⟨d,rfl⟩ : ∃ d,x=s+d:=⟨x - s,by omega⟩
   obtain ⟨e,rfl⟩ : ∃ e,s=d+e:=⟨s - d,by omega⟩
   rw [show 2*(d+e) - (d+e+d)=e by omega]
   simp only [Nat.add_mul,Nat.mul_add]
   have:=Nat.mul_comm d e
   have:=Nat.zero_le (d*d)
   omega
  ·rw [show 2*s - x=0 by omega,Nat.zero_mul]; exact Nat.zero_le _
theorem qq {a s x:Nat} (h:s*s≤a) (hx:0<x):s≤(x+a / x) / 2:=by
 rcases Nat.lt_or_ge ((x+a / x) / 2) s with h1 | h1
 ·exfalso
  have h2:=Nat.lt_mul_div_succ a hx
  generalize a / x=q at *
  have h3:q+1≤2*s - x:=by omega
  have h4:=vF s x
  have h5:x*(q+1)≤(2*s - x)*x:=by rw [Nat.mul_comm]; exact Nat.mul_le_mul_right _ h3
  omega
 ·exact h1
theorem qr {a x:Nat} (hx:0<x) (h:x≤(x+a / x) / 2):x*x≤a:=by
 have h1:x≤a / x:=by
  generalize a / x=q at *; omega
 exact (Nat.le_div_iff_mul_le hx).1 h1
theorem qs {a s x:Nat} (h1:x*x≤a) (h2:a<(s+1)*(s+1)) (h3:s≤x):x=s:=by
 rcases Nat.lt_or_ge s x with h | h
 ·have h4:(s+1)*(s+1)≤x*x:=Nat.mul_le_mul h h
  omega
 ·omega
end Tor
end
section
namespace Tor
open Go Go.RowKit Go.Proofs
theorem tg (v:Nat):v<2^jX v:=by
 unfold jX
 by_cases h0:v=0
 ·rw [if_pos h0]; subst h0;decide
 ·rw [if_neg h0]
  have hl:(ax v).length≠0:=fun h=>h0 (dZ h)
  obtain ⟨k,hk⟩ : ∃ k,(ax v).length=k+1:=⟨(ax v).length - 1,by omega⟩
  rw [hk,Nat.add_sub_cancel]
  have hL:=aG v
  have h1:=a8 (l:=ax v) (k:=k) S
  rw [List.take_of_length_le S,bh] at h1
  have h2:=gv hL k
  have h3:=mQ (x:=(ax v).getD k 0) (by have:=aL hL k;omega)
  generalize fB ((ax v).getD k 0)=n at *
  generalize (ax v).getD k 0=d at *
  rw [nL] at h1
  generalize lv ((ax v).take k)=y at *
  rw [Nat.pow_add]
  have h4:2^(32*k)*(d+1)≤2^(32*k)*2^n:=Nat.mul_le_mul_left _ h3
  rw [Nat.mul_add,Nat.mul_one] at h4
  omega
theorem mc (n:Nat):aW ((List.replicate (n / 32+1) 0).set (n / 32) (2^(n % 32)))∧lv ((List.replicate (n / 32+1) 0).set (n / 32) (2^(n % 32)))=2^n:=by
 have h1:2^(n % 32)<4294967296:=Nat.lt_of_le_of_lt (Nat.pow_le_pow_right (n:=2) Y (show n % 32≤31 by omega)) Y
 refine ⟨(aW.replicate _).set h1,?_⟩
 have hs:=eG (l:=List.replicate (n / 32+1) 0) (k:=n / 32) (v:=2^(n % 32)) (by simp)
 rw [bL,Nat.mul_zero,Nat.add_zero,cV,Nat.zero_add] at hs
 rw [hs,nL, ← Nat.pow_add,Nat.div_add_mod]
theorem th {v m:Nat} (h:(ax v).length≤m):jX v≤32*m:=by
 unfold jX
 by_cases h0:v=0
 ·rw [if_pos h0]; exact Nat.zero_le _
 ·rw [if_neg h0]
  have hl:(ax v).length≠0:=fun h=>h0 (dZ h)
  have h1:=aL (aG v) ((ax v).length - 1)
  have h2:=jc (n:=32) (x:=(ax v).getD ((ax v).length - 1) 0) S Y
  omega
end Tor
end
section
namespace Tor
open Go Go.RowKit Go.Proofs
theorem uu {P:Program} {E:Env} {Γ:Ctx} {M:Mem} {d:Option Tmp} {ty:TypeId} {pos:String} {af:Array Edge} {gd:Option (Nat × Bool)} {T T':TypeId} {x y:Operand} {k':IntKind} {s:Nat} (hx:aA Γ x=some (one (.int .u32 1))) (hy:aA Γ y=some (one (.int k' (s:Int)))) (hs:s<32) :
  aF P E Γ M ⟨d, .binOp .shl T x y T',ty,pos,af,gd⟩ (one (.int .u32 ((2^s:Nat):Int))) :=
 tR hx hy S (by
  have e:min ((s:Int)).toNat IntKind.u32.bits=s:=by show min _ 32=s;omega
  rw [e,iS]
  have h1:2^s<4294967296:=Nat.lt_of_le_of_lt (Nat.pow_le_pow_right (n:=2) Y (show s≤31 by omega)) Y
  have:((1:Int)*2^s)=((2^s:Nat):Int):=by simp
  rw [this]
  generalize 2^s=x at h1 ⊢
  omega)
theorem eM (i j:Nat) (h:i≤j):2^i≤2^j:=Nat.pow_le_pow_right Y h
theorem oP (n k:Nat) (h:k=n+1):2^k=2^n+2^n:=by rw [h,Nat.pow_succ]; omega
theorem uv (n k:Nat) (h:k=n+n):2^k=2^n*2^n:=by rw [h,Nat.pow_add]
theorem rI (n:Nat):VT.le (slT .one (n / 32+1) (upd (fun _=>one (.int .u32 0)) (n / 32) (one (.int .u32 ((2^(n % 32):Nat):Int))))) (i8 (2^n)) :=
 VT.le_trans (bK (m:=((List.replicate (n / 32+1) 0).set (n / 32) (2^(n % 32))).length) (ψ:=ep ((List.replicate (n / 32+1) 0).set (n / 32) (2^(n % 32)))) (by simp) (fun q hq=>by
  unfold upd ep
  by_cases h:q=n / 32
  ·subst h;rw [if_pos Z]; simp [List.getD]
  ·rw [if_neg h]
   simp only [List.getD,List.getElem?_set,if_neg (Ne.symm h),List.getElem?_replicate,if_pos hq]; rfl)) (em (mc n).1 (mc n).2)
attribute [local irreducible] J PJ aF one slT cS bP bZ exT cR eP bf be slV VT.le Ret cm
theorem tj (a s:Nat) (ha:a<2^800) (h0:a≠0) (h1:s*s≤a) (h2:a<(s+1)*(s+1)):Ok Try.prog 45 [aS (a:Int)] (bZ [aS (s:Int),one (.int .i64 0)]):=by
 have hsm:a4 (a:Int):=cD (Nat.lt_trans ha F)
 have hbi:=tf (a:Int) hsm
 rw [Int.natAbs_natCast] at hbi
 have hbl:=tg a
 have hsg:cH (a:Int)=1:=by unfold cH;rw [if_neg S,if_neg S]
 have hsi:=f8 (a:Int)
 rw [hsg] at hsi
 have hb8:jX a≤832:=th (v:=a) (m:=26) (cB (Nat.lt_trans ha F))
 generalize jX a=bn at *
 refine Ok.enter Try.func45 Z Try.ntmps45 Z (fun w O => ?_)
 obtain ⟨n,hn⟩ : ∃ n,n=(bn+1) / 2:=⟨_,rfl⟩
 have hn2:a<2^n*2^n:=by
  rw [← Nat.pow_add]
  exact Nat.lt_of_lt_of_le hbl (Nat.pow_le_pow_right Y S)
 obtain ⟨e5,he5⟩ : ∃ e,e=500:=⟨_,rfl⟩
 have hn5:2^n<2^e5:=Nat.pow_lt_pow_right Y S
 have hsn:s≤2^n:=by
  rcases Nat.lt_or_ge (2^n) s with h | h
  ·have:=Nat.mul_le_mul (Nat.le_of_lt h) (Nat.le_of_lt h);omega
  ·exact h
 have hn0:0<2^n:=Nat.two_pow_pos n
 have hv:=cN false (2^n)
 rw [if_neg Y] at hv
 refine ae (ai ?_)
 refine aO Z Z (ltN Z) (fun b1 => ?_)
 refine av (T:=29) Z (ltN Z) (fun b2 => ?_)
 refine Am Z (Ao (aa (ae (ae (ai (Ak (aP 1 Z Z) ?_))))))
 refine Ak (aj (hsi) Z ⟨A,Ap⟩) ?_
 refine Ao (aa (aw (ae (ai (Ak (sF S (bW Z Z)) (Am Z (Ao (aa (az Z ?_)))))))))
 refine ae (ai (Ak (sF S (bW Z Z)) (Am Z (Ao (aa (az Z (au (aK (aa ?_)))))))))
 refine ae (ai ?_)
 refine Ak (aj (gT _ S S) Z ⟨A,Ap⟩) ?_
 refine av (T:=29) Z (ltN Z) (fun b4 => ?_)
 refine ao 0 Z Z Z Z Z (leN Z) Z (Ao (aa (ae (ai (Ak (aP 2 Z Z) ?_)))))
 refine Ak (aj (hbi) Z ⟨A,Ap⟩) ?_
 refine Ak (bX _ 1 Z Z S) (Ak (oH 2 Z Z Z Y S) (Am Z (Ao (aa (ae (ai (Al Z (Ak (oH 32 Z Z Z Y S) (Ak (bX _ 1 Z Z S) ?_)))))))))
 rw [← hn]
 refine cz (n / 32+1) (n / 32+1) Z Z Z Z (Nat.le_refl _) Z Z S Z Z (fun bz => ?_)
 refine Am Z (Ao (aa (ae (ai (Al Z (Al Z (Ak (oH 32 Z Z Z Y S) (Al Z (Ak (dW 32 Z Z Z Y) ?_)))))))))
 refine Ak (uu (s:=n % 32) Z Z S) (Ak (co Z Z S) ?_)
 (refine cy 0 Z Z Z ?_ Z ?_;omega)
 refine Ao (aa (ae (ai (Al Z (fk (t:=38) (j:=0) Z Z ?_)))))
 refine Ak (aj (hv) Z ⟨A,(rI _),Ap⟩) ?_
 refine av (T:=29) Z (ltN Z) (fun b7 => ?_)
 refine ao 0 Z Z Z Z Z (leN Z) Z (Ao (aa (aw (cl (Γ' := [(1,_),(2,_),(3,_),(4,_),(7,_)]) Ag (SubM.refl _) ?_))))
 refine bA (σ:=Nat) (Γk := [(1,_),(2,_),(4,_),(7,_)]) Ag (fun x => []) (fun x M0=>(M0.set 0 (bf b7 29 (Lay.agg 2).sz [(0,Lay.agg 2,aS (x:Int))]))) (fun x=>s≤x∧x<2^e5) (fun x=>x) (2^n) (⟨hsn,hn5⟩) Ah (.keep Aj (.keep Aj (.keep Aj (.keep Aj (.nil))))) (fun x hx => ?_)
 refine bS (Γ' := [(1,_),(2,_),(4,_),(7,_)]) (M' := [_,_,_,_]) Z Z ?_
 obtain ⟨g1,g2⟩:=hx
 have g0:0<x:=by
  rcases Nat.eq_zero_or_pos s with h | h
  ·subst h;omega
  ·omega
 have gx:x<2^2048:=Nat.lt_of_lt_of_le g2 (eM e5 2048 S)
 have ga:a<2^2048:=Nat.lt_of_lt_of_le ha (eM 800 2048 Y)
 have hxs:a4 (x:Int):=cD gx
 have hqa:a / x≤a:=Nat.div_le_self _ _
 have hd:=dA (a:Int) (x:Int) S hsm hxs
 rw [← Int.natCast_ediv, ← Int.natCast_emod] at hd
 have hqs:a4 ((a / x:Nat):Int):=cD (Nat.lt_of_le_of_lt hqa ga)
 have had:=kj (x:Int) ((a / x:Nat):Int) hxs hqs
 rw [← Int.natCast_add] at had
 have hss:x+a / x<2^2048:=by
  have e1:x<2^2047:=Nat.lt_of_lt_of_le g2 (eM e5 2047 S)
  have e2:a<2^2047:=Nat.lt_of_lt_of_le ha (eM 800 2047 Y)
  have e3:2^2048=2^2047+2^2047:=oP 2047 2048 Z
  rw [e3]; generalize 2^2047=z at *; omega
 have hd2:=dA ((x+a / x:Nat):Int) 2 Y (cD hss) (cD F)
 rw [show ((x+a / x:Nat):Int) / 2=(((x+a / x) / 2:Nat):Int) from (Int.natCast_ediv _ _).symm,show ((x+a / x:Nat):Int) % 2=(((x+a / x) % 2:Nat):Int) from (Int.natCast_emod _ _).symm] at hd2
 have hcm:=fM (((x+a / x) / 2:Nat):Int) (x:Int)
 have hnx:s≤(x+a / x) / 2:=qq h1 g0
 by_cases hy:x≤(x+a / x) / 2
 ·have hxe:x=s:=qs (qr g0 hy) h2 g1
  have hc : ¬ cF (((x+a / x) / 2:Nat):Int) (x:Int)<0:=by unfold cF;split <;> (try split) <;> omega
  refine aw (ae (ai (Ak (aP 3 Z Z) (Ak (ak 0 Z Z Z) ?_))))
  refine Ak (aj (hd) Z ⟨A,A,Ap⟩) ?_
  refine Al Z (Ak (an Z Z) (Ak (an Z Z) (Ak (an Z Z) ?_)))
  refine av (T:=29) Z (ltN Z) (fun b8 => ?_)
  refine av (T:=29) Z (ltN Z) (fun b9 => ?_)
  refine ao 1 Z Z Z Z Z (leN Z) Z (ao 0 Z Z Z Z Z (leN Z) Z (Am Z (Ao (aa (ae ?_)))))
  refine fa aR X X ?_
  refine ux (fun B=>ak 2 Z Z Z) Z Z ?_
  refine ux (fun B=>ak 1 Z Z Z) Z Z ?_
  refine uxk (had) Z ⟨A,A,Ap⟩ Z ?_
  refine ux (fun B=>ak 3 Z Z Z) Z Z ?_
  refine uxk (hd2) Z ⟨A,A,Ap⟩ Z ?_
  refine ux (fun B=>ab Z) Z Z ?_
  refine ux (fun B=>an Z Z) Z Z ?_
  refine ux (fun B=>an Z Z) Z Z ?_
  refine ux (fun B=>an Z Z) Z Z ?_
  refine ua Z (ua Z (us Z (us Z ?_)))
  refine ux (fun B=>ah Z) Z Z ?_
  refine RunU.nil (fun γ => ?_)
  refine cw (M' := [_,_,_,_,_,_,_,_]) Z (aa (ae (ae (ai (Ak (ak 1 Z Z Z) (Ak (ak 4 Z Z Z) ?_))))))
  refine Ak (aj (hcm) Z ⟨A,A,Ap⟩) ?_
  refine Ak (sT S (dC Z Z)) (Ao (aa (aB Z (ae (ai (Ak (ak 4 Z Z Z) (ao 6 Z Z Z Z Z (leN Z) Z (Am Z (Ao ?_)))))))))
  refine aa (aC (aD (aZ (aD (aZ ?_)))))
  refine de Try.results45 (.cellB 6 Z Z Z (bm (by rw [hxe]))) (.tmp Z A)
 ·have hc:cF (((x+a / x) / 2:Nat):Int) (x:Int)<0:=by unfold cF;rw [if_pos S]; decide
  refine aw (ae (ai (Ak (aP 3 Z Z) (Ak (ak 0 Z Z Z) ?_))))
  refine Ak (aj (hd) Z ⟨A,A,Ap⟩) ?_
  refine Al Z (Ak (an Z Z) (Ak (an Z Z) (Ak (an Z Z) ?_)))
  refine av (T:=29) Z (ltN Z) (fun b8 => ?_)
  refine av (T:=29) Z (ltN Z) (fun b9 => ?_)
  refine ao 1 Z Z Z Z Z (leN Z) Z (ao 0 Z Z Z Z Z (leN Z) Z (Am Z (Ao (aa (ae ?_)))))
  refine fa aR X X ?_
  refine ux (fun B=>ak 2 Z Z Z) Z Z ?_
  refine ux (fun B=>ak 1 Z Z Z) Z Z ?_
  refine uxk (had) Z ⟨A,A,Ap⟩ Z ?_
  refine ux (fun B=>ak 3 Z Z Z) Z Z ?_
  refine uxk (hd2) Z ⟨A,A,Ap⟩ Z ?_
  refine ux (fun B=>ab Z) Z Z ?_
  refine ux (fun B=>an Z Z) Z Z ?_
  refine ux (fun B=>an Z Z) Z Z ?_
  refine ux (fun B=>an Z Z) Z Z ?_
  refine ua Z (ua Z (us Z (us Z ?_)))
  refine ux (fun B=>ah Z) Z Z ?_
  refine RunU.nil (fun γ => ?_)
  refine cw (M' := [_,_,_,_,_,_,_,_]) Z (aa (ae (ae (ai (Ak (ak 1 Z Z Z) (Ak (ak 4 Z Z Z) ?_))))))
  refine Ak (aj (hcm) Z ⟨A,A,Ap⟩) ?_
  refine Ak (sF S (dC Z Z)) (Ao (aa (az Z (au (aa (ai (Ak (ak 1 Z Z Z) (ao 4 Z Z Z Z Z (leN Z) Z (Ao ?_)))))))))
  refine aK ?_
  refine aN ((x+a / x) / 2) (⟨hnx,by omega⟩) S Ah (.drop (.drop (.drop (.drop (.keep Aj (.keep Aj (.keep Aj (.keep Aj (.nil)))))))))
end Tor
end
section
namespace Tor
open Go Go.RowKit Go.Proofs
def dM (n d:Int):VT:=bP 4 [(0, .agg 2,aS n),(2, .agg 2,aS d)]
def jH (q:Rat):VT:=dM q.num q.den
theorem jg {n n' d d':Int} (h:n=n') (h':d=d'):VT.le (bP 4 [(0, .agg 2,aS n),(2, .agg 2,aS d)]) (dM n' d'):=h▸h'▸VT.le_refl _
theorem pG {n d:Int} (h:0<d):n / ((Nat.gcd n.natAbs d.natAbs:Nat):Int)=(Rat.divInt n d).num∧d / ((Nat.gcd n.natAbs d.natAbs:Nat):Int)=((Rat.divInt n d).den:Int):=by
 have e:Int.gcd d n=Nat.gcd n.natAbs d.natAbs:=Nat.gcd_comm _ _
 rw [Rat.num_divInt,Rat.den_divInt,if_neg S,e,Int.sign_eq_one_of_pos h,Int.one_mul]
 refine ⟨rfl,?_⟩
 rw [Int.natCast_ediv,Int.natAbs_of_nonneg (Int.le_of_lt h)]
theorem pH {n d:Int} (h:d<0):n / -((Nat.gcd n.natAbs d.natAbs:Nat):Int)=(Rat.divInt n d).num∧d / -((Nat.gcd n.natAbs d.natAbs:Nat):Int)=((Rat.divInt n d).den:Int):=by
 have e:Int.gcd d n=Nat.gcd n.natAbs d.natAbs:=Nat.gcd_comm _ _
 have h1:((Nat.gcd n.natAbs d.natAbs:Nat):Int)∣n:=Int.gcd_dvd_left ..
 have h2:((Nat.gcd n.natAbs d.natAbs:Nat):Int)∣d:=Int.gcd_dvd_right ..
 rw [Rat.num_divInt,Rat.den_divInt,if_neg S,e,Int.sign_eq_neg_one_of_neg h,Int.ediv_neg,Int.ediv_neg]
 refine ⟨?_,?_⟩
 ·rw [Int.neg_mul,Int.one_mul,Int.neg_ediv_of_dvd h1]
 ·rw [Int.natCast_ediv, ← Int.neg_ediv_of_dvd h2]; congr 1;omega
theorem qt {n d:Int} (h:d≠0) (hs:a4 d):a4 ((Nat.gcd n.natAbs d.natAbs:Nat):Int):=by
 have h1:Nat.gcd n.natAbs d.natAbs≤d.natAbs:=Nat.le_of_dvd S (Nat.gcd_dvd_right _ _)
 unfold a4 at *
 rw [Int.natAbs_natCast]
 exact Nat.le_trans (bB h1) hs
theorem rJ {n d:Int} (h:d≠0):((Nat.gcd n.natAbs d.natAbs:Nat):Int)≠0:=by
 have:=Nat.gcd_pos_of_pos_right n.natAbs (show 0<d.natAbs by omega)
 omega
theorem nW:VT.le (one (.agg #[.bool false, .slice none 0 0])) (aS 0):=by
 intro v h e
 have e:v = .agg #[.bool false, .slice none 0 0]:=e
 subst e
 exact dz _ _ ⟨_,rfl,rfl,by simp [Value.oneCell'],fun q hq=>by
  rcases List.mem_cons.1 hq with rfl | hq
  ·exact ⟨_,rfl,rfl⟩
  ·rcases List.mem_cons.1 hq with rfl | hq
   ·exact ⟨_,rfl,rfl⟩
   ·cases hq⟩
theorem mZ:VT.le (bP 4 (eY #[Value.bool false,Value.slice none 0 0,Value.bool false,Value.slice none 0 0] [(0,Lay.agg 2),(2,Lay.agg 2)])) (bP 4 [(0, .agg 2,aS 0),(2, .agg 2,aS 0)]):=iU (fun q hq=>by
 rcases List.mem_cons.1 hq with rfl | hq
 ·exact ⟨_,List.mem_cons_self,nW⟩
 ·rcases List.mem_cons.1 hq with rfl | hq
  ·exact ⟨_,List.mem_cons_of_mem _ List.mem_cons_self,nW⟩
  ·cases hq)
attribute [local irreducible] J PJ aF one slT cS bP bZ exT cR eP bf be slV VT.le Ret cm
theorem rK:Ok Try.prog 45 [aS 0] (bZ [aS 0,one (.int .i64 0)]):=by
 have hsi:=f8 0
 rw [show cH 0=0 from rfl] at hsi
 refine Ok.enter Try.func45 Z Try.ntmps45 Z (fun w O => ?_)
 refine ae (ai ?_)
 refine aO Z Z (ltN Z) (fun b1 => ?_)
 refine av (T:=29) Z (ltN Z) (fun b2 => ?_)
 refine Am Z (Ao (aa (ae (ae (ai (Ak (aP 1 Z Z) ?_))))))
 refine Ak (aj (hsi) Z ⟨A,Ap⟩) ?_
 refine Ao (aa (aw (ae (ai (Ak (sF S (bW Z Z)) (Am Z (Ao (aa (az Z ?_)))))))))
 refine ae (ai (Ak (sT S (bW Z Z)) (Am Z (Ao (aa (aB Z (ae (ai (stB Z Z Z ?_)))))))))
 refine BuildK.nil (ao 0 Z Z Z Z Z (leN Z) Z (Am Z (Ao (aa (aC (aZ (aD ?_)))))))
 refine de Try.results45 (.cellB 0 Z Z Z (dz)) (.tmp Z A)
theorem qu (n d:Int) (hd:d≠0) (hn:a4 n) (hds:a4 d):Ok Try.prog 72 [dM n d] (jH (Rat.divInt n d)):=by
 have hg:=rH n d hn hds
 have hgs:=qt (n:=n) hd hds
 have hg0:=rJ (n:=n) hd
 have hsi:=f8 d
 unfold jH dM
 refine Ok.enter Try.func72 Z Try.ntmps72 Z (fun w O => ?_)
 by_cases h:d<0
 ·obtain ⟨l1,l2⟩:=pH (n:=n) h
  have hs:cH d = -1:=by unfold cH;rw [if_neg hd,if_pos h]
  rw [hs] at hsi
  refine ae (ai ?_)
  refine aO Z Z (ltN Z) (fun b1 => ?_)
  refine cg (T:=45) Z Z Z (fun b2 => ?_)
  refine Ao (aa (ae (ae (ai (Ak (am Z) (Ak (ak 1 Z Z Z) ?_))))))
  refine Ak (aj (hsi) Z ⟨A,Ap⟩) ?_
  refine Ak (sF S (bW Z Z)) (Ao (aa (az Z (au (aa (ae (ai (Ak (am Z) (Ak (ak 1 Z Z Z) ?_)))))))))
  refine Ak (am Z) (Ak (ak 1 Z Z Z) ?_)
  refine Ak (aj (hg) Z ⟨A,A,Ap⟩) ?_
  refine av (T:=29) Z (ltN Z) (fun b3 => ?_)
  refine ao 0 Z Z Z Z Z (leN Z) Z (Ao (aa (ae (ae (ai (Ak (am Z) (Ak (ak 2 Z Z Z) ?_)))))))
  refine Ak (aj (hsi) Z ⟨A,Ap⟩) ?_
  refine Ak (sT S (bp Z Z)) (Ao (aa (aB Z (ai (Ak (ak 0 Z Z Z) ?_)))))
  refine Ak (aj (sP _ (by assumption)) Z ⟨A,Ap⟩) ?_
  refine ao 0 Z Z Z Z Z (leN Z) Z (Ao (aa (ae (ai (Ak (am Z) (Ak (ak 2 Z Z Z) (Ak (ak 0 Z Z Z) ?_)))))))
  refine Ak (aj (dA _ _ S (by assumption) (jE ‹_›)) Z ⟨A,A,Ap⟩) ?_
  refine Al Z (Ak (an Z Z) (Ak (an Z Z) (Ak (an Z Z) ?_)))
  refine av (T:=29) Z (ltN Z) (fun b4 => ?_)
  refine av (T:=29) Z (ltN Z) (fun b5 => ?_)
  refine ao 1 Z Z Z Z Z (leN Z) Z (ao 0 Z Z Z Z Z (leN Z) Z (Am Z (Ao (aa (ae (ai (Ak (am Z) (Ak (ak 4 Z Z Z) (Ak (ak 2 Z Z Z) ?_)))))))))
  refine Ak (aj (dA _ _ S (by assumption) (jE ‹_›)) Z ⟨A,A,Ap⟩) ?_
  refine Al Z (Ak (an Z Z) (Ak (an Z Z) (Ak (an Z Z) ?_)))
  refine av (T:=29) Z (ltN Z) (fun b7 => ?_)
  refine av (T:=29) Z (ltN Z) (fun b8 => ?_)
  refine ao 1 Z Z Z Z Z (leN Z) Z (ao 0 Z Z Z Z Z (leN Z) Z (Am Z (Ao (aa (ae (ai (Ak (ak 3 Z Z Z) (Ak (ak 1 Z Z Z) (stB Z Z Z ?_)))))))))
  refine BuildK.cons Z Z Z (BuildK.cons Z Z Z (BuildK.nil (bg 5 Z Z Z Z (Ao (aa (aC ?_))))))
  refine aJ Try.results72 (.cellW 5 Z Z (jg l1 l2))
 ·obtain ⟨l1,l2⟩:=pG (n:=n) (show 0<d by omega)
  have hs:cH d=1:=by unfold cH;rw [if_neg hd,if_neg h]
  rw [hs] at hsi
  refine ae (ai ?_)
  refine aO Z Z (ltN Z) (fun b1 => ?_)
  refine cg (T:=45) Z Z Z (fun b2 => ?_)
  refine Ao (aa (ae (ae (ai (Ak (am Z) (Ak (ak 1 Z Z Z) ?_))))))
  refine Ak (aj (hsi) Z ⟨A,Ap⟩) ?_
  refine Ak (sF S (bW Z Z)) (Ao (aa (az Z (au (aa (ae (ai (Ak (am Z) (Ak (ak 1 Z Z Z) ?_)))))))))
  refine Ak (am Z) (Ak (ak 1 Z Z Z) ?_)
  refine Ak (aj (hg) Z ⟨A,A,Ap⟩) ?_
  refine av (T:=29) Z (ltN Z) (fun b3 => ?_)
  refine ao 0 Z Z Z Z Z (leN Z) Z (Ao (aa (ae (ae (ai (Ak (am Z) (Ak (ak 2 Z Z Z) ?_)))))))
  refine Ak (aj (hsi) Z ⟨A,Ap⟩) ?_
  refine Ak (sF S (bp Z Z)) (Ao (aa (az Z (au (aa (ae (ai (Ak (am Z) (Ak (ak 2 Z Z Z) ?_)))))))))
  refine Ak (ak 0 Z Z Z) ?_
  refine Ak (aj (dA _ _ (by assumption) (by assumption) (by assumption)) Z ⟨A,A,Ap⟩) ?_
  refine Al Z (Ak (an Z Z) (Ak (an Z Z) (Ak (an Z Z) ?_)))
  refine av (T:=29) Z (ltN Z) (fun b4 => ?_)
  refine av (T:=29) Z (ltN Z) (fun b5 => ?_)
  refine ao 1 Z Z Z Z Z (leN Z) Z (ao 0 Z Z Z Z Z (leN Z) Z (Am Z (Ao (aa (ae (ai (Ak (am Z) (Ak (ak 4 Z Z Z) (Ak (ak 2 Z Z Z) ?_)))))))))
  refine Ak (aj (dA _ _ (by assumption) (by assumption) (by assumption)) Z ⟨A,A,Ap⟩) ?_
  refine Al Z (Ak (an Z Z) (Ak (an Z Z) (Ak (an Z Z) ?_)))
  refine av (T:=29) Z (ltN Z) (fun b7 => ?_)
  refine av (T:=29) Z (ltN Z) (fun b8 => ?_)
  refine ao 1 Z Z Z Z Z (leN Z) Z (ao 0 Z Z Z Z Z (leN Z) Z (Am Z (Ao (aa (ae (ai (Ak (ak 3 Z Z Z) (Ak (ak 1 Z Z Z) (stB Z Z Z ?_)))))))))
  refine BuildK.cons Z Z Z (BuildK.cons Z Z Z (BuildK.nil (bg 5 Z Z Z Z (Ao (aa (aC ?_))))))
  refine aJ Try.results72 (.cellW 5 Z Z (jg l1 l2))
theorem uw (n d:Int) (hd:d≠0) (hn:a4 n) (hds:a4 d):Ok Try.prog 47 [aS n,aS d] (bZ [jH (Rat.divInt n d),one (.int .i64 0)]):=by
 have hlow:=qu n d hd hn hds
 have hs:cH d≠0:=by unfold cH;rw [if_neg hd]; split <;> decide
 unfold jH dM at *
 refine Ok.enter Try.func47 Z Try.ntmps47 Z (fun w O => ?_)
 refine ae (ai ?_)
 refine aO Z Z (ltN Z) (fun b2 => ?_)
 refine aO Z Z (ltN Z) (fun b3 => ?_)
 refine cg (T:=45) Z Z Z (fun b4 => ?_)
 refine Am Z (Ao (aa (ae (ae (ai (Ak (aP 1 Z Z) ?_))))))
 refine Ak (aj (f8 _) Z ⟨A,Ap⟩) ?_
 refine Ak (sF (by assumption) (bW Z Z)) (Ao (aa (az Z (au (aa (ae (ai (Ak (aP 2 Z Z) (Ak (aP 1 Z Z) ?_)))))))))
 refine stB Z Z Z (BuildK.cons Z Z Z (BuildK.cons Z Z Z (BuildK.nil ?_)))
 refine Ak (aj (hlow) Z ⟨A,Ap⟩) ?_
 refine bg 0 Z Z Z Z (Am Z (Ao (aa (aC ?_))))
 refine de Try.results47 (.cellW 0 Z Z A) (.tmp Z A)
theorem tk (n:Int):Ok Try.prog 47 [aS n,aS 0] (bZ [dM 0 0,one (.int .i64 3)]):=by
 unfold dM at *
 refine Ok.enter Try.func47 Z Try.ntmps47 Z (fun w O => ?_)
 have hsi:=f8 0
 rw [show cH 0=0 from rfl] at hsi
 refine ae (ai ?_)
 refine aO Z Z (ltN Z) (fun b2 => ?_)
 refine aO Z Z (ltN Z) (fun b3 => ?_)
 refine cg (T:=45) Z Z Z (fun b4 => ?_)
 refine Am Z (Ao (aa (ae (ae (ai (Ak (aP 1 Z Z) ?_))))))
 refine Ak (aj (hsi) Z ⟨A,Ap⟩) ?_
 refine Ak (sT S (bW Z Z)) (Ao (aa (aB Z (ae (ai (stB Z Z Z (BuildK.nil (bg 0 Z Z Z Z (Am Z ?_)))))))))
 refine Ao (aa (aC (aD ?_)))
 refine de Try.results47 (.cellW 0 Z Z (mZ)) (.tmp Z A)
theorem lc (u:Nat) (hu:u<18446744073709551616):Ok Try.prog 31 [one (.int .u64 (u:Int))] (aS (u:Int)):=by
 have h1:=gT ((u / 4294967296:Nat):Int) S S
 have h2:=gT 4294967296 Y Y
 have h3:=gT ((u % 4294967296:Nat):Int) S S
 refine Ok.enter Try.func31 Z Try.ntmps31 Z (fun w O => ?_)
 have s1:a4 ((u / 4294967296:Nat):Int):=cD (by rw [Int.natAbs_natCast]; exact Nat.lt_of_le_of_lt (Nat.div_le_self _ _) (Nat.lt_trans hu F))
 have s2:a4 4294967296:=cD F
 have s3:a4 ((u % 4294967296:Nat):Int):=cD (by rw [Int.natAbs_natCast]; exact Nat.lt_of_le_of_lt (Nat.mod_le _ _) (Nat.lt_trans hu F))
 have s4:a4 (((u / 4294967296:Nat):Int)*4294967296):=cD (by
  rw [show ((u / 4294967296:Nat):Int)*4294967296=((u / 4294967296*4294967296:Nat):Int) from by simp,Int.natAbs_natCast]
  exact Nat.lt_of_le_of_lt (Nat.div_mul_le_self _ _) (Nat.lt_trans hu F))
 refine ae (ai ?_)
 refine av (T:=29) Z (ltN Z) (fun b2 => ?_)
 refine Ao (aa (ae (ai (Al Z (Ak (ei Z) (Ak (ej Z S S) ?_))))))
 refine Ak (aj (h1) Z ⟨A,Ap⟩) ?_
 refine Ak (aj (h2) Z ⟨A,Ap⟩) ?_
 refine Ak (aj (ie _ _ (by assumption) (by assumption)) Z ⟨A,A,Ap⟩) ?_
 refine av (T:=29) Z (ltN Z) (fun b3 => ?_)
 refine ao 0 Z Z Z Z Z (leN Z) Z (Ao (aa (ae (aU 6 aR X Y (Ak (ak 0 Z Z Z) (Al Z (Ak (ro Z S) (Ak (ej Z S S) ?_))))))))
 refine Ak (aj (h3) Z ⟨A,Ap⟩) ?_
 refine Ak (aj (kj _ _ (by assumption) (by assumption)) Z ⟨A,A,Ap⟩) ?_
 refine Ao (ao 1 Z Z Z Z Z (leN Z) Z (Ao (aa (aC ?_))))
 refine aJ Try.results31 (.cellB 1 Z Z Z (bm S))
theorem tn (a b c d:Int) (hc:c≠0) (ha:a4 a) (hcs:a4 c) (hb:a4 b) (hd:a4 d) (hq:a4 (a / c)) (hm:a4 (a / c*d)):Ok Try.prog 46 [dM a b,dM c d] (dM (a % c) (b - a / c*d)):=by
 unfold dM at *
 refine Ok.enter Try.func46 Z Try.ntmps46 Z (fun w O => ?_)
 refine ae (ai ?_)
 refine aO Z Z (ltN Z) (fun b2 => ?_)
 refine aO Z Z (ltN Z) (fun b3 => ?_)
 refine cg (T:=76) Z Z Z (fun b4 => ?_)
 refine Ao (aa (ae (ai (Ak (am Z) (Ak (ak 2 Z Z Z) (Ak (am Z) (Ak (ak 1 Z Z Z) ?_)))))))
 refine Ak (aj (dA _ _ (by assumption) (by assumption) (by assumption)) Z ⟨A,A,Ap⟩) ?_
 refine Al Z (Ak (an Z Z) (Ak (an Z Z) (Ak (an Z Z) ?_)))
 refine av (T:=29) Z (ltN Z) (fun b5 => ?_)
 refine av (T:=29) Z (ltN Z) (fun b6 => ?_)
 refine ao 1 Z Z Z Z Z (leN Z) Z (ao 0 Z Z Z Z Z (leN Z) Z (Am Z (Ao (aa (ae (aU 9 aR X Y (Ak (ak 0 Z Z Z) (Ak (am Z) (Ak (ak 4 Z Z Z) ?_)))))))))
 refine Ak (ak 1 Z Z Z) (Ak (am Z) (Ak (ak 3 Z Z Z) ?_))
 refine Ak (aj (ie _ _ (by assumption) (by assumption)) Z ⟨A,A,Ap⟩) ?_
 refine Ak (aj (kn _ _ (by assumption) (by assumption)) Z ⟨A,A,Ap⟩) ?_
 refine stB Z Z Z (BuildK.cons Z Z Z (BuildK.cons Z Z Z (BuildK.nil (Ao (bg 2 Z Z Z Z (Ao (aa (aC ?_))))))))
 refine aJ Try.results46 (.cellW 2 Z Z A)
end Tor
end
section
namespace Tor
open Go Go.RowKit Go.Proofs
section
variable {P:Program} {E:Env} {Γ:Ctx} {M:Mem} {d:Option Tmp} {ty:TypeId} {pos:String} {af:Array Edge} {gd:Option (Nat × Bool)}
theorem uy {T T':TypeId} {x y:Operand} {a b:Nat} (hx:aA Γ x=some (one (.int .u32 (a:Int)))) (hy:aA Γ y=some (one (.int .u32 (b:Int)))) (h:a*b<4294967296) :
  aF P E Γ M ⟨d, .binOp .mul T x y T',ty,pos,af,gd⟩ (one (.int .u32 ((a*b:Nat):Int))) :=
 pd hx hy (by
  rw [iS, ← Int.natCast_mul]
  generalize a*b=z at *
  omega)
theorem qv {L:Lay} {k m j:Nat} {c c':Array Value} {x:Value} (h:bj (.agg m) c k=some (.agg c')) (hx:bj L c' j=some x):bj L c (k+j)=some x:=by
 simp only [bj] at h
 split at h
 ·rename_i hk
  cases h
  cases L with
  | one =>
   simp only [bj] at hx ⊢
   rw [bG] at hx
   split at hx
   ·exact hx
   ·cases hx
  | agg n =>
   simp only [bj] at hx ⊢
   have hs:(c.extract k (k+m)).size=m:=by simp;omega
   rw [hs] at hx
   split at hx
   ·rename_i hj
    rw [if_pos S]
    rw [← hx]
    congr 2
    apply Array.ext_getElem?
    intro i
    rw [bG,bG,bG]
    by_cases hi:i<n
    ·rw [if_pos hi,if_pos hi,if_pos S,Nat.add_assoc]
    ·rw [if_neg hi,if_neg hi]
   ·cases hx
 ·cases h
theorem eS {T T':TypeId} {L:Lay} [LayOf P T L] {x:Operand} {b o m m':Nat} {cs cs':cb} {φ:VT} (i k j:Nat) (hx:aA Γ x=some (one (.pointer (some ⟨b,o,none⟩)))) (hM:M[i]? = some (bf b T' m cs))
  (hl:eX cs k=some (.agg m',bP m' cs')) (ho:o=k+j) (hl2:eX cs' j=some (L, φ)):aF P E Γ M ⟨d, .load T x,ty,pos,af,gd⟩ φ :=
 aF.ofRun fun a w hb hf=>by
  have h1:a.eval x = .pointer (some ⟨b,o,none⟩):=hf x _ (by simp [Op.operands]) hx
  obtain ⟨c,hc,_,_,hcs⟩:=dP hb hM
  obtain ⟨v,hx',c',rfl,hs',_,hcs'⟩:=hcs _ (dS hl)
  obtain ⟨y,hy,hp⟩:=hcs' _ (dS hl2)
  refine ⟨y,?_,hp⟩
  have h2:=qv hx' hy
  subst ho
  simp only [execOp,h1,Instr.loadAt,Instr.sureAddr,Sem.run_bind,Sem.run_pure,Result.andThen_ok,dn hc h2]
theorem jh {b:Nat} {T:TypeId} {m:Nat} {cs:cb} {φ:VT} (h:VT.le (bP m cs) φ):Own.le (bf b T m cs) (bf b T m [(0, .agg m, φ)]) :=
 ⟨rfl,fun g h' ⟨c,hb,hs,ha,hc⟩=>⟨c,hb,hs,ha,fun q hq=>by
  rw [List.mem_singleton.1 hq]
  exact ⟨.agg c,by subst hs;simp [bj],h _ _ ⟨c,rfl,hs,ha,hc⟩⟩⟩⟩
theorem nX {ops:Array Oper} {i:Nat} {os:List Oper} {K:List Deferred→Ctx→Mem→Prop} {D:List Deferred} {t1 t2 j n cap:Nat} {sv:Option Nat} {T:TypeId} {L:Lay} {φ:Nat→VT} (h1:bJ Γ t1=some (one (slV sv n cap))) (h2:bJ Γ t2=some (one (slV sv n cap))) (hM:M[j]? = some (be sv T L cap n φ))
  (h:Run P E ops false i D ((t1,slT L n φ) :: (t2,slT L n φ) :: Γ) (M.eraseIdx j) os K):Run P E ops false i D Γ M os K :=
 rd [be sv T L cap n φ] (bk j hM) (EntM.refl _) (fun s χ hs=>by
  have he:Ent [be sv T L cap n φ] (one (slV sv n cap)) (slT L n φ):=Ent.sl List.mem_cons_self
  rw [bd] at hs
  split at hs
  ·rename_i e;subst e;cases hs;exact ⟨_,h1,he⟩
  ·rw [bd] at hs
   split at hs
   ·rename_i e;subst e;cases hs;exact ⟨_,h2,he⟩
   ·exact ⟨χ,hs,Ent.refl _⟩) h
theorem iO {ops:Array Oper} {i:Nat} {os:List Oper} {K:List Deferred→Ctx→Mem→Prop} {D:List Deferred} {t:Nat} {φ ψ:VT} (ht:bJ Γ t=some φ) (hle:VT.le φ ψ) (h:Run P E ops false i D ((t, ψ) :: Γ) M os K):Run P E ops false i D Γ M os K :=
 .conv (fun a w hS=>hS.sub (fun s χ hs=>by
  rw [bd] at hs
  split at hs
  ·rename_i e;subst e;cases hs;exact ⟨φ,ht,hle⟩
  ·exact ⟨χ,hs,A⟩) (SubM.refl _)) h
end
attribute [local irreducible] J PJ aF one slT cS bP bZ exT cR eP bf be slV VT.le Ret cm
theorem me (l:List Nat) (d:Nat) (hl:aW l) (h1:l.length≤1099511627776) (hd0:0<d) (hd:d<4294967296):Ok Try.prog 78 [bC l,one (.int .u32 (d:Nat))] (bZ [kT (lv l / d),one (.int .u32 ((lv l % d:Nat):Int))]):=by
 refine Ok.enter Try.func78 Z Try.ntmps78 Z (fun w O => ?_)
 refine ae (ai (Am Z (Am Z (Ao (aa (ae (ai (Al Z (Ak (aM Z) ?_)))))))))
 refine cz l.length l.length Z Z Z Z (Nat.le_refl _) Z Z S Z Z (fun bz => ?_)
 refine Am Z (Am Z (Ao (aa (ae (ae (ai (Al Z (Ak (aM Z) (Ak (dE Z Z (aT S S)) ?_)))))))))
 refine Am Z (Ao (aa (aw (cl (Γ' := [(0,_),(1,_),(4,_),(5,_),(6,_),(7,_),(8,_)]) Ag (SubM.refl _) ?_))))
 refine bA (σ:=List Nat × Nat × Nat) (Γk := [(0,_),(1,_),(4,_),(5,_),(6,_)]) Ag (fun s => [(8,one (.int .i64 ((s.2.1:Nat) - 1:Int))),(7,one (.int .u64 (s.2.2:Nat)))]) (fun s M0=>(M0.set 0 (be (some bz) 54 .one l.length l.length (fun q=>one (.int .u32 (s.1.getD q 0:Nat)))))) (fun s=>ShortR l d s) (fun s=>s.2.1) ((List.replicate l.length 0,l.length,0)) (ShortR.start hd0) Ah (.keep (cE (fun q _=>by rw [bL]; rfl)) (.nil)) (fun s hs => ?_)
 refine bS (Γ' := [(8,_),(7,_),(0,_),(1,_),(4,_),(5,_),(6,_)]) (M' := [_]) Z Z ?_
 obtain ⟨z,n,r⟩:=s
 dsimp only at hs ⊢
 refine ae (ae (ai (Al Z (Ak (dC Z Z) (Ao (aa ?_))))))
 cases n with
 | zero =>
  obtain ⟨f1,f2⟩:=hs.finish
  have hlen:z.length=l.length:=hs.len
  have hr:r<d:=hs.r
  rw [← f1, ← f2]
  refine iX Z S (a6 (ay (ay (aI (aa (ae (ai (Al Z (Al Z ?_)))))))))
  refine Ak (bR Z) (Am Z (Am Z (Ao (aa (aC (dc (t:=4) (i:=0) Z Z ?_))))))
  refine de Try.results78 (.tmp Z (VT.le_trans (bK (m:=z.length) (ψ:=fun i=>one (.int .u32 (z.getD i 0:Nat))) hlen.symm (fun q hq=>rfl)) (fb (l:=z) hs.lim Z S))) (.tmp Z (aq (by congr 1;omega)))
 | succ n =>
  have hx:=aL hl n
  have hr:r<d:=hs.r
  have hb:=ShortR.bound hx hr hd
  have hst:=hs.step hl hd
  have hn:n<l.length:=hs.le
  have hzn:n<z.length:=by have:=hs.len;dsimp only at this;omega
  have en:((n+1:Nat):Int) - 1=(n:Nat):=by omega
  rw [en]
  refine iW Z S (au (aa (ae (aw (ae (ai (Al Z (Ak (dK (b:=4294967296) Z Z S) (Al Z ?_)))))))))
  refine Al Z (Ak (ar Z Z S) (Ak (aE Z) (Ak (bc Z S) (Ak (cL Z Z S) (Am Z (Ao (aa (ae (ai ?_)))))))))
  refine Al Z (Al Z (Al Z (Al Z (Ak (bc Z S) (Ak (gO Z Z S S) (Ak (bR Z) (Ak (co Z Z S) ?_)))))))
  (refine cy 0 Z Z Z ?_ Z ?_;omega)
  refine Ao (aa (ai (Al Z (Al Z (Ak (bc Z S) (Ak (dW _ Z Z Z S) (Am Z (Ao (aK ?_)))))))))
  refine aa (ai (Al Z (Ak (dE Z Z (aT S S)) (Am Z (Ao ?_)))))
  refine aN ((z.set n ((r*4294967296+l.getD n 0) / d),n,(r*4294967296+l.getD n 0) % d)) (hst) (by (simp only []; omega)) Ah (.keep (mT hzn (Nat.mod_eq_of_lt hb.2)) (.nil))
def qw (r d:Nat):Nat :=
 if (ax r).length=(ax d).length then max 1 ((ax r).getD ((ax r).length - 1) 0 / ((ax d).getD ((ax d).length - 1) 0+1))
 else (((ax r).getD ((ax r).length - 1) 0*4294967296+(ax r).getD ((ax r).length - 2) 0) / ((ax d).getD ((ax d).length - 1) 0+1))*4294967296^((ax r).length - (ax d).length - 1)
theorem ii {v:Nat} {n:Nat} (h:(ax v).length=n+1):v=lv ((ax v).take n)+4294967296^n*(ax v).getD n 0∧lv ((ax v).take n)<4294967296^n:=by
 have h1:=a8 (l:=ax v) (k:=n) S
 rw [List.take_of_length_le S,bh] at h1
 exact ⟨h1,by have:=gv (aG v) n;rwa [← nL] at this⟩
theorem rL {r d:Nat} (hd:d≠0) (h:d≤r):0<qw r d∧qw r d*d≤r:=by
 have hlen:=bB h
 have hdl:(ax d).length≠0:=fun k=>hd (dZ k)
 obtain ⟨m,hm⟩ : ∃ m,(ax d).length=m+1:=⟨(ax d).length - 1,by omega⟩
 obtain ⟨e,he⟩ : ∃ e,(ax r).length=m+1+e:=⟨(ax r).length - (m+1),by omega⟩
 have hdt:=aL (aG d) m
 obtain ⟨d1,d2⟩:=ii hm
 unfold qw
 rw [hm,he]
 simp only [Nat.add_sub_cancel] at *
 generalize hx:(ax d).getD m 0=x at *
 generalize lv ((ax d).take m)=dl at *
 have hdlt:d<4294967296^m*(x+1):=by rw [Nat.mul_add]; omega
 cases e with
 | zero =>
  rw [if_pos Z]
  obtain ⟨r1,r2⟩:=ii he
  simp only [Nat.add_zero,Nat.add_sub_cancel] at *
  generalize (ax r).getD m 0=y at *
  generalize lv ((ax r).take m)=rl at *
  refine ⟨by omega,?_⟩
  rcases Nat.eq_zero_or_pos (y / (x+1)) with hq | hq
  ·rw [hq]; simpa using h
  ·rw [Nat.max_eq_right hq]
   have h1:y / (x+1)*d≤y / (x+1)*(4294967296^m*(x+1)):=Nat.mul_le_mul_left _ (Nat.le_of_lt hdlt)
   have h2:y / (x+1)*(4294967296^m*(x+1))=4294967296^m*(y / (x+1)*(x+1)):=by rw [Nat.mul_left_comm]
   have h3:4294967296^m*(y / (x+1)*(x+1))≤4294967296^m*y:=Nat.mul_le_mul_left _ (Nat.div_mul_le_self _ _)
   omega
 | succ e =>
  rw [if_neg S]
  rw [show m+1+(e+1) - 1=m+e+1 by omega,show m+1+(e+1) - 2=m+e by omega,show m+1+(e+1) - (m+1) - 1=e by omega]
  obtain ⟨r1,r2⟩:=ii (show (ax r).length=(m+e+1)+1 by omega)
  have r3:=a8 (l:=ax r) (k:=m+e) S
  have hy0:(ax r).getD (m+e+1) 0≠0:=by
   intro hy
   have:=cB (n:=r) (k:=m+e+1) (by rw [hy,Nat.mul_zero,Nat.add_zero] at r1;rw [r1]; exact r2)
   omega
  generalize (ax r).getD (m+e+1) 0=y at *
  generalize (ax r).getD (m+e) 0=y2 at *
  rw [r3] at r1
  generalize lv ((ax r).take (m+e))=rl at *
  have hqp:0<(y*4294967296+y2) / (x+1):=Nat.div_pos S S
  have hle:=Nat.div_mul_le_self (y*4294967296+y2) (x+1)
  generalize (y*4294967296+y2) / (x+1)=q at *
  refine ⟨Nat.mul_pos hqp (Nat.pow_pos Y),?_⟩
  have h1:q*4294967296^e*d≤q*4294967296^e*(4294967296^m*(x+1)):=Nat.mul_le_mul_left _ (Nat.le_of_lt hdlt)
  have h2:q*4294967296^e*(4294967296^m*(x+1))=4294967296^(m+e)*(q*(x+1)):=by
   rw [Nat.pow_add]; ac_rfl
  have h3:4294967296^(m+e)*(q*(x+1))≤4294967296^(m+e)*(y*4294967296+y2):=Nat.mul_le_mul_left _ hle
  have h4:4294967296^(m+e+1)*y=4294967296^(m+e)*(y*4294967296):=by rw [Nat.pow_succ]; ac_rfl
  rw [Nat.mul_add (4294967296^(m+e)) (y*4294967296) y2] at h3
  rw [h4] at r1
  rw [h2] at h1
  generalize 4294967296^(m+e)*(y*4294967296)=z1 at *
  generalize 4294967296^(m+e)*y2=z2 at *
  refine Nat.le_trans h1 (Nat.le_trans h3 ?_)
  rw [r1]
  exact Nat.le_trans (Nat.add_comm z1 z2▸Nat.le_refl _) (Nat.add_le_add_right (Nat.le_add_left _ _) _)
end Tor
end
section
namespace Tor
open Go Go.RowKit Go.Proofs
theorem tp (a b:Nat):VT.le (slT .one 2 (fun q => [one (.int .u32 (b:Int)),one (.int .u32 (a:Int))].reverse.getD q cm)) (slT .one 2 (fun q=>one (.int .u32 (([a,b].getD q 0:Nat):Int)))) :=
 bK Z (fun q hq=>by
  match q,hq with
  | 0, _ => rfl
  | 1, _ => rfl)
theorem uz {k q:Nat} (hq:q<18446744073709551616) (hk:k≤1099511627776):VT.le (slT .one (k+2) (fun p=>if p<k then one (.int .u32 0) else (fun j=>one (.int .u32 (([q % 4294967296,q / 4294967296 % 4294967296].getD j 0:Nat):Int))) (p - k))) (kT (q*4294967296^k)) :=
 VT.le_trans (bK (m:=(List.replicate k 0 ++ [q % 4294967296,q / 4294967296 % 4294967296]).length) (ψ:=ep (List.replicate k 0 ++ [q % 4294967296,q / 4294967296 % 4294967296])) (by simp) (fun p hp=>by
  unfold ep
  by_cases h:p<k
  ·rw [if_pos h]; simp [List.getD,List.getElem?_append,h]
  ·rw [if_neg h]; simp only [List.getD,List.getElem?_append,List.length_replicate,if_neg h])) (fb (fun d hd=>by
   rcases List.mem_append.1 hd with h | h
   ·rw [(List.mem_replicate.1 h).2]; decide
   ·rcases List.mem_cons.1 h with rfl | h
    ·exact Nat.mod_lt _ Y
    ·rw [List.mem_singleton.1 h]; exact Nat.mod_lt _ Y) (by
   rw [eF,cV,List.length_replicate,Nat.zero_add,Nat.mul_comm]
   congr 1
   simp only [lv]
   omega) (by simp;omega))
attribute [local irreducible] J PJ aF one slT cS bP bZ exT cR eP bf be slV VT.le Ret cm
theorem nY (r d:Nat) (hd:d≠0) (h:d≤r) (hl:(ax r).length≤1099511627776):Ok Try.prog 79 [bC (ax r),bC (ax d)] (aS ((qw r d:Nat):Int)):=by
 have hlen:=bB h
 have hdl:(ax d).length≠0:=fun k=>hd (dZ k)
 have hx:=aL (aG d) ((ax d).length - 1)
 have hy:=aL (aG r) ((ax r).length - 1)
 have hz:=aL (aG r) ((ax r).length - 2)
 unfold qw
 refine Ok.enter Try.func79 Z Try.ntmps79 Z (fun w O => ?_)
 by_cases hk:(ax r).length=(ax d).length
 ·rw [if_pos hk]
  refine ae (ai ?_)
  refine av (T:=29) Z (ltN Z) (fun b4 => ?_)
  refine Ao (aa (ae (aU 17 aR X Y (Al Z (Ak (aM Z) (Al Z (Ak (aM Z) (Ak (cM _ _ Z Z S S) (Al Z ?_)))))))))
  refine Ak (aM Z) (Al Z (Al Z (Ak (aM Z) (Ak (cM _ 1 Z Z S S) (Ak (ar Z Z S) (Ak (aE Z) (Ak (bc Z S) (Ak (cL (b:=1) Z Z S) (Am Z ?_)))))))))
  refine Am Z (Ao (Am Z (Ao (aa (ae (ae (ai (Al Z (Ak (sT S (bW Z Z)) ?_)))))))))
  refine Ao (aa (aB Z (ae (ai (Al Z (Al Z (Ak (cM _ 1 Z Z S S) (Ak (ar Z Z S) (Ak (aE Z) ?_)))))))))
  refine Ak (bc Z S) (Al Z (Ak (gO Z Z S S) (Ak (tT Z Z) ?_)))
  have hq:=Nat.div_le_self ((ax r).getD ((ax r).length - 1) 0) ((ax d).getD ((ax d).length - 1) 0+1)
  generalize (ax r).getD ((ax r).length - 1) 0 / ((ax d).getD ((ax d).length - 1) 0+1)=q at *
  refine Ak (ej Z S S) ?_
  refine Ak (aj (di _ S S) Z ⟨A,Ap⟩) ?_
  refine ao 0 Z Z Z Z Z (leN Z) Z (Ao (aa (aC (aD ?_))))
  refine aJ Try.results79 (.cellB 0 Z Z Z (bm S))
 ·rw [if_neg hk]
  refine ae (ai ?_)
  refine av (T:=29) Z (ltN Z) (fun b4 => ?_)
  refine Ao (aa (ae (aU 17 aR X Y (Al Z (Ak (aM Z) (Al Z (Ak (aM Z) (Ak (cM _ _ Z Z S S) (Al Z ?_)))))))))
  refine Ak (aM Z) (Al Z (Al Z (Ak (aM Z) (Ak (cM _ 1 Z Z S S) (Ak (ar Z Z S) (Ak (aE Z) (Ak (bc Z S) (Ak (cL (b:=1) Z Z S) (Am Z ?_)))))))))
  refine Am Z (Ao (Am Z (Ao (aa (ae (ae (ai (Al Z (Ak (sF S (bW Z Z)) ?_)))))))))
  refine Ao (aa (az Z (au (aa (ae (aU 16 aR X Y (Al Z (Al Z (Ak (cM _ 1 Z Z S S) ?_)))))))))
  refine Ak (ar Z Z S) (Ak (aE Z) (Ak (bc Z S) (Ak (dK (b:=4294967296) Z Z S) (Al Z (Al Z (Ak (cM _ 2 Z Z S S) (Ak (ar Z Z S) (Ak (aE Z) (Ak (bc Z S) ?_)))))))))
  refine Ak (cL Z Z S) (Al Z (Ak (gO Z Z S S) (Ao (Am Z (Ao (aa (ae (ai (Al Z ?_)))))))))
  refine Ak (cM _ 1 Z Z S S) ?_
  have hq:=Nat.div_le_self ((ax r).getD ((ax r).length - 1) 0*4294967296+(ax r).getD ((ax r).length - 2) 0) ((ax d).getD ((ax d).length - 1) 0+1)
  generalize ((ax r).getD ((ax r).length - 1) 0*4294967296+(ax r).getD ((ax r).length - 2) 0) / ((ax d).getD ((ax d).length - 1) 0+1)=q at *
  obtain ⟨k,hkk⟩ : ∃ k,k=(ax r).length - (ax d).length - 1:=⟨_,rfl⟩
  rw [← hkk]
  refine cz k k Z Z Z Z (Nat.le_refl _) Z Z S Z Z (fun bz => ?_)
  refine Am Z (Ao (aa (ae (ai (Al Z (Al Z (Ak (bR Z) (Al Z (Ak (ei Z) ?_)))))))))
  refine Ak (bR Z) (stS Z Z Z Z (PartsK.cons Z (PartsK.cons Z (PartsK.nil (iO (t:=63) Z (tp _ _) ?_)))))
  (refine eg 0 Z Z Z (leN Z) ?_ ?_ Z (ltN Z) (fun sv64 cap64 => ?_);omega;omega)
  refine fk (t:=64) (j:=0) Z Z ?_
  have hq64:q<18446744073709551616:=by omega
  have hmd:=cp false (q*4294967296^k)
  rw [if_neg Y] at hmd
  refine Ak (aj (hmd) Z ⟨(uz hq64 S),A,Ap⟩) ?_
  refine ao 0 Z Z Z Z Z (leN Z) Z (Ao (aa (aC ?_)))
  refine aJ Try.results79 (.cellB 0 Z Z Z (bm (by rw [hkk])))
theorem nZ {d:Nat} (hd:d<4294967296):VT.le (slT .one 1 fun _=>one (.int .u32 (d:Int))) (kT d) :=
 VT.le_trans (bK (m := [d].length) (ψ:=ep [d]) Z (fun q hq=>by
  have hq:q=0:=by omega
  subst hq;rfl)) (fb (fun x hx=>by rw [List.mem_singleton.1 hx]; exact hd) (by simp [lv]) (by simp))
theorem rM {b:Nat} (hb:b≠0):0<(ax b).getD ((ax b).length - 1) 0:=by
 have hdl:(ax b).length≠0:=fun k=>hb (dZ k)
 obtain ⟨m,hm⟩ : ∃ m,(ax b).length=m+1:=⟨(ax b).length - 1,by omega⟩
 obtain ⟨d1,d2⟩:=ii hm
 rw [hm,Nat.add_sub_cancel]
 rcases Nat.eq_zero_or_pos ((ax b).getD m 0) with h | h
 ·rw [h,Nat.mul_zero,Nat.add_zero] at d1
  have:=cB (n:=b) (k:=m) (by rw [d1]; exact d2)
  omega
 ·exact h
theorem ld {a s:Nat} (hs:s<4294967296):(ax (a*s)).length≤(ax a).length+1:=cB (by
 rw [Nat.pow_succ]
 have h1:=cC a
 rcases Nat.eq_zero_or_pos s with h | h
 ·subst h;rw [Nat.mul_zero]; exact Nat.mul_pos (Nat.pow_pos Y) Y
 ·exact Nat.mul_lt_mul'' h1 hs)
theorem uA {a b s q r:Nat} (hs:0<s) (hb:0<b) (h:q*(b*s)+r=a*s) (hr:r<b*s):q=a / b∧r / s=a % b:=by
 have h1:(a*s) / (b*s)=q:=by rw [← h,Nat.mul_comm q,Nat.mul_add_div S,Nat.div_eq_of_lt hr,Nat.add_zero]
 have h2:(a*s) % (b*s)=r:=by rw [← h,Nat.mul_comm q,Nat.mul_add_mod,Nat.mod_eq_of_lt hr]
 rw [Nat.mul_div_mul_right _ _ hs] at h1
 rw [Nat.mul_mod_mul_right] at h2
 exact ⟨h1.symm,by rw [← h2,Nat.mul_div_cancel _ hs]⟩
theorem oQ (a b:Nat) (hb:b≠0) (ha:(ax a).length≤1099511627700) (hbl:(ax b).length≤1099511627700):Ok Try.prog 65 [bC (ax a),bC (ax b)] (bZ [aS ((a / b:Nat):Int),aS ((a % b:Nat):Int)]):=by
 have hbp:0<b:=by omega
 have hdl:(ax b).length≠0:=fun k=>hb (dZ k)
 refine Ok.enter Try.func65 Z Try.ntmps65 Z (fun w O => ?_)
 by_cases h1:(ax b).length=1
 ·have hb1:=nO h1
  have hd:=aL (aG b) 0
  have hsh:=me (ax a) b (aG a) S S S
  rw [bh] at hsh
  have hr:=Nat.mod_lt a hbp
  have hm1:=cp false (a / b)
  have hm2:=cp false (a % b)
  rw [if_neg Y] at hm1 hm2
  refine ae (ai ?_)
  refine av (T:=29) Z (ltN Z) (fun b4 => ?_)
  refine av (T:=29) Z (ltN Z) (fun b5 => ?_)
  refine Ao (aa (ae (ae (ai (Al Z (Ak (aM Z) (Ak (sT S (bW Z Z)) (Ao (aa ?_)))))))))
  refine aB Z (ae (ai (Al Z (Al Z (Ak (gI Z Z S S) (Ak (aE Z) ?_))))))
  refine Ak (aj (hsh) Z ⟨A,(aq (by rw [show (ax b).getD (Int.toNat 0) 0=b from hb1])),Ap⟩) ?_
  refine Al Z (Ak (an Z Z) (Ak (an Z Z) (Am Z (Am Z (Ao (aa (ae (ai (Al Z ?_)))))))))
  refine Ak (aj (hm1) Z ⟨A,A,Ap⟩) ?_
  refine Al Z (kb Z Z Z Z ?_)
  refine Ak (aj (hm2) Z ⟨(nZ S),A,Ap⟩) ?_
  refine ao 1 Z Z Z Z Z (leN Z) Z (ao 0 Z Z Z Z Z (leN Z) Z (Ao (aa (aC (aD ?_)))))
  refine de Try.results65 (.cellB 1 Z Z Z A) (.cellB 0 Z Z Z A)
 ·have hx:=aL (aG b) ((ax b).length - 1)
  have hx0:=rM hb
  refine ae (ai ?_)
  refine av (T:=29) Z (ltN Z) (fun b4 => ?_)
  refine av (T:=29) Z (ltN Z) (fun b5 => ?_)
  refine Ao (aa (ae (ae (ai (Al Z (Ak (aM Z) (Ak (sF S (bW Z Z)) (Ao (aa ?_)))))))))
  refine az Z (au (aa (ae (ai (Am Z (Ao (aa (ae (aw ?_)))))))))
  refine cl (Γ' := [(0,_),(1,_),(4,_),(5,_),(8,_)]) Ag (SubM.refl _) ?_
  refine bA (σ:=Nat) (Γk := [(0,_),(1,_),(4,_),(5,_)]) Ag (fun s => [(8,one (.int .u32 (s:Nat)))]) (fun s M0=>M0) (fun s=>0<s∧s<4294967296) (fun s=>4294967296 - s) (1) (⟨by decide,by decide⟩) Ah (.keep Aj (.keep Aj (.nil))) (fun s hs => ?_)
  refine bS (Γ' := [(8,_),(0,_),(1,_),(4,_),(5,_)]) (M' := [_,_]) Z Z ?_
  obtain ⟨s0,s1⟩:=hs
  have hb1:=Nat.mul_le_mul (show (ax b).getD ((ax b).length - 1) 0≤4294967295 by omega) (show s≤4294967295 by omega)
  have hb2:=Nat.mul_le_mul_right s hx0
  by_cases hc:(ax b).getD ((ax b).length - 1) 0*s<2147483648
  ·refine ae (ae (ai (Al Z (Al Z (Ak (aM Z) (Ak (cM _ 1 Z Z S S) (Ak (ar Z Z S) (Ak (aE Z) (Ak (bc Z S) ?_)))))))))
   refine Al Z (Ak (bc Z S) (Ak (dK Z Z S) (Ak (sT S (bp Z Z)) (Ao (aa (aB Z (au (aa (aw ?_)))))))))
   refine ai (Al Z (Ak (uy (a:=2) Z Z S) (Am Z (Ao (aK ?_)))))
   refine aN (2*s) (⟨by omega,by omega⟩) S Ah (.keep Aj (.keep Aj (.nil)))
  ·have hma:=cp false a
   have hmb:=cp false b
   have hms:=cp false s
   rw [if_neg Y] at hma hmb hms
   have la:=ld (a:=a) s1
   have lb:=ld (a:=b) s1
   have ls:a4 ((s:Nat):Int):=cD (by rw [Int.natAbs_natCast]; exact Nat.lt_trans s1 F)
   have hMa:=eQ (a:Int) (s:Int) (show (ax a).length≤_ by omega) ls
   have hMb:=eQ (b:Int) (s:Int) (show (ax b).length≤_ by omega) ls
   rw [← Int.natCast_mul] at hMa hMb
   refine ae (ae (ai (Al Z (Al Z (Ak (aM Z) (Ak (cM _ 1 Z Z S S) (Ak (ar Z Z S) (Ak (aE Z) (Ak (bc Z S) ?_)))))))))
   refine Al Z (Ak (bc Z S) (Ak (dK Z Z S) (Ak (sF S (bp Z Z)) (Ao (aa (az Z (a6 (ay (ay ?_)))))))))
   refine aI (aa (ae (ai (Al Z (kb Z Z Z Z ?_)))))
   refine Ak (aj (hms) Z ⟨(nZ s1),A,Ap⟩) ?_
   refine av (T:=29) Z (ltN Z) (fun b9 => ?_)
   refine ao 0 Z Z Z Z Z (leN Z) Z (Ao (aa (ae ?_)))
   refine fa aR X X ?_
   refine ux (fun B=>ab Z) Z Z ?_
   refine uxk (hma) Z ⟨(cd S),A,Ap⟩ Z ?_
   refine ux (fun B=>ak 0 Z Z Z) Z Z ?_
   refine uxk (hMa) Z ⟨A,A,Ap⟩ Z ?_
   refine ux (fun B=>ab Z) Z Z ?_
   refine uxk (hmb) Z ⟨(cd S),A,Ap⟩ Z ?_
   refine ux (fun B=>ak 0 Z Z Z) Z Z ?_
   refine uxk (hMb) Z ⟨A,A,Ap⟩ Z ?_
   refine uB Z Z Z (BuildK.nil (ua Z (ua Z (ua Z (us Z (us Z (us Z ?_)))))))
   refine RunU.nil (fun γ => ?_)
   refine cw (M' := [_,_,_,_,_,_]) Z (ky (gK.refl _) (.keep f6 (.keep Aj (.keep Aj (SubM.refl _)))) (aa (ae (aw ?_))))
   have hbs:0<b*s:=Nat.mul_pos hbp s0
   refine cl (Γ' := [(4,_),(5,_),(8,_),(10,_),(11,_),(12,_)]) Ag (SubM.refl _) ?_
   refine bA (σ:=Nat × Nat) (Γk := [(4,_),(5,_),(8,_),(10,_),(11,_),(12,_)]) Ag (fun p => []) (fun p M0=>((M0.set 0 (bf (γ 12) 29 (Lay.agg 2).sz [(0,Lay.agg 2,aS (p.1:Int))])).set 2 (bf (γ 10) 29 (Lay.agg 2).sz [(0,Lay.agg 2,aS (p.2:Int))]))) (fun p=>p.1*(b*s)+p.2=a*s) (fun p=>p.2) ((0,a*s)) ((by simp)) Ah (.keep (jh dz) (.keep Aj (.keep Aj (.keep Aj (.keep Aj (.keep Aj (.nil))))))) (fun p hp => ?_)
   refine bS (Γ' := [(4,_),(5,_),(8,_),(10,_),(11,_),(12,_)]) (M' := [_,_,_,_,_,_]) Z Z ?_
   obtain ⟨q,r⟩:=p
   dsimp only at hp ⊢
   have hle:=ja r (b*s)
   by_cases hr:r<b*s
   ·obtain ⟨f1,f2⟩:=uA s0 hbp hp hr
    have lr:(ax r).length≤1099511627776:=by
     have:=bB (show r≤a*s by omega)
     omega
    have hsh:=me (ax r) s (aG r) lr s0 s1
    rw [bh,f2] at hsh
    have hm2:=cp false (a % b)
    rw [if_neg Y] at hm2
    refine ae (ae (ai (Ak (am Z) (Ak (eS 2 0 1 Z Z Z Z Z) (Ak (am Z) (Ak (eS 1 0 1 Z Z Z Z Z) ?_))))))
    refine Ak (sT (by assumption) (aj (hle) Z ⟨A,A,Ap⟩)) ?_
    refine Ak (cv Z) (Ao (aa (az Z (a6 (ay (ay (aI (aa (ae ?_)))))))))
    refine ai (Ak (am Z) (Ak (eS 2 0 1 Z Z Z Z Z) (Al Z ?_)))
    refine Ak (aj (hsh) Z ⟨A,A,Ap⟩) ?_
    refine Al Z (Ak (an Z Z) (Ak (an Z Z) (Am Z (Am Z (Ao (aa (ae (ek 3 aR X Y (Ak (ak 0 Z Z Z) ?_)))))))))
    refine Al Z ?_
    refine Ak (aj (hm2) Z ⟨A,A,Ap⟩) ?_
    refine Ao (ao 5 Z Z Z Z Z (leN Z) Z (ao 4 Z Z Z Z Z (leN Z) Z (Ao (aa (aC ?_)))))
    refine de Try.results65 (.cellB 5 Z Z Z (bm (by rw [f1]))) (.cellB 4 Z Z Z A)
   ·have lr:(ax r).length≤1099511627776:=by
     have:=bB (show r≤a*s by omega)
     omega
    obtain ⟨e0,e1⟩:=rL (show b*s≠0 by omega) (Nat.le_of_not_lt hr)
    have hes:=nY r (b*s) S (Nat.le_of_not_lt hr) lr
    generalize qw r (b*s)=e at *
    have hq0:q≤q*(b*s):=Nat.le_mul_of_pos_right _ hbs
    have he0:e≤e*(b*s):=Nat.le_mul_of_pos_right _ hbs
    have le0:a4 (e:Int):=Nat.le_trans (bB (show (e:Int).natAbs≤r by omega)) lr
    have lq0:a4 (q:Int):=Nat.le_trans (bB (show (q:Int).natAbs≤a*s by omega)) S
    have lbs:a4 ((b*s:Nat):Int):=Nat.le_trans (bB (show ((b*s:Nat):Int).natAbs≤b*s by omega)) S
    have lrs:a4 (r:Int):=Nat.le_trans (bB (show (r:Int).natAbs≤r by omega)) lr
    have les:a4 ((e*(b*s):Nat):Int):=Nat.le_trans (bB (show ((e*(b*s):Nat):Int).natAbs≤r by omega)) lr
    have hmu:=eQ (e:Int) ((b*s:Nat):Int) le0 lbs
    rw [← Int.natCast_mul] at hmu
    have hsu:=fz (r:Int) ((e*(b*s):Nat):Int) lrs les
    rw [← Int.ofNat_sub e1] at hsu
    have had:=gU (q:Int) (e:Int) lq0 le0
    rw [← Int.natCast_add] at had
    refine ae (ae (ai (Ak (am Z) (Ak (eS 2 0 1 Z Z Z Z Z) (Ak (am Z) (Ak (eS 1 0 1 Z Z Z Z Z) ?_))))))
    refine Ak (sF (by assumption) (aj (hle) Z ⟨A,A,Ap⟩)) ?_
    refine Ak (cv Z) (Ao (aa (aB Z (au (aa (aw (ae (ai (Ak (am Z) ?_)))))))))
    refine Ak (eS 2 0 1 Z Z Z Z Z) (Ak (am Z) (Ak (eS 1 0 1 Z Z Z Z Z) ?_))
    refine Ak (aj (hes) Z ⟨A,A,Ap⟩) ?_
    refine av (T:=29) Z (ltN Z) (fun b13 => ?_)
    refine ao 0 Z Z Z Z Z (leN Z) Z (Ao (aa (ae (ai (Ak (ak 1 Z Z Z) (Ak (ak 0 Z Z Z) ?_))))))
    refine Ak (aj (had) Z ⟨A,A,Ap⟩) ?_
    refine ao 1 Z Z Z Z Z (leN Z) Z (Ao (aa (aU 5 aR X Y (Ak (ak 3 Z Z Z) (Ak (ak 0 Z Z Z) (Ak (ak 2 Z Z Z) ?_))))))
    refine Ak (aj (hmu) Z ⟨A,A,Ap⟩) ?_
    refine Ak (aj (hsu) Z ⟨A,A,Ap⟩) ?_
    refine Ao (ao 3 Z Z Z Z Z (leN Z) Z (Ao (aK ?_)))
    refine aN ((q+e,r - e*(b*s))) ((by dsimp only;rw [Nat.add_mul]; omega)) S Ah (.drop (.keep Aj (.keep Aj (.keep Aj (.keep Aj (.keep Aj (.keep Aj (.nil))))))))
end Tor
end
section
namespace Tor
open Go Go.RowKit Go.Proofs
def bU (x:Int):Prop:=(ax x.natAbs).length≤1099511627700
theorem ff {x:Int} (h:x.natAbs<2^2048):bU x:=by
 have:(ax x.natAbs).length≤64:=cB (Nat.lt_of_lt_of_le h F)
 unfold bU;omega
theorem bU.small {x:Int} (h:bU x):a4 x:=by unfold bU at h;unfold Tor.a4;omega
theorem eH {x y:Int} (h:bU y) (hl:x.natAbs≤y.natAbs):bU x:=Nat.le_trans (bB hl) h
theorem bE {x y:Int} (h:a4 y) (hl:x.natAbs≤y.natAbs):a4 x:=Nat.le_trans (bB hl) h
theorem lN (n:Nat):(ax (n+1)).length≤(ax n).length+1:=cB (by
 have h:=cC n
 rw [Nat.pow_succ]
 have h0:0<4294967296^(ax n).length:=Nat.pow_pos Y
 generalize 4294967296^(ax n).length=z at *
 omega)
theorem rN (x y:Int):Nat.gcd y.natAbs (x % y).natAbs=Nat.gcd x.natAbs y.natAbs:=by
 have h:Int.gcd y (x % y)=Int.gcd y x:=by rw [Int.emod_def]; exact Int.gcd_sub_mul_left_right y x (x / y)
 rw [Nat.gcd_comm x.natAbs]; exact h
theorem n6 (x:Int) {y:Int} (hy:y≠0):(x % y).natAbs<y.natAbs:=by
 have h1:=Int.emod_nonneg x hy
 have h2:=Int.emod_lt x hy
 omega
attribute [local irreducible] J PJ aF one slT cS bP bZ exT cR eP bf be slV VT.le Ret cm
theorem mf (x:Int):Ok Try.prog 19 [kT x.natAbs,one (.bool (decide (x<0)))] (aS x):=by
 have h:=cp (decide (x<0)) x.natAbs
 have e:(if decide (x<0)=true then -(x.natAbs:Int) else (x.natAbs:Int))=x:=by
  by_cases hx:x<0
  ·rw [if_pos (by simpa using hx)]; omega
  ·rw [if_neg (by simpa using hx)]; omega
 rw [e] at h
 exact h
set_option maxRecDepth 20000 in
theorem dN (a b:Int) (hb:b≠0) (ha:bU a) (hbs:bU b):Ok Try.prog 35 [aS a,aS b] (bZ [aS (a / b),aS (a % b),one (.int .i64 0)]):=by
 obtain ⟨g1,g2,g3⟩:=pC (a:=a) hb
 have hB:b.natAbs≠0:=by omega
 have ha':(ax a.natAbs).length≤1099511627700:=ha
 have hb':(ax b.natAbs).length≤1099511627700:=hbs
 have hdiv:=oQ a.natAbs b.natAbs hB ha' hb'
 have hlt:=Nat.mod_lt a.natAbs (Nat.pos_of_ne_zero hB)
 have hql:=Nat.div_le_self a.natAbs b.natAbs
 have hma:=mf a
 have hmb:=mf b
 have hsb:cH b≠0:=by unfold cH;rw [if_neg hb]; split <;> decide
 have hmb2:=cp false b.natAbs
 rw [if_neg Y] at hmb2
 have hsg:=cJ ((a.natAbs % b.natAbs:Nat):Int)
 have hof:=di 1 Y Y
 have sq:a4 ((a.natAbs / b.natAbs:Nat):Int):=bE ha.small (by rw [Int.natAbs_natCast]; exact hql)
 have s1:a4 1:=cD F
 have had:=gU ((a.natAbs / b.natAbs:Nat):Int) 1 sq s1
 have hsu:=fz (b.natAbs:Int) ((a.natAbs % b.natAbs:Nat):Int) (bE hbs.small S) (bE hbs.small (by rw [Int.natAbs_natCast]; exact Nat.le_of_lt hlt))
 have hsu2:=fz b ((a.natAbs % b.natAbs:Nat):Int) hbs.small (bE hbs.small (by rw [Int.natAbs_natCast]; exact Nat.le_of_lt hlt))
 have hn1:=gV ((a.natAbs / b.natAbs:Nat):Int) sq
 have sq1:a4 (((a.natAbs / b.natAbs:Nat):Int)+1):=by
  have h1:=lN (a.natAbs / b.natAbs)
  have h2:=bB hql
  have e:(((a.natAbs / b.natAbs:Nat):Int)+1).natAbs=a.natAbs / b.natAbs+1:=by generalize a.natAbs / b.natAbs=z;omega
  unfold Tor.a4
  rw [e]
  omega
 have hn2:=gV (((a.natAbs / b.natAbs:Nat):Int)+1) sq1
 refine Ok.enter Try.func35 Z Try.ntmps35 Z (fun w O => ?_)
 by_cases hn:a<0
 ·by_cases hr:a.natAbs % b.natAbs=0
  ·obtain ⟨k1,k2⟩:=g2 hn hr
   have hs0:cH ((a.natAbs % b.natAbs:Nat):Int)=0:=by rw [hr]; rfl
   by_cases hm:b<0
   ·rw [if_pos hm] at k1
    refine ae (ai ?_)
    refine aO Z Z (ltN Z) (fun b2 => ?_)
    refine aO Z Z (ltN Z) (fun b3 => ?_)
    refine av (T:=29) Z (ltN Z) (fun b4 => ?_)
    refine av (T:=29) Z (ltN Z) (fun b5 => ?_)
    refine Am Z (Ao (aa (ae (ek 9 aR X Y (Ak (am Z) (Ak (ak 3 Z Z Z) (Ak (am Z) (Ak (sT (by assumption) (ak 3 Z Z Z)) ?_))))))))
    refine Ak (aj (hma) Z ⟨(cd S),(aq (by rw [decide_eq_true hn])),Ap⟩) ?_
    refine Ak (am Z) (Ak (ak 2 Z Z Z) (Ak (am Z) (Ak (sT (by assumption) (ak 2 Z Z Z)) (Ao ?_))))
    refine Ak (aj (hmb) Z ⟨(cd S),(aq (by rw [decide_eq_true hm])),Ap⟩) ?_
    refine bg 3 Z Z Z Z (bg 2 Z Z Z Z (Ao (aa (ae (ae (ai (Ak (aP 2 Z Z) ?_)))))))
    refine Ak (aj (cJ _) Z ⟨A,Ap⟩) ?_
    refine Ak (sF (by assumption) (bW Z Z)) (Ao (aa (az Z (au (aa (ae (ai (Ak (am Z) (Ak (ak 3 Z Z Z) ?_)))))))))
    refine Ak (am Z) (Ak (ak 2 Z Z Z) ?_)
    refine Ak (aj (hdiv) Z ⟨A,A,Ap⟩) ?_
    refine Al Z (Ak (an Z Z) (Ak (an Z Z) ?_))
    refine av (T:=29) Z (ltN Z) (fun b7 => ?_)
    refine av (T:=29) Z (ltN Z) (fun b8 => ?_)
    refine ao 1 Z Z Z Z Z (leN Z) Z (ao 0 Z Z Z Z Z (leN Z) Z (Ao (aa (ae (ae (ai (Ak (am Z) (Ak (sT (by assumption) (ak 5 Z Z Z)) (Al Z ?_)))))))))
    refine An (ak 0 Z Z Z) ?_
    refine An (aj (hsg) Z ⟨A,Ap⟩) ?_
    refine An (sF S (cT Z Z)) (Ak (a9 Z Z) (Ao (aa (az Z (au (aa (ae (ae (ai ?_)))))))))
    refine Ak (am Z) (Ak (sT (by assumption) (ak 5 Z Z Z)) (Ak (am Z) (Ak (sT (by assumption) (ak 4 Z Z Z)) (Ak (fj Z Z) (Ao (aa (az Z (au (aa ?_)))))))))
    refine ae ?_
    refine gq [⟨5,b5,29,Lay.agg 2⟩,⟨4,b4,29,Lay.agg 2⟩] [_,_] [_,_,_,_] aR X Z ((bk 2 Z).trans (.cons _ ((bk 2 Z).trans (.cons _ (List.Perm.refl _))))) Z (And.intro Z (And.intro Z (trivial))) ?_
    refine ux (fun B=>ak 1 Z Z Z) Z Z ?_
    refine ux (fun B=>ak 0 Z Z Z) Z Z ?_
    refine us Z (us Z ?_)
    refine ux (fun B=>ah Z) Z Z ?_
    refine RunU.nil ⟨And.intro Z (And.intro Z (And.intro Z (And.intro Z (trivial)))),?_⟩
    refine cw (M' := [_,_,_,_,_,_]) Z (aa (aC ?_))
    refine it Try.results35 (.cellB 1 Z Z Z (bm (by rw [k1]))) (.cellB 0 Z Z Z (bm (by rw [k2,hr]; rfl))) (.tmp Z A)
   ·rw [if_neg hm] at k1
    refine ae (ai ?_)
    refine aO Z Z (ltN Z) (fun b2 => ?_)
    refine aO Z Z (ltN Z) (fun b3 => ?_)
    refine av (T:=29) Z (ltN Z) (fun b4 => ?_)
    refine av (T:=29) Z (ltN Z) (fun b5 => ?_)
    refine Am Z (Ao (aa (ae (ek 9 aR X Y (Ak (am Z) (Ak (ak 3 Z Z Z) (Ak (am Z) (Ak (sT (by assumption) (ak 3 Z Z Z)) ?_))))))))
    refine Ak (aj (hma) Z ⟨(cd S),(aq (by rw [decide_eq_true hn])),Ap⟩) ?_
    refine Ak (am Z) (Ak (ak 2 Z Z Z) (Ak (am Z) (Ak (sF (by assumption) (ak 2 Z Z Z)) (Ao ?_))))
    refine Ak (aj (hmb) Z ⟨(cd S),(aq (by rw [decide_eq_false hm])),Ap⟩) ?_
    refine bg 3 Z Z Z Z (bg 2 Z Z Z Z (Ao (aa (ae (ae (ai (Ak (aP 2 Z Z) ?_)))))))
    refine Ak (aj (cJ _) Z ⟨A,Ap⟩) ?_
    refine Ak (sF (by assumption) (bW Z Z)) (Ao (aa (az Z (au (aa (ae (ai (Ak (am Z) (Ak (ak 3 Z Z Z) ?_)))))))))
    refine Ak (am Z) (Ak (ak 2 Z Z Z) ?_)
    refine Ak (aj (hdiv) Z ⟨A,A,Ap⟩) ?_
    refine Al Z (Ak (an Z Z) (Ak (an Z Z) ?_))
    refine av (T:=29) Z (ltN Z) (fun b7 => ?_)
    refine av (T:=29) Z (ltN Z) (fun b8 => ?_)
    refine ao 1 Z Z Z Z Z (leN Z) Z (ao 0 Z Z Z Z Z (leN Z) Z (Ao (aa (ae (ae (ai (Ak (am Z) (Ak (sT (by assumption) (ak 5 Z Z Z)) (Al Z ?_)))))))))
    refine An (ak 0 Z Z Z) ?_
    refine An (aj (hsg) Z ⟨A,Ap⟩) ?_
    refine An (sF S (cT Z Z)) (Ak (a9 Z Z) (Ao (aa (az Z (au (aa (ae (ae (ai ?_)))))))))
    refine Ak (am Z) (Ak (sT (by assumption) (ak 5 Z Z Z)) (Ak (am Z) (Ak (sF (by assumption) (ak 4 Z Z Z)) (Ak (fj Z Z) (Ao (aa (aB Z (ai (Ak (ak 1 Z Z Z) ?_)))))))))
    refine Ak (aj (hn1) Z ⟨A,Ap⟩) ?_
    refine ao 1 Z Z Z Z Z (leN Z) Z (Ao (aa (ae ?_)))
    refine gq [⟨5,b5,29,Lay.agg 2⟩,⟨4,b4,29,Lay.agg 2⟩] [_,_] [_,_,_,_] aR X Z ((bk 2 Z).trans (.cons _ ((bk 2 Z).trans (.cons _ (List.Perm.refl _))))) Z (And.intro Z (And.intro Z (trivial))) ?_
    refine ux (fun B=>ak 1 Z Z Z) Z Z ?_
    refine ux (fun B=>ak 0 Z Z Z) Z Z ?_
    refine us Z (us Z ?_)
    refine ux (fun B=>ah Z) Z Z ?_
    refine RunU.nil ⟨And.intro Z (And.intro Z (And.intro Z (And.intro Z (trivial)))),?_⟩
    refine cw (M' := [_,_,_,_,_,_]) Z (aa (aC ?_))
    refine it Try.results35 (.cellB 1 Z Z Z (bm (by rw [k1]))) (.cellB 0 Z Z Z (bm (by rw [k2,hr]; rfl))) (.tmp Z A)
  ·obtain ⟨k1,k2⟩:=g3 hn hr
   have hs0:cH ((a.natAbs % b.natAbs:Nat):Int)=1:=by unfold cH;rw [if_neg S,if_neg S]
   by_cases hm:b<0
   ·rw [if_pos hm] at k1
    refine ae (ai ?_)
    refine aO Z Z (ltN Z) (fun b2 => ?_)
    refine aO Z Z (ltN Z) (fun b3 => ?_)
    refine av (T:=29) Z (ltN Z) (fun b4 => ?_)
    refine av (T:=29) Z (ltN Z) (fun b5 => ?_)
    refine Am Z (Ao (aa (ae (ek 9 aR X Y (Ak (am Z) (Ak (ak 3 Z Z Z) (Ak (am Z) (Ak (sT (by assumption) (ak 3 Z Z Z)) ?_))))))))
    refine Ak (aj (hma) Z ⟨(cd S),(aq (by rw [decide_eq_true hn])),Ap⟩) ?_
    refine Ak (am Z) (Ak (ak 2 Z Z Z) (Ak (am Z) (Ak (sT (by assumption) (ak 2 Z Z Z)) (Ao ?_))))
    refine Ak (aj (hmb) Z ⟨(cd S),(aq (by rw [decide_eq_true hm])),Ap⟩) ?_
    refine bg 3 Z Z Z Z (bg 2 Z Z Z Z (Ao (aa (ae (ae (ai (Ak (aP 2 Z Z) ?_)))))))
    refine Ak (aj (cJ _) Z ⟨A,Ap⟩) ?_
    refine Ak (sF (by assumption) (bW Z Z)) (Ao (aa (az Z (au (aa (ae (ai (Ak (am Z) (Ak (ak 3 Z Z Z) ?_)))))))))
    refine Ak (am Z) (Ak (ak 2 Z Z Z) ?_)
    refine Ak (aj (hdiv) Z ⟨A,A,Ap⟩) ?_
    refine Al Z (Ak (an Z Z) (Ak (an Z Z) ?_))
    refine av (T:=29) Z (ltN Z) (fun b7 => ?_)
    refine av (T:=29) Z (ltN Z) (fun b8 => ?_)
    refine ao 1 Z Z Z Z Z (leN Z) Z (ao 0 Z Z Z Z Z (leN Z) Z (Ao (aa (ae (ae (ai (Ak (am Z) (Ak (sT (by assumption) (ak 5 Z Z Z)) (Al Z ?_)))))))))
    refine An (ak 0 Z Z Z) ?_
    refine An (aj (hsg) Z ⟨A,Ap⟩) ?_
    refine An (sT S (cT Z Z)) (Ak (a9 Z Z) (Ao (aa (aB Z (ae (aU 2 aR X Y (Ak (ak 1 Z Z Z) ?_)))))))
    refine Ak (aj (hof) Z ⟨A,Ap⟩) ?_
    refine Ao ?_
    refine Ak (aj (had) Z ⟨A,A,Ap⟩) ?_
    refine ao 1 Z Z Z Z Z (leN Z) Z (Ao (aa (aU 5 aR X Y (Ak (am Z) (Ak (ak 4 Z Z Z) ?_)))))
    refine Ak (aj (hmb2) Z ⟨(cd S),A,Ap⟩) ?_
    refine Ak (ak 0 Z Z Z) ?_
    refine Ak (aj (hsu) Z ⟨A,A,Ap⟩) ?_
    refine Ao (ao 0 Z Z Z Z Z (leN Z) Z (Ao (aa (ae (ae (ai (Ak (am Z) (Ak (sT (by assumption) (ak 5 Z Z Z)) (Ak (am Z) ?_)))))))))
    refine Ak (sT (by assumption) (ak 4 Z Z Z)) (Ak (fj Z Z) (Ao (aa (az Z (au (aa (ae ?_)))))))
    refine gq [⟨5,b5,29,Lay.agg 2⟩,⟨4,b4,29,Lay.agg 2⟩] [_,_] [_,_,_,_] aR X Z ((bk 2 Z).trans (.cons _ ((bk 2 Z).trans (.cons _ (List.Perm.refl _))))) Z (And.intro Z (And.intro Z (trivial))) ?_
    refine ux (fun B=>ak 1 Z Z Z) Z Z ?_
    refine ux (fun B=>ak 0 Z Z Z) Z Z ?_
    refine us Z (us Z ?_)
    refine ux (fun B=>ah Z) Z Z ?_
    refine RunU.nil ⟨And.intro Z (And.intro Z (And.intro Z (And.intro Z (trivial)))),?_⟩
    refine cw (M' := [_,_,_,_,_,_]) Z (aa (aC ?_))
    refine it Try.results35 (.cellB 1 Z Z Z (bm (by rw [k1,Int.natCast_add]; rfl))) (.cellB 0 Z Z Z (bm (by rw [k2,Int.ofNat_sub (Nat.le_of_lt hlt)]))) (.tmp Z A)
   ·rw [if_neg hm] at k1
    refine ae (ai ?_)
    refine aO Z Z (ltN Z) (fun b2 => ?_)
    refine aO Z Z (ltN Z) (fun b3 => ?_)
    refine av (T:=29) Z (ltN Z) (fun b4 => ?_)
    refine av (T:=29) Z (ltN Z) (fun b5 => ?_)
    refine Am Z (Ao (aa (ae (ek 9 aR X Y (Ak (am Z) (Ak (ak 3 Z Z Z) (Ak (am Z) (Ak (sT (by assumption) (ak 3 Z Z Z)) ?_))))))))
    refine Ak (aj (hma) Z ⟨(cd S),(aq (by rw [decide_eq_true hn])),Ap⟩) ?_
    refine Ak (am Z) (Ak (ak 2 Z Z Z) (Ak (am Z) (Ak (sF (by assumption) (ak 2 Z Z Z)) (Ao ?_))))
    refine Ak (aj (hmb) Z ⟨(cd S),(aq (by rw [decide_eq_false hm])),Ap⟩) ?_
    refine bg 3 Z Z Z Z (bg 2 Z Z Z Z (Ao (aa (ae (ae (ai (Ak (aP 2 Z Z) ?_)))))))
    refine Ak (aj (cJ _) Z ⟨A,Ap⟩) ?_
    refine Ak (sF (by assumption) (bW Z Z)) (Ao (aa (az Z (au (aa (ae (ai (Ak (am Z) (Ak (ak 3 Z Z Z) ?_)))))))))
    refine Ak (am Z) (Ak (ak 2 Z Z Z) ?_)
    refine Ak (aj (hdiv) Z ⟨A,A,Ap⟩) ?_
    refine Al Z (Ak (an Z Z) (Ak (an Z Z) ?_))
    refine av (T:=29) Z (ltN Z) (fun b7 => ?_)
    refine av (T:=29) Z (ltN Z) (fun b8 => ?_)
    refine ao 1 Z Z Z Z Z (leN Z) Z (ao 0 Z Z Z Z Z (leN Z) Z (Ao (aa (ae (ae (ai (Ak (am Z) (Ak (sT (by assumption) (ak 5 Z Z Z)) (Al Z ?_)))))))))
    refine An (ak 0 Z Z Z) ?_
    refine An (aj (hsg) Z ⟨A,Ap⟩) ?_
    refine An (sT S (cT Z Z)) (Ak (a9 Z Z) (Ao (aa (aB Z (ae (aU 2 aR X Y (Ak (ak 1 Z Z Z) ?_)))))))
    refine Ak (aj (hof) Z ⟨A,Ap⟩) ?_
    refine Ao ?_
    refine Ak (aj (had) Z ⟨A,A,Ap⟩) ?_
    refine ao 1 Z Z Z Z Z (leN Z) Z (Ao (aa (aU 5 aR X Y (Ak (am Z) (Ak (ak 4 Z Z Z) ?_)))))
    refine Ak (aj (hmb) Z ⟨(cd S),(aq (by rw [decide_eq_false hm])),Ap⟩) ?_
    refine Ak (ak 0 Z Z Z) ?_
    refine Ak (aj (hsu2) Z ⟨A,A,Ap⟩) ?_
    refine Ao (ao 0 Z Z Z Z Z (leN Z) Z (Ao (aa (ae (ae (ai (Ak (am Z) (Ak (sT (by assumption) (ak 5 Z Z Z)) (Ak (am Z) ?_)))))))))
    refine Ak (sF (by assumption) (ak 4 Z Z Z)) (Ak (fj Z Z) (Ao (aa (aB Z (ai (Ak (ak 1 Z Z Z) ?_))))))
    refine Ak (aj (hn2) Z ⟨A,Ap⟩) ?_
    refine ao 1 Z Z Z Z Z (leN Z) Z (Ao (aa (ae ?_)))
    refine gq [⟨5,b5,29,Lay.agg 2⟩,⟨4,b4,29,Lay.agg 2⟩] [_,_] [_,_,_,_] aR X Z ((bk 2 Z).trans (.cons _ ((bk 2 Z).trans (.cons _ (List.Perm.refl _))))) Z (And.intro Z (And.intro Z (trivial))) ?_
    refine ux (fun B=>ak 1 Z Z Z) Z Z ?_
    refine ux (fun B=>ak 0 Z Z Z) Z Z ?_
    refine us Z (us Z ?_)
    refine ux (fun B=>ah Z) Z Z ?_
    refine RunU.nil ⟨And.intro Z (And.intro Z (And.intro Z (And.intro Z (trivial)))),?_⟩
    refine cw (M' := [_,_,_,_,_,_]) Z (aa (aC ?_))
    refine it Try.results35 (.cellB 1 Z Z Z (bm (by rw [k1,Int.natCast_add]; rfl))) (.cellB 0 Z Z Z (bm (by rw [k2,Int.ofNat_sub (Nat.le_of_lt hlt),Int.natAbs_of_nonneg (show 0≤b by omega)]))) (.tmp Z A)
 ·obtain ⟨k1,k2⟩:=g1 S
  by_cases hm:b<0
  ·rw [if_pos hm] at k1
   refine ae (ai ?_)
   refine aO Z Z (ltN Z) (fun b2 => ?_)
   refine aO Z Z (ltN Z) (fun b3 => ?_)
   refine av (T:=29) Z (ltN Z) (fun b4 => ?_)
   refine av (T:=29) Z (ltN Z) (fun b5 => ?_)
   refine Am Z (Ao (aa (ae (ek 9 aR X Y (Ak (am Z) (Ak (ak 3 Z Z Z) (Ak (am Z) (Ak (sF (by assumption) (ak 3 Z Z Z)) ?_))))))))
   refine Ak (aj (hma) Z ⟨(cd S),(aq (by rw [decide_eq_false hn])),Ap⟩) ?_
   refine Ak (am Z) (Ak (ak 2 Z Z Z) (Ak (am Z) (Ak (sT (by assumption) (ak 2 Z Z Z)) (Ao ?_))))
   refine Ak (aj (hmb) Z ⟨(cd S),(aq (by rw [decide_eq_true hm])),Ap⟩) ?_
   refine bg 3 Z Z Z Z (bg 2 Z Z Z Z (Ao (aa (ae (ae (ai (Ak (aP 2 Z Z) ?_)))))))
   refine Ak (aj (cJ _) Z ⟨A,Ap⟩) ?_
   refine Ak (sF (by assumption) (bW Z Z)) (Ao (aa (az Z (au (aa (ae (ai (Ak (am Z) (Ak (ak 3 Z Z Z) ?_)))))))))
   refine Ak (am Z) (Ak (ak 2 Z Z Z) ?_)
   refine Ak (aj (hdiv) Z ⟨A,A,Ap⟩) ?_
   refine Al Z (Ak (an Z Z) (Ak (an Z Z) ?_))
   refine av (T:=29) Z (ltN Z) (fun b7 => ?_)
   refine av (T:=29) Z (ltN Z) (fun b8 => ?_)
   refine ao 1 Z Z Z Z Z (leN Z) Z (ao 0 Z Z Z Z Z (leN Z) Z (Ao (aa (ae (ae (ai (Ak (am Z) (Ak (sF (by assumption) (ak 5 Z Z Z)) (Al Z ?_)))))))))
   refine sg0 Z Z Z Z (sg0 Z Z Z Z (sg0 Z Z Z Z (Ak (aY Z Z) (Ao (aa (az Z (au (aa (ae ?_)))))))))
   refine ae (ai (Ak (am Z) (Ak (sF (by assumption) (ak 5 Z Z Z)) (Ak (am Z) (Ak (sT (by assumption) (ak 4 Z Z Z)) (Ak (fj Z Z) (Ao (aa (aB Z ?_)))))))))
   refine ai (Ak (ak 1 Z Z Z) ?_)
   refine Ak (aj (hn1) Z ⟨A,Ap⟩) ?_
   refine ao 1 Z Z Z Z Z (leN Z) Z (Ao (aa (ae ?_)))
   refine gq [⟨5,b5,29,Lay.agg 2⟩,⟨4,b4,29,Lay.agg 2⟩] [_,_] [_,_,_,_] aR X Z ((bk 2 Z).trans (.cons _ ((bk 2 Z).trans (.cons _ (List.Perm.refl _))))) Z (And.intro Z (And.intro Z (trivial))) ?_
   refine ux (fun B=>ak 1 Z Z Z) Z Z ?_
   refine ux (fun B=>ak 0 Z Z Z) Z Z ?_
   refine us Z (us Z ?_)
   refine ux (fun B=>ah Z) Z Z ?_
   refine RunU.nil ⟨And.intro Z (And.intro Z (And.intro Z (And.intro Z (trivial)))),?_⟩
   refine cw (M' := [_,_,_,_,_,_]) Z (aa (aC ?_))
   refine it Try.results35 (.cellB 1 Z Z Z (bm (by rw [k1]))) (.cellB 0 Z Z Z (bm (by rw [k2]))) (.tmp Z A)
  ·rw [if_neg hm] at k1
   refine ae (ai ?_)
   refine aO Z Z (ltN Z) (fun b2 => ?_)
   refine aO Z Z (ltN Z) (fun b3 => ?_)
   refine av (T:=29) Z (ltN Z) (fun b4 => ?_)
   refine av (T:=29) Z (ltN Z) (fun b5 => ?_)
   refine Am Z (Ao (aa (ae (ek 9 aR X Y (Ak (am Z) (Ak (ak 3 Z Z Z) (Ak (am Z) (Ak (sF (by assumption) (ak 3 Z Z Z)) ?_))))))))
   refine Ak (aj (hma) Z ⟨(cd S),(aq (by rw [decide_eq_false hn])),Ap⟩) ?_
   refine Ak (am Z) (Ak (ak 2 Z Z Z) (Ak (am Z) (Ak (sF (by assumption) (ak 2 Z Z Z)) (Ao ?_))))
   refine Ak (aj (hmb) Z ⟨(cd S),(aq (by rw [decide_eq_false hm])),Ap⟩) ?_
   refine bg 3 Z Z Z Z (bg 2 Z Z Z Z (Ao (aa (ae (ae (ai (Ak (aP 2 Z Z) ?_)))))))
   refine Ak (aj (cJ _) Z ⟨A,Ap⟩) ?_
   refine Ak (sF (by assumption) (bW Z Z)) (Ao (aa (az Z (au (aa (ae (ai (Ak (am Z) (Ak (ak 3 Z Z Z) ?_)))))))))
   refine Ak (am Z) (Ak (ak 2 Z Z Z) ?_)
   refine Ak (aj (hdiv) Z ⟨A,A,Ap⟩) ?_
   refine Al Z (Ak (an Z Z) (Ak (an Z Z) ?_))
   refine av (T:=29) Z (ltN Z) (fun b7 => ?_)
   refine av (T:=29) Z (ltN Z) (fun b8 => ?_)
   refine ao 1 Z Z Z Z Z (leN Z) Z (ao 0 Z Z Z Z Z (leN Z) Z (Ao (aa (ae (ae (ai (Ak (am Z) (Ak (sF (by assumption) (ak 5 Z Z Z)) (Al Z ?_)))))))))
   refine sg0 Z Z Z Z (sg0 Z Z Z Z (sg0 Z Z Z Z (Ak (aY Z Z) (Ao (aa (az Z (au (aa (ae ?_)))))))))
   refine ae (ai (Ak (am Z) (Ak (sF (by assumption) (ak 5 Z Z Z)) (Ak (am Z) (Ak (sF (by assumption) (ak 4 Z Z Z)) (Ak (fj Z Z) (Ao (aa (az Z ?_)))))))))
   refine au (aa (ae ?_))
   refine gq [⟨5,b5,29,Lay.agg 2⟩,⟨4,b4,29,Lay.agg 2⟩] [_,_] [_,_,_,_] aR X Z ((bk 2 Z).trans (.cons _ ((bk 2 Z).trans (.cons _ (List.Perm.refl _))))) Z (And.intro Z (And.intro Z (trivial))) ?_
   refine ux (fun B=>ak 1 Z Z Z) Z Z ?_
   refine ux (fun B=>ak 0 Z Z Z) Z Z ?_
   refine us Z (us Z ?_)
   refine ux (fun B=>ah Z) Z Z ?_
   refine RunU.nil ⟨And.intro Z (And.intro Z (And.intro Z (And.intro Z (trivial)))),?_⟩
   refine cw (M' := [_,_,_,_,_,_]) Z (aa (aC ?_))
   refine it Try.results35 (.cellB 1 Z Z Z (bm (by rw [k1]))) (.cellB 0 Z Z Z (bm (by rw [k2]))) (.tmp Z A)
theorem pI (a b:Int) (ha:bU a) (hb:bU b):Ok Try.prog 75 [aS a,aS b] (aS (Nat.gcd a.natAbs b.natAbs)):=by
 refine Ok.enter Try.func75 Z Try.ntmps75 Z (fun w O => ?_)
 refine ae (ai ?_)
 refine aO Z Z (ltN Z) (fun b2 => ?_)
 refine aO Z Z (ltN Z) (fun b3 => ?_)
 refine av (T:=29) Z (ltN Z) (fun b4 => ?_)
 refine Ao (aa (ae (aw (cl (Γ' := [(2,_),(3,_),(4,_)]) Ag (SubM.refl _) ?_))))
 refine bA (σ:=Int × Int) (Γk := [(2,_),(3,_),(4,_)]) Ag (fun p => []) (fun p M0=>((M0.set 1 (bf b3 29 (Lay.agg 2).sz [(0,Lay.agg 2,aS p.2)])).set 2 (bf b2 29 (Lay.agg 2).sz [(0,Lay.agg 2,aS p.1)]))) (fun p=>Nat.gcd p.1.natAbs p.2.natAbs=Nat.gcd a.natAbs b.natAbs∧bU p.1∧bU p.2) (fun p=>p.2.natAbs) ((a,b)) (⟨rfl,ha,hb⟩) Ah (.keep Aj (.keep (jh A) (.keep (jh A) (.nil)))) (fun p hp => ?_)
 refine bS (Γ' := [(2,_),(3,_),(4,_)]) (M' := [_,_,_]) Z Z ?_
 obtain ⟨x,y⟩:=p
 dsimp only at hp ⊢
 obtain ⟨p1,p2,p3⟩:=hp
 have hsg:=cJ y
 by_cases hy:y=0
 ·have hs0:cH y=0:=by rw [hy]; rfl
  rw [hy] at p1
  rw [← p1,Int.natAbs_zero,Nat.gcd_zero_right]
  have hx:(ax x.natAbs).length≤1099511627700:=p2
  have hm:=cp false x.natAbs
  rw [if_neg Y] at hm
  refine ae (ae (ai (Ak (ak 1 Z Z Z) ?_)))
  refine Ak (aj (hsg) Z ⟨A,Ap⟩) ?_
  refine Ak (sF S (gl Z Z)) (Ao (aa (az Z (a6 (ay (ay (aI (aa (ae ?_)))))))))
  refine ai (Ak (am Z) (Ak (eS 2 0 1 Z Z Z Z Z) ?_))
  refine Ak (aj (hm) Z ⟨(cd S),A,Ap⟩) ?_
  refine ao 0 Z Z Z Z Z (leN Z) Z (Ao (aa (aC ?_)))
  refine aJ Try.results75 (.cellB 0 Z Z Z A)
 ·have hs0:cH y≠0:=by unfold cH;rw [if_neg hy]; split <;> decide
  have hdm:=dN x y hy p2 p3
  have hlt:=n6 x hy
  refine ae (ae (ai (Ak (ak 1 Z Z Z) ?_)))
  refine Ak (aj (hsg) Z ⟨A,Ap⟩) ?_
  refine Ak (sT (by assumption) (gl Z Z)) (Ao (aa (aB Z (au (aa (aw (ae (ai (Ak (ak 2 Z Z Z) ?_)))))))))
  refine Ak (ak 1 Z Z Z) ?_
  refine Ak (aj (hdm) Z ⟨A,A,Ap⟩) ?_
  refine Al Z (Ak (an Z Z) (Ak (an Z Z) (Ak (an Z Z) ?_)))
  refine av (T:=29) Z (ltN Z) (fun b5 => ?_)
  refine av (T:=29) Z (ltN Z) (fun b6 => ?_)
  refine ao 1 Z Z Z Z Z (leN Z) Z (ao 0 Z Z Z Z Z (leN Z) Z (Am Z (Ao (aa ?_))))
  refine pt [⟨⟨3,b3,29,Lay.agg 2⟩,_⟩,⟨⟨2,b2,29,Lay.agg 2⟩,_⟩] [_,_,_] aR X ((bk 3 Z).trans (.cons _ ((bk 3 Z).trans (.cons _ (List.Perm.refl _))))) Z (And.intro Z (And.intro Z (trivial))) ?_
  refine wl 0 Z X (fun B=>ak 0 Z Z Z) Z ?_
  refine wx (fun B=>ak 0 Z Z Z) Z ?_
  refine ws Z (ws Z ?_)
  refine RunY.nil ⟨And.intro Z (And.intro Z (And.intro Z (And.intro Z (trivial)))),?_⟩
  refine cw (M' := [_,_,_,_,_]) Z (aK (pk ((bk 4 Z).trans (.cons _ ((bk 0 Z).trans (.cons _ ((bk 0 Z).trans (.cons _ (List.Perm.refl _))))))) ?_))
  refine aN ((y,x % y)) (⟨by rw [← p1]; exact rN x y,p3,eH p3 (Nat.le_of_lt hlt)⟩) (by assumption) Ah (.keep Aj (.keep Aj (.keep Aj (SubM.nilR _))))
end Tor
end
section
namespace Tor
open Go Go.RowKit Go.Proofs
attribute [local irreducible] J PJ aF one slT cS bP bZ exT cR eP bf be slV VT.le Ret cm fT jC
theorem tq (n d:Int) (hd:d≠0) (hn:bU n) (hds:bU d):Ok Try.prog 51 [aS n,aS d] (bZ [jH (Rat.divInt n d),one (.int .i64 0)]):=by
 have hsi:=cJ d
 have hn1:=gV n hn.small
 have hd1:=gV d hds.small
 have e1:bU (-n):=eH hn S
 have e2:bU (-d):=eH hds S
 have g0:=rJ (n:=n) hd
 have g1:bU ((Nat.gcd n.natAbs d.natAbs:Nat):Int):=eH hds (by rw [Int.natAbs_natCast]; exact Nat.le_of_dvd S (Nat.gcd_dvd_right _ _))
 unfold jH dM
 refine Ok.enter Try.func51 Z Try.ntmps51 Z (fun w O => ?_)
 by_cases h:d<0
 ·obtain ⟨l1,l2⟩:=pH (n:=n) h
  have hs:cH d = -1:=by unfold cH;rw [if_neg hd,if_pos h]
  have hg:=pI (-n) (-d) e1 e2
  rw [Int.natAbs_neg,Int.natAbs_neg] at hg
  have hm1:=dN (-n) _ g0 e1 g1
  have hm2:=dN (-d) _ g0 e2 g1
  have d1:((Nat.gcd n.natAbs d.natAbs:Nat):Int)∣n:=Int.gcd_dvd_left ..
  have d2:((Nat.gcd n.natAbs d.natAbs:Nat):Int)∣d:=Int.gcd_dvd_right ..
  rw [Int.ediv_neg, ← Int.neg_ediv_of_dvd d1] at l1
  rw [Int.ediv_neg, ← Int.neg_ediv_of_dvd d2] at l2
  refine ae (ai ?_)
  refine aO Z Z (ltN Z) (fun b2 => ?_)
  refine aO Z Z (ltN Z) (fun b3 => ?_)
  refine cg (T:=45) Z Z Z (fun b4 => ?_)
  refine Am Z (Ao (aa (ae (ae (ai (Ak (aP 1 Z Z) ?_))))))
  refine Ak (aj (hsi) Z ⟨A,Ap⟩) ?_
  refine Ak (sF S (bW Z Z)) (Ao (aa (az Z (au (aa (ae (ae (ai (Ak (aP 1 Z Z) ?_)))))))))
  refine Ak (aj (hsi) Z ⟨A,Ap⟩) ?_
  refine Ak (sT S (bp Z Z)) (Ao (aa (aB Z (ek 3 aR X Y (Ak (aP 2 Z Z) ?_)))))
  refine Ak (aj (hn1) Z ⟨A,Ap⟩) ?_
  refine Ak (aP 1 Z Z) (Ao ?_)
  refine Ak (aj (hd1) Z ⟨A,Ap⟩) ?_
  refine bg 2 Z Z Z Z (bg 1 Z Z Z Z (Ao (aa (ae (ai (Ak (aP 2 Z Z) (Ak (aP 1 Z Z) ?_)))))))
  refine Ak (aj (hg) Z ⟨A,A,Ap⟩) ?_
  refine av (T:=29) Z (ltN Z) (fun b6 => ?_)
  refine ao 0 Z Z Z Z Z (leN Z) Z (Ao (aa (ae (ai (Ak (aP 3 Z Z) (Ak (ak 0 Z Z Z) ?_))))))
  refine Ak (aj (hm1) Z ⟨A,A,Ap⟩) ?_
  refine Al Z (Ak (an Z Z) (Ak (an Z Z) (Ak (an Z Z) ?_)))
  refine av (T:=29) Z (ltN Z) (fun b7 => ?_)
  refine av (T:=29) Z (ltN Z) (fun b8 => ?_)
  refine ao 1 Z Z Z Z Z (leN Z) Z (ao 0 Z Z Z Z Z (leN Z) Z (Am Z (Ao (aa (ae (ai (Ak (aP 4 Z Z) (Ak (ak 2 Z Z Z) ?_))))))))
  refine Ak (aj (hm2) Z ⟨A,A,Ap⟩) ?_
  refine Al Z (Ak (an Z Z) (Ak (an Z Z) (Ak (an Z Z) ?_)))
  refine av (T:=29) Z (ltN Z) (fun b10 => ?_)
  refine av (T:=29) Z (ltN Z) (fun b11 => ?_)
  refine ao 1 Z Z Z Z Z (leN Z) Z (ao 0 Z Z Z Z Z (leN Z) Z (Am Z (Ao (aa (ae (ai (Ak (ak 3 Z Z Z) (Ak (ak 1 Z Z Z) (stB Z Z Z ?_)))))))))
  refine BuildK.cons Z Z Z (BuildK.cons Z Z Z (BuildK.nil (bg 5 Z Z Z Z (Am Z (Ao (aa (aC ?_)))))))
  refine de Try.results51 (.cellW 5 Z Z (jg l1 l2)) (.tmp Z A)
 ·obtain ⟨l1,l2⟩:=pG (n:=n) (show 0<d by omega)
  have hs:cH d=1:=by unfold cH;rw [if_neg hd,if_neg h]
  have hg:=pI n d hn hds
  have hm1:=dN n _ g0 hn g1
  have hm2:=dN d _ g0 hds g1
  refine ae (ai ?_)
  refine aO Z Z (ltN Z) (fun b2 => ?_)
  refine aO Z Z (ltN Z) (fun b3 => ?_)
  refine cg (T:=45) Z Z Z (fun b4 => ?_)
  refine Am Z (Ao (aa (ae (ae (ai (Ak (aP 1 Z Z) ?_))))))
  refine Ak (aj (hsi) Z ⟨A,Ap⟩) ?_
  refine Ak (sF S (bW Z Z)) (Ao (aa (az Z (au (aa (ae (ae (ai (Ak (aP 1 Z Z) ?_)))))))))
  refine Ak (aj (hsi) Z ⟨A,Ap⟩) ?_
  refine Ak (sF S (bp Z Z)) (Ao (aa (az Z (au (aa (ae (ai (Ak (aP 2 Z Z) (Ak (aP 1 Z Z) ?_)))))))))
  refine Ak (aj (hg) Z ⟨A,A,Ap⟩) ?_
  refine av (T:=29) Z (ltN Z) (fun b6 => ?_)
  refine ao 0 Z Z Z Z Z (leN Z) Z (Ao (aa (ae (ai (Ak (aP 3 Z Z) (Ak (ak 0 Z Z Z) ?_))))))
  refine Ak (aj (hm1) Z ⟨A,A,Ap⟩) ?_
  refine Al Z (Ak (an Z Z) (Ak (an Z Z) (Ak (an Z Z) ?_)))
  refine av (T:=29) Z (ltN Z) (fun b7 => ?_)
  refine av (T:=29) Z (ltN Z) (fun b8 => ?_)
  refine ao 1 Z Z Z Z Z (leN Z) Z (ao 0 Z Z Z Z Z (leN Z) Z (Am Z (Ao (aa (ae (ai (Ak (aP 4 Z Z) (Ak (ak 2 Z Z Z) ?_))))))))
  refine Ak (aj (hm2) Z ⟨A,A,Ap⟩) ?_
  refine Al Z (Ak (an Z Z) (Ak (an Z Z) (Ak (an Z Z) ?_)))
  refine av (T:=29) Z (ltN Z) (fun b10 => ?_)
  refine av (T:=29) Z (ltN Z) (fun b11 => ?_)
  refine ao 1 Z Z Z Z Z (leN Z) Z (ao 0 Z Z Z Z Z (leN Z) Z (Am Z (Ao (aa (ae (ai (Ak (ak 3 Z Z Z) (Ak (ak 1 Z Z Z) (stB Z Z Z ?_)))))))))
  refine BuildK.cons Z Z Z (BuildK.cons Z Z Z (BuildK.nil (bg 5 Z Z Z Z (Am Z (Ao (aa (aC ?_)))))))
  refine de Try.results51 (.cellW 5 Z Z (jg l1 l2)) (.tmp Z A)
theorem oR (a b c d:Int):Ok Try.prog 17 [dM a b,dM c d] (one (.bool (decide (a=c) && decide (b=d)))):=by
 have h1:=dx a c
 have h2:=dx b d
 unfold dM
 refine Ok.enter Try.func17 Z Try.ntmps17 Z (fun w O => ?_)
 by_cases c1:a=c
 ·rw [decide_eq_true c1] at h1 ⊢
  refine ae (ai ?_)
  refine aO Z Z (ltN Z) (fun b2 => ?_)
  refine aO Z Z (ltN Z) (fun b3 => ?_)
  refine Am Z (Ao (aa (ae (ai (Ak (am Z) (Ak (ak 1 Z Z Z) (Ak (am Z) (Ak (ak 0 Z Z Z) ?_))))))))
  refine Ak (aj (h1) Z ⟨A,A,Ap⟩) ?_
  refine Al Z (An (am Z) (An (ak 1 Z Z Z) (An (am Z) (An (ak 0 Z Z Z) ?_))))
  refine An (aj (h2) Z ⟨A,A,Ap⟩) ?_
  refine Ak (a9 Z Z) (Am Z (Ao (aa (aC ?_))))
  refine aJ Try.results17 (.tmp Z A)
 ·rw [decide_eq_false c1] at h1 ⊢
  refine ae (ai ?_)
  refine aO Z Z (ltN Z) (fun b2 => ?_)
  refine aO Z Z (ltN Z) (fun b3 => ?_)
  refine Am Z (Ao (aa (ae (ai (Ak (am Z) (Ak (ak 1 Z Z Z) (Ak (am Z) (Ak (ak 0 Z Z Z) ?_))))))))
  refine Ak (aj (h1) Z ⟨A,A,Ap⟩) ?_
  refine Al Z (sg0 Z Z Z Z (sg0 Z Z Z Z (sg0 Z Z Z Z (sg0 Z Z Z Z (sg0 Z Z Z Z (Ak (aY Z Z) (Am Z (Ao (aa ?_)))))))))
  refine aC ?_
  refine aJ Try.results17 (.tmp Z A)
theorem qx (q r:Rat):Ok Try.prog 17 [jH q,jH r] (one (.bool (decide (q=r)))):=by
 have h:=oR q.num q.den r.num r.den
 have e:(decide (q.num=r.num) && decide ((q.den:Int)=(r.den:Int)))=decide (q=r):=by
  rw [← Bool.decide_and]
  exact decide_eq_decide.2 ⟨fun ⟨h1,h2⟩=>Rat.ext h1 S,fun h=>by rw [h]; exact ⟨rfl,rfl⟩⟩
 rw [e] at h
 exact h
end Tor
end
section
namespace Tor
open Go Go.RowKit Go.Proofs
def eU (p:Nat × Nat):VT:=bP 2 [(0, .one,one (.int .u64 (p.1:Int))),(1, .one,one (.int .u64 (p.2:Int)))]
def cq (l:List (Nat × Nat)):VT:=slT (.agg 2) l.length (fun i=>eU (l.getD i (0,0)))
instance {p:Nat × Nat} : Flat (eU p) (.agg 2):=by unfold eU;infer_instance
def eZ (l:List (Nat × Nat)):Prop := ∀ p∈l,p.1<18446744073709551616∧p.2<18446744073709551616
theorem eZ.get {l:List (Nat × Nat)} (h:eZ l) (i:Nat):(l.getD i (0,0)).1<18446744073709551616∧(l.getD i (0,0)).2<18446744073709551616:=by
 rw [List.getD]
 cases hx:l[i]? with
 | none => simp
 | some x => simp; exact h x (List.mem_of_getElem? hx)
def bY (seen:List Nat):List (Nat × Nat)→Bool
 | [] => true
 | p :: r => if p.1 ∈ seen then false else if bT p.1 = false then false else if p.1 ≤ p.2 then false else bY (seen ++ [p.1]) r
def fH (l:List (Nat × Nat)) (i:Nat):List Nat:=(l.take i).map (·.1)
theorem oS {α:Type} {l:List α} {k:Nat} (d:α) (h:k<l.length):l.drop k=l.getD k d :: l.drop (k+1):=by
 rw [List.drop_eq_getElem_cons h]; simp [List.getD,h]
theorem d7 {α:Type} {l:List α} {k:Nat} (d:α) (h:k<l.length):l.take (k+1)=l.take k ++ [l.getD k d]:=by
 rw [List.take_succ_eq_append_getElem h]; simp [List.getD,h]
theorem jI {l:List (Nat × Nat)} {i:Nat} (h:i<l.length):fH l (i+1)=fH l i ++ [(l.getD i (0,0)).1]:=by
 unfold fH;rw [d7 (0,0) h,List.map_append]; rfl
theorem n7 {l:List (Nat × Nat)} {i:Nat} (h:i<l.length):bY (fH l i) (l.drop i)=if (l.getD i (0,0)).1∈fH l i then false else if bT (l.getD i (0,0)).1=false then false else if (l.getD i (0,0)).1≤(l.getD i (0,0)).2 then false else bY (fH l (i+1)) (l.drop (i+1)):=by
 rw [oS (0,0) h,bY,jI h]
theorem uC {b:Nat} {ks ks':List Nat} (h:ks'=ks):Own.le (fT b ks) (fT b ks'):=h▸Own.le_refl _
instance:MapOf Try.prog 84 41 4 .u64:=⟨by kernel_rfl,by kernel_rfl⟩
attribute [local irreducible] J PJ aF one slT cS bP bZ exT cR eP bf be slV VT.le Ret cm fT jC
theorem jJ (l:List (Nat × Nat)) (h64:eZ l):Ok Try.prog 22 [cq l] (one (.bool (bY [] l))):=by
 unfold cq
 refine Ok.enter Try.func22 Z Try.ntmps22 Z (fun w O => ?_)
 refine fR (t:=0) Z (fun _ _=>ec) (fun hbound => ?_)
 refine ae (ai (Am Z (Ao (aa (ae (ai ?_))))))
 refine qi Z (ltN Z) (fun b6 => ?_)
 refine Am Z (Ao (aa (ae (ae (ai (Al Z (Ak (aM Z) (Al Z (Ao ?_)))))))))
 refine aa (aw (cl (Γ' := [(2,_),(3,_),(7,_),(8,_),(9,_)]) Ag (SubM.refl _) ?_))
 refine bA (σ:=Nat) (Γk := [(3,_),(7,_),(8,_)]) Ag (fun i => [(9,one (.int .i64 (i:Nat)))]) (fun i M0=>(M0.set 0 (fT b6 (fH l i)))) (fun i=>i≤l.length∧bY (fH l i) (l.drop i)=bY [] l) (fun i=>l.length - i) (0) (⟨Nat.zero_le _,rfl⟩) Ah (.keep Aj (.nil)) (fun i hi => ?_)
 refine bS (Γ' := [(9,_),(3,_),(7,_),(8,_)]) (M' := [_]) Z Z ?_
 obtain ⟨hi,hv⟩:=hi
 by_cases hc:i<l.length
 ·rw [n7 hc] at hv
  obtain ⟨h1,h2⟩:=h64.get i
  unfold eU
  have hpr:=qo _ h1
  by_cases c1:(l.getD i (0,0)).1∈fH l i
  ·rw [if_pos c1] at hv
   rw [← hv]
   refine ae (ai (Ak (sT S (bp Z Z)) (Ao (aa (ae (aB Z (au (aa (ae ?_)))))))))
   refine aw (ae (ai (Ak (ar Z Z S) (Ak (aE Z) ?_))))
   refine cg (T:=43) Z Z Z (fun b5 => ?_)
   refine bg 0 Z Z Z Z (Ao (aa (ae (ae (ai (Al Z (Ak (am Z) (Ak (ak 0 Z Z Z) (Ak (sT (by assumption) (i6 1 Z Z Z)) ?_)))))))))
   refine Al Z (sg0 Z Z Z Z (sg0 Z Z Z Z (sg0 Z Z Z Z (sg0 Z Z Z Z (Ak (a9 Z Z) (Al Z (sg0 Z Z Z Z (sg0 Z Z Z Z (sg0 Z Z Z Z ?_)))))))))
   refine sg0 Z Z Z Z (sg0 Z Z Z Z (Ak (a9 Z Z) (Ao (aa (aB Z (ae (ai (Am Z (Ao ?_)))))))))
   refine aa (aC (aD (aZ (aD (aD (aZ (aD ?_)))))))
   refine aJ Try.results22 (.tmp Z A)
  ·rw [if_neg c1] at hv
   cases c2:bT (l.getD i (0,0)).1
   ·rw [if_pos c2] at hv
    rw [← hv]
    rw [c2] at hpr
    refine ae (ai (Ak (sT S (bp Z Z)) (Ao (aa (ae (aB Z (au (aa (ae ?_)))))))))
    refine aw (ae (ai (Ak (ar Z Z S) (Ak (aE Z) ?_))))
    refine cg (T:=43) Z Z Z (fun b5 => ?_)
    refine bg 0 Z Z Z Z (Ao (aa (ae (ae (ai (Al Z (Ak (am Z) (Ak (ak 0 Z Z Z) (Ak (sF (by assumption) (i6 1 Z Z Z)) ?_)))))))))
    refine Al Z (An (am Z) (An (ak 0 Z Z Z) ?_))
    refine An (aj (hpr) Z ⟨A,Ap⟩) ?_
    refine An (cv Z) (Ak (aY Z Z) (Al Z (sg0 Z Z Z Z (sg0 Z Z Z Z (sg0 Z Z Z Z (sg0 Z Z Z Z (sg0 Z Z Z Z (Ak (a9 Z Z) (Ao ?_)))))))))
    refine aa (aB Z (ae (ai (Am Z (Ao (aa (aC (aD (aZ ?_)))))))))
    refine aD (aD (aZ (aD ?_)))
    refine aJ Try.results22 (.tmp Z A)
   ·rw [if_neg (by rw [c2]; decide)] at hv
    rw [c2] at hpr
    by_cases c3:(l.getD i (0,0)).1≤(l.getD i (0,0)).2
    ·rw [if_pos c3] at hv
     rw [← hv]
     refine ae (ai (Ak (sT S (bp Z Z)) (Ao (aa (ae (aB Z (au (aa (ae ?_)))))))))
     refine aw (ae (ai (Ak (ar Z Z S) (Ak (aE Z) ?_))))
     refine cg (T:=43) Z Z Z (fun b5 => ?_)
     refine bg 0 Z Z Z Z (Ao (aa (ae (ae (ai (Al Z (Ak (am Z) (Ak (ak 0 Z Z Z) (Ak (sF (by assumption) (i6 1 Z Z Z)) ?_)))))))))
     refine Al Z (An (am Z) (An (ak 0 Z Z Z) ?_))
     refine An (aj (hpr) Z ⟨A,Ap⟩) ?_
     refine An (cv Z) (Ak (aY Z Z) (Al Z (An (am Z) (An (ak 0 Z Z Z) (An (am Z) (An (ak 0 Z Z Z) (An (sT S (dC Z Z)) (Ak (aY Z Z) (Ao ?_)))))))))
     refine aa (aB Z (ae (ai (Am Z (Ao (aa (aC (aD (aZ ?_)))))))))
     refine aD (aD (aZ (aD ?_)))
     refine aJ Try.results22 (.tmp Z A)
    ·rw [if_neg c3] at hv
     refine ae (ai (Ak (sT S (bp Z Z)) (Ao (aa (ae (aB Z (au (aa (ae ?_)))))))))
     refine aw (ae (ai (Ak (ar Z Z S) (Ak (aE Z) ?_))))
     refine cg (T:=43) Z Z Z (fun b5 => ?_)
     refine bg 0 Z Z Z Z (Ao (aa (ae (ae (ai (Al Z (Ak (am Z) (Ak (ak 0 Z Z Z) (Ak (sF (by assumption) (i6 1 Z Z Z)) ?_)))))))))
     refine Al Z (An (am Z) (An (ak 0 Z Z Z) ?_))
     refine An (aj (hpr) Z ⟨A,Ap⟩) ?_
     refine An (cv Z) (Ak (aY Z Z) (Al Z (An (am Z) (An (ak 0 Z Z Z) (An (am Z) (An (ak 0 Z Z Z) (An (sF S (dC Z Z)) (Ak (aY Z Z) (Ao ?_)))))))))
     refine aa (az Z (au (aa (ai (Al Z (Ak (am Z) (Ak (ak 0 Z Z Z) ?_)))))))
     (refine nC 1 Z Z Z Z ?_ Z ?_;assumption)
     refine Ao (aK (aa (ai (Ak (bX _ 1 Z Z S) (Al Z (Ao ?_))))))
     refine aN (i+1) (⟨by omega,hv⟩) S Ah (.drop (.keep (uC (jI hc)) (.nil)))
 ·have hl:i=l.length:=by omega
  rw [hl,List.drop_length] at hv
  rw [← hv]
  refine ae (ai (Ak (sF S (bp Z Z)) (Ao (aa (ae (az Z (a6 (ay (ay ?_)))))))))
  refine aI (aa (ae (ai (Am Z (Ao (aa (aC ?_)))))))
  refine aJ Try.results22 (.tmp Z A)
end Tor
end
section
namespace Tor
def gE (n:Nat):Prop := ∀ d,2≤d→d*d≤n→n % d≠0
def d8 (n:Nat):Nat→Nat→Bool
 | 0, d => Nat.ble (n + 1) (d * d) || !(Nat.beq (n % d) 0)
 | k + 1, d => d8 n k d && d8 n k (d + 2 ^ k)
theorem jK {n:Nat} : ∀ {k d:Nat},d8 n k d=true → ∀ e,d≤e→e<d+2^k→e*e≤n→n % e≠0
 | 0, d, h, e, h1, h2, h3 => by
  have:e=d:=by simp at h2;omega
  subst this
  simp only [d8,Bool.or_eq_true,Bool.not_eq_true'] at h
  rcases h with h | h
  ·have:=Nat.le_of_ble_eq_true h;omega
  ·intro hz;rw [hz] at h;cases h
 | k + 1, d, h, e, h1, h2, h3 => by
  simp only [d8,Bool.and_eq_true] at h
  rw [Nat.pow_succ] at h2
  rcases Nat.lt_or_ge e (d+2^k) with hl | hl
  ·exact jK h.1 e h1 hl h3
  ·exact jK h.2 e hl S h3
theorem gX {n k:Nat} (h:d8 n k 2=true) (hn:n<(2+2^k)*(2+2^k)):gE n:=fun d h1 h2=>by
 rcases Nat.lt_or_ge d (2+2^k) with hl | hl
 ·exact jK h d h1 hl h2
 ·have:=Nat.mul_le_mul hl hl;omega
noncomputable def jL (m:Nat):Bool := @decide (2≤m∧m<2147483648∧gE m) (Classical.propDecidable _)
theorem lf {m:Nat} : jL m=true↔2≤m∧m<2147483648∧gE m := @decide_eq_true_iff _ (Classical.propDecidable _)
end Tor
end
section
namespace Tor
open Go Go.RowKit Go.Proofs
def ix:List Nat := [2,3,5,7,11,13,17,19,23,29,31,37,41,43,47,65537,2147483629,2147483647]
theorem tr:d8 2147483629 16 2=true:=by decide +kernel
theorem tt:d8 2147483647 16 2=true:=by decide +kernel
theorem tu:d8 65537 8 2=true:=by decide +kernel
theorem jY : ∀ p∈ix,gE p:=by
 have h:(([2,3,5,7,11,13,17,19,23,29,31,37,41,43,47]:List Nat).all fun p=>d8 p 3 2 && decide (p<100))=true:=by decide +kernel
 intro p hp
 have hs:ix = [2,3,5,7,11,13,17,19,23,29,31,37,41,43,47] ++ [65537,2147483629,2147483647]:=rfl
 rw [hs] at hp
 rcases List.mem_append.1 hp with hp | hp
 ·have:=List.all_eq_true.1 h p hp
  simp only [Bool.and_eq_true,decide_eq_true_eq] at this
  exact gX (k:=3) this.1 S
 ·rcases List.mem_cons.1 hp with rfl | hp
  ·exact gX (k:=8) tu Y
  ·rcases List.mem_cons.1 hp with rfl | hp
   ·exact gX (k:=16) tr Y
   ·rw [List.mem_singleton.1 hp]
    exact gX (k:=16) tt Y
theorem rO : ∀ q,q<18 → [one (.int .u64 2147483647),one (.int .u64 2147483629),one (.int .u64 65537),one (.int .u64 47),one (.int .u64 43),one (.int .u64 41),one (.int .u64 37),one (.int .u64 31),one (.int .u64 29),one (.int .u64 23),one (.int .u64 19),one (.int .u64 17),one (.int .u64 13),one (.int .u64 11),one (.int .u64 7),one (.int .u64 5),one (.int .u64 3),one (.int .u64 2)].reverse.getD q cm=one (.int .u64 (ix.getD q 0:Nat))
 | 0, _ => rfl | 1, _ => rfl | 2, _ => rfl | 3, _ => rfl | 4, _ => rfl | 5, _ => rfl | 6, _ => rfl | 7, _ => rfl | 8, _ => rfl | 9, _ => rfl
 | 10, _ => rfl | 11, _ => rfl | 12, _ => rfl | 13, _ => rfl | 14, _ => rfl | 15, _ => rfl | 16, _ => rfl | 17, _ => rfl
 | _ + 18, h => absurd h S
attribute [local irreducible] J PJ aF one slT cS bP bZ exT cR eP bf be slV VT.le Ret cm fT jC
theorem qy (n:Nat) (h2:2≤n) (hn:n<2147483648) (hT:gE n):Ok Try.prog 52 [one (.int .u64 (n:Int))] (one (.bool true)):=by
 refine Ok.enter Try.func52 Z Try.ntmps52 Z (fun w O => ?_)
 refine ae (ai (Am Z (Ao (aa (ae (ae (ai (Al Z (Ak (sF S (bp Z Z)) ?_)))))))))
 refine Al Z (An (ab Z) (An (sF S (dC Z Z)) (Ak (aY Z Z) (Ao (aa (az Z (au (aa (ae ?_)))))))))
 refine ae (ai (Am Z (Ao (aa (aw (cl (Γ' := [(0,_),(2,_),(3,_)]) Ag (SubM.refl _) ?_))))))
 refine bA (σ:=Nat) (Γk := [(0,_)]) Ag (fun d => [(3,one (.int .u64 (d:Nat)))]) (fun d M0=>M0) (fun d=>2≤d∧d≤65536) (fun d=>65537 - d) (2) (⟨by decide,by decide⟩) Ah (.nil) (fun d hd => ?_)
 refine bS (Γ' := [(3,_),(0,_)]) (M' := []) Z Z ?_
 obtain ⟨d1,d2⟩:=hd
 have hb:=Nat.mul_le_mul d2 d2
 by_cases hc:d*d≤n
 ·have hm:=hT d d1 hc
  have hlt:d<65536:=by
   rcases Nat.lt_or_ge d 65536 with h | h
   ·exact h
   ·have:=Nat.mul_le_mul h h;omega
  have hm2 : ¬ n % d=0:=hm
  refine ae (ae (ai (Al Z (Al Z (Ak (dK Z Z S) (Al Z (Ak (sT S (kw Z Z)) (Ao (aa ?_)))))))))
  refine aB Z (au (aa (ae (aw (ae (ai (Al Z (Al Z (Ak (dW _ Z Z Z S) ?_)))))))))
  refine Ak (sF S (bW Z Z)) (Ao (aa (az Z (au (aK (aa (ai (Al Z (Ak (cL (b:=1) Z Z S) ?_)))))))))
  refine Am Z (Ao ?_)
  refine aN (d+1) (⟨by omega,by omega⟩) S Ah (.nil)
 ·refine ae (ae (ai (Al Z (Al Z (Ak (dK Z Z S) (Al Z (Ak (sF S (kw Z Z)) (Ao (aa ?_)))))))))
  refine az Z (a6 (ay (ay (aI (aa (ae (ai (Am Z (Ao ?_)))))))))
  refine aa (aC ?_)
  refine aJ Try.results52 (.tmp Z A)
theorem gb (n:Nat) (hn:n<18446744073709551616):Ok Try.prog 34 [one (.int .u64 (n:Int))] (aS (n:Int)):=by
 have hm:=cp false n
 rw [if_neg Y] at hm
 have h2:=kW n hn
 refine Ok.enter Try.func34 Z Try.ntmps34 Z (fun w O => ?_)
 refine ae (ai ?_)
 refine av (T:=29) Z (ltN Z) (fun b2 => ?_)
 refine Ao (aa (ae (ai (Al Z (Ak (bR Z) (Al Z (Ak (ei Z) (Ak (bR Z) (stS Z Z Z Z ?_)))))))))
 refine PartsK.cons Z (PartsK.cons Z (PartsK.nil ?_))
 refine Ak (aj (hm) Z ⟨(h2),A,Ap⟩) ?_
 refine ao 0 Z Z Z Z Z (leN Z) Z (Ao (aa (aC ?_)))
 refine aJ Try.results34 (.cellB 0 Z Z Z A)
theorem kp (a m:Int) (hm:m≠0) (ha:bU a) (hms:bU m):Ok Try.prog 39 [aS a,aS m] (aS (a % m)):=by
 refine Ok.enter Try.func39 Z Try.ntmps39 Z (fun w O => ?_)
 refine ae (ai ?_)
 refine aO Z Z (ltN Z) (fun b2 => ?_)
 refine aO Z Z (ltN Z) (fun b3 => ?_)
 refine av (T:=29) Z (ltN Z) (fun b4 => ?_)
 refine Ao (aa (ae (ai (Ak (aP 2 Z Z) (Ak (aP 1 Z Z) ?_)))))
 refine Ak (aj (dN _ _ (by assumption) (by assumption) (by assumption)) Z ⟨A,A,Ap⟩) ?_
 refine Al Z (Ak (an Z Z) (Ak (an Z Z) (Ak (an Z Z) ?_)))
 refine av (T:=29) Z (ltN Z) (fun b5 => ?_)
 refine av (T:=29) Z (ltN Z) (fun b6 => ?_)
 refine ao 1 Z Z Z Z Z (leN Z) Z (ao 0 Z Z Z Z Z (leN Z) Z (Am Z (Ao (aa (ae (ai (Ak (ak 0 Z Z Z) (ao 2 Z Z Z Z Z (leN Z) Z (Ao ?_)))))))))
 refine aa (aC ?_)
 refine aJ Try.results39 (.cellB 2 Z Z Z A)
theorem tv:Ok Try.prog 20 [] (slT .one 18 (fun i=>one (.int .u64 (ix.getD i 0:Nat)))):=by
 refine Ok.enter Try.func20 Z Try.ntmps20 Z (fun w O => ?_)
 refine ae (ai (Am Z (Ao (aa (ae (ai (stS Z Z Z Z (PartsK.cons Z (PartsK.cons Z ?_)))))))))
 refine PartsK.cons Z (PartsK.cons Z (PartsK.cons Z (PartsK.cons Z (PartsK.cons Z (PartsK.cons Z (PartsK.cons Z (PartsK.cons Z (PartsK.cons Z (PartsK.cons Z ?_)))))))))
 refine PartsK.cons Z (PartsK.cons Z (PartsK.cons Z (PartsK.cons Z (PartsK.cons Z (PartsK.cons Z (PartsK.nil (Am Z (Ao (aa ?_)))))))))
 refine aC ?_
 refine aJ Try.results20 (.tmp Z (bK Z (fun q hq=>rO q hq)))
end Tor
end
section
namespace Tor
open Go Go.RowKit Go.Proofs
def mg (p:Nat × Nat):Prop:=2≤p.1∧p.1<2147483648∧gE p.1∧p.2<p.1
theorem dT {l:List (Nat × Nat)} {i:Nat} (h:i<l.length):l.getD i (0,0)∈l:=by
 rw [show l.getD i (0,0)=l[i] by simp [List.getD,h]]; exact List.getElem_mem h
theorem ji {l:List (Nat × Nat)} {i x:Nat} (hi:i≤l.length):x∈fH l i ↔ ∃ j,j<i∧(l.getD j (0,0)).1=x:=by
 unfold fH
 rw [List.mem_map]
 constructor
 ·rintro ⟨p,hp,rfl⟩
  obtain ⟨j,hj⟩:=List.mem_iff_getElem?.1 hp
  rw [List.getElem?_take] at hj
  split at hj
  ·rename_i h;exact ⟨j,h,by rw [List.getD,hj]; rfl⟩
  ·cases hj
 ·rintro ⟨j,hj,rfl⟩
  refine ⟨l.getD j (0,0),?_,rfl⟩
  refine List.mem_iff_getElem?.2 ⟨j,?_⟩
  rw [List.getElem?_take,if_pos hj]
  rw [List.getElem?_eq_getElem S]
  simp [List.getD,show j<l.length by omega]
theorem fE {l:List (Nat × Nat)} {i:Nat} (hi:i<l.length):(fH l (i+1)).Nodup↔(fH l i).Nodup∧(l.getD i (0,0)).1 ∉ fH l i:=by
 rw [jI hi,List.nodup_append]
 constructor
 ·rintro ⟨h1,_,h2⟩
  exact ⟨h1,fun h=>h2 _ h _ (List.mem_singleton.2 Z) Z⟩
 ·rintro ⟨h1,h2⟩
  exact ⟨h1,by simp,fun a ha b hb e=>h2 (by rw [← List.mem_singleton.1 hb, ← e]; exact ha)⟩
theorem rP (l:List (Nat × Nat)):fH l l.length=l.map (·.1):=by unfold fH;rw [List.take_length]
theorem jM {l:List (Nat × Nat)} {i:Nat} (h:(l.map (·.1)).Nodup):(fH l i).Nodup:=by
 unfold fH;rw [List.map_take]; exact List.Sublist.nodup (List.take_sublist _ _) h
attribute [local irreducible] J PJ aF one slT cS bP bZ exT cR eP bf be slV VT.le Ret cm fT jC
theorem rQ (l:List (Nat × Nat)) (hg : ∀ p∈l,mg p):Ok Try.prog 21 [cq l] (one (.bool (decide (l.map (·.1)).Nodup))):=by
 refine Ok.enter Try.func21 Z Try.ntmps21 Z (fun w O => ?_)
 refine fR (t:=0) Z (fun _ _ h=>ec (show (slT (.agg 2) l.length (fun i=>eU (l.getD i (0,0)))).p _ _ from h)) (fun hbound => ?_)
 unfold cq eU
 refine ae (ai (Am Z (Ao (aa (ae (ae (ai (Am Z (Ao ?_)))))))))
 refine aa (aw (cl (Γ' := [(0,_),(2,_),(3,_)]) Ag (SubM.refl _) ?_))
 refine bA (σ:=Nat) (Γk := [(0,_)]) Ag (fun i => [(3,one (.int .i64 (i:Nat)))]) (fun i M0=>M0) (fun i=>i≤l.length∧(fH l i).Nodup) (fun i=>l.length - i) (0) (⟨Nat.zero_le _,List.nodup_nil⟩) Ah (.nil) (fun i hi => ?_)
 refine bS (Γ' := [(3,_),(0,_)]) (M' := []) Z Z ?_
 obtain ⟨hi,hnd⟩:=hi
 by_cases hc:i<l.length
 ·obtain ⟨g1,g2,g3,g4⟩:=hg _ (dT hc)
  have hpr:=qy _ g1 g2 g3
  refine ae (ae (ai (Al Z (Al Z (Ak (aM Z) (Ak (sT S (bp Z Z)) (Ao (aa (aB Z ?_)))))))))
  refine au (aa (ae (aw (ae (ae (aU 28 aR X Y (Al Z (Al Z (Ak (ar Z Z S) ?_)))))))))
  refine Ak (bq Z Z) (Ak (aE Z) (Ak (sF S (dC Z Z)) (Al Z (An (ab Z) (An (ab Z) (An (ar Z Z S) (An (bq Z Z) (An (aE Z) ?_))))))))
  refine An (aj (hpr) Z ⟨A,Ap⟩) ?_
  refine An (cv Z) (Ak (aY Z Z) (Al Z (An (ab Z) (An (ab Z) (An (ar Z Z S) (An (bq Z Z) (An (aE Z) (An (ab Z) (An (ab Z) ?_)))))))))
  refine An (ar Z Z S) (An (bq Z Z) (An (aE Z) (An (sF S (dC Z Z)) (Ak (aY Z Z) (Ao (Ao (aa (az Z (au ?_)))))))))
  refine aa (ae (ai (Am Z (Ao (aa (aw (cl (Γ' := [(0,_),(3,_),(4,_)]) Ag (SubM.refl _) ?_)))))))
  refine bA (σ:=Nat) (Γk := [(0,_),(3,_)]) Ag (fun k => [(4,one (.int .i64 (k:Nat)))]) (fun k M0=>M0) (fun k=>k≤i ∧ ∀ j,j<k→(l.getD j (0,0)).1≠(l.getD i (0,0)).1) (fun k=>i - k) (0) (⟨Nat.zero_le _,fun j h=>absurd h (Nat.not_lt_zero _)⟩) Ah (.nil) (fun k hk => ?_)
  refine bS (Γ' := [(4,_),(0,_),(3,_)]) (M' := []) Z Z ?_
  obtain ⟨hk,hne⟩:=hk
  by_cases hkc:k<i
  ·by_cases he:(l.getD k (0,0)).1=(l.getD i (0,0)).1
   ·have hdup : ¬ (l.map (·.1)).Nodup:=fun h=>by
     have h2:=jM (i:=i+1) h
     rw [fE hc] at h2
     exact h2.2 ((ji hi).2 ⟨k,hkc,he⟩)
    rw [decide_eq_false hdup]
    refine ae (ae (ai (Al Z (Al Z (Ak (sT S (bp Z Z)) (Ao (aa (aB Z (au ?_)))))))))
    refine aa (ae (aw (ae (aU 11 aR X Y (Al Z (Al Z (Ak (ar Z Z S) (Ak (bq Z Z) (Ak (aE Z) ?_)))))))))
    refine Al Z (Al Z (Ak (ar Z Z S) (Ak (bq Z Z) (Ak (aE Z) (Ak (sT S (bW Z Z)) (Ao (Ao (aa (aB Z ?_)))))))))
    refine ae (ai (Am Z (Ao (aa (aC (aZ (aD (aD (aZ ?_)))))))))
    refine aZ (aD (aD (aZ (aD ?_))))
    refine aJ Try.results21 (.tmp Z A)
   ·refine ae (ae (ai (Al Z (Al Z (Ak (sT S (bp Z Z)) (Ao (aa (aB Z (au ?_)))))))))
    refine aa (ae (aw (ae (aU 11 aR X Y (Al Z (Al Z (Ak (ar Z Z S) (Ak (bq Z Z) (Ak (aE Z) ?_)))))))))
    refine Al Z (Al Z (Ak (ar Z Z S) (Ak (bq Z Z) (Ak (aE Z) (Ak (sF S (bW Z Z)) (Ao (Ao (aa (az Z ?_)))))))))
    refine au (aK (aa (ai (Al Z (Ak (bX _ 1 Z Z S) (Am Z (Ao ?_)))))))
    refine aN (k+1) (⟨hkc,fun j hj=>by rcases Nat.lt_or_eq_of_le (Nat.lt_succ_iff.1 hj) with h | h;exact hne j h;rw [h]; exact he⟩) S Ah (.nil)
  ·have hki:k=i:=by omega
   have hnn:(fH l (i+1)).Nodup:=(fE hc).2 ⟨hnd,fun h=>by
    obtain ⟨j,h1,h2⟩:=(ji hi).1 h
    exact hne j S h2⟩
   refine ae (ae (ai (Al Z (Al Z (Ak (sF S (bp Z Z)) (Ao (aa (az Z (a6 ?_)))))))))
   refine ay (ay (aI (aK (aa (ai (Al Z (Ak (bX _ 1 Z Z S) (Am Z (Ao ?_)))))))))
   refine aN (i+1) (⟨hc,hnn⟩) S Ah (.nil)
 ·have hl:i=l.length:=by omega
  rw [hl,rP] at hnd
  rw [decide_eq_true hnd]
  refine ae (ae (ai (Al Z (Al Z (Ak (aM Z) (Ak (sF S (bp Z Z)) (Ao (aa (az Z ?_)))))))))
  refine a6 (ay (ay (aI (aa (ae (ai (Am Z (Ao (aa ?_)))))))))
  refine aC ?_
  refine aJ Try.results21 (.tmp Z A)
theorem rR {l:List Nat} {c:Nat} (h:c<l.length):lv (l.drop c)=lv (l.drop (c+1))*4294967296+l.getD c 0:=by
 rw [ed h,lv]; omega
theorem qz (n:Nat) (hn:n<9223372036854775808):Ok Try.prog 42 [aS (n:Int)] (bZ [one (.int .i64 (n:Int)),one (.bool true)]):=by
 have hl2:(ax n).length≤2:=cB (Nat.lt_trans hn Y)
 have hlv:=bh n
 have hlim:=aG n
 have hneg : ¬ (n:Int)<0:=by omega
 unfold aS
 rw [Int.natAbs_natCast,decide_eq_false hneg]
 refine Ok.enter Try.func42 Z Try.ntmps42 Z (fun w O => ?_)
 refine ae (ai ?_)
 refine aO Z Z (ltN Z) (fun b1 => ?_)
 refine Am Z (Am Z (Ao (aa (ae (ae (ai (Ak (am Z) (Ak (ak 0 Z Z Z) (Ak (aM Z) ?_)))))))))
 refine Ak (sF S (cT Z Z)) (Ao (aa (az Z (au (aa (ae (ai (Am Z (Ao ?_)))))))))
 refine aa (ae (ae (ai (Ak (am Z) (Ak (ak 0 Z Z Z) (Ak (aM Z) (Ak (dE Z Z (aT S S)) (Am Z (Ao ?_)))))))))
 refine aa (aw (cl (Γ' := [(1,_),(2,_),(3,_),(4,_),(5,_)]) Ag (SubM.refl _) ?_))
 refine bA (σ:=Nat) (Γk := [(1,_),(2,_),(3,_)]) Ag (fun c => [(5,one (.int .i64 ((c:Nat) - 1:Int))),(4,one (.int .u64 (lv ((ax n).drop c):Nat)))]) (fun c M0=>M0) (fun c=>c≤(ax n).length) (fun c=>c) ((ax n).length) (Nat.le_refl _) (gK.cons Z A (gK.cons Z (aq (by rw [List.drop_length]; rfl)) gK.nil)) (.keep Aj (.nil)) (fun c hc => ?_)
 refine bS (Γ' := [(5,_),(4,_),(1,_),(2,_),(3,_)]) (M' := [_]) Z Z ?_
 cases c with
 | zero =>
  rw [List.drop_zero,hlv]
  refine ae (ae (ai (Al Z (Ak (sF S (dC Z Z)) (Ao (aa (az Z (a6 (ay ?_)))))))))
  refine ay (aI (aa (ae (ae (ai (Ak (am Z) (Ak (ak 0 Z Z Z) (Ao (aa ?_)))))))))
  refine az Z (au (aa (ae (ai (Al Z (Ak (ej Z S S) (Al Z (Ak (sT S (kw Z Z)) (Am Z ?_)))))))))
  refine Am Z (Ao (aa (aC ?_)))
  refine de Try.results42 (.tmp Z A) (.tmp Z A)
 | succ c =>
  have hdv:=rR (l:=ax n) (c:=c) hc
  have hg:=aL hlim c
  have hle:lv ((ax n).drop c)≤n:=by
   have:=el (ax n) c S
   rw [hlv] at this
   have hp:0<4294967296^c:=Nat.pow_pos Y
   have:=Nat.le_mul_of_pos_left (lv ((ax n).drop c)) hp
   omega
  have en:((c+1:Nat):Int) - 1=(c:Nat):=by omega
  rw [en]
  generalize lv ((ax n).drop (c+1))=z at *
  refine ae (ae (ai (Al Z (Ak (sT S (dC Z Z)) (Ao (aa (aB Z (au (aa ?_)))))))))
  refine ae (aw (ai (Al Z (Ak (dK (b:=4294967296) Z Z S) (Ak (am Z) (Ak (ak 0 Z Z Z) (Al Z (Ak (ar Z Z S) (Ak (aE Z) ?_)))))))))
  refine Ak (bc Z S) (Ak (cL Z Z S) (Am Z (Ao (aK (aa (ai (Al Z (Ak (dE Z Z (aT S S)) (Am Z ?_)))))))))
  refine Ao ?_
  refine aN (c) (Nat.le_of_succ_le hc) S (gK.cons Z A (gK.cons Z (aq (by rw [hdv])) (gK.cons Z A (gK.cons Z A (gK.cons Z A gK.nil))))) (.keep Aj (.nil))
def tX (p:Nat × Nat):VT:=bP 2 [(0, .one,one (.int .u8 (p.1:Int))),(1, .one,one (.int .u32 (p.2:Int)))]
def n8 (l:List (Nat × Nat)):VT:=slT (.agg 2) l.length (fun i=>tX (l.getD i (0,0)))
def pJ (l:List (Nat × Nat)):Prop := ∀ p∈l,p.1<256∧p.2<4294967296
theorem pJ.get {l:List (Nat × Nat)} (h:pJ l) (i:Nat):(l.getD i (0,0)).1<256∧(l.getD i (0,0)).2<4294967296:=by
 rw [List.getD]
 cases hx:l[i]? with
 | none => simp
 | some x => simp; exact h x (List.mem_of_getElem? hx)
def cX (p:Nat × Nat):Nat:=ix.getD (p.1 % 18) 0
def iy (out:List (Nat × Nat)) (p:Nat × Nat):List (Nat × Nat):=if cX p∈out.map (·.1) then out else out ++ [(cX p,p.2 % cX p)]
def fF (l:List (Nat × Nat)):List (Nat × Nat):=l.foldl iy []
theorem jZ (p:Nat × Nat):cX p∈ix:=by
 unfold cX
 have h:p.1 % 18<ix.length:=by show _<18;omega
 rw [show ix.getD (p.1 % 18) 0=ix[p.1 % 18] by simp [List.getD,h]]
 exact List.getElem_mem h
theorem fg : ∀ p∈ix,2≤p∧p<2147483648:=by
 have h:(ix.all fun p=>decide (2≤p) && decide (p<2147483648))=true:=by decide
 intro p hp
 have:=List.all_eq_true.1 h p hp
 simpa using this
structure MadeR (out:List (Nat × Nat)):Prop where
 good : ∀ p∈out,p.1∈ix∧p.2<p.1
 nd:(out.map (·.1)).Nodup
theorem MadeR.goodR {out:List (Nat × Nat)} (h:MadeR out) : ∀ p∈out,mg p:=fun p hp =>
 let ⟨h1,h2⟩:=h.good p hp
 ⟨(fg _ h1).1,(fg _ h1).2,jY _ h1,h2⟩
theorem MadeR.new {out:List (Nat × Nat)} (h:MadeR out) (p:Nat × Nat) : ∀ q∈out ++ [(cX p,p.2 % cX p)],q.1∈ix∧q.2<q.1:=fun q hq=>by
 rcases List.mem_append.1 hq with hq | hq
 ·exact h.good q hq
 ·rw [List.mem_singleton.1 hq]
  have hp:=jZ p
  exact ⟨hp,Nat.mod_lt _ (by have:=(fg _ hp).1;omega)⟩
theorem MadeR.newR {out:List (Nat × Nat)} (h:MadeR out) (p:Nat × Nat) : ∀ q∈out ++ [(cX p,p.2 % cX p)],mg q:=fun q hq =>
 let ⟨h1,h2⟩:=h.new p q hq
 ⟨(fg _ h1).1,(fg _ h1).2,jY _ h1,h2⟩
theorem rS {out:List (Nat × Nat)} (h:(out.map (·.1)).Nodup) (x:Nat × Nat):((out ++ [x]).map (·.1)).Nodup↔x.1 ∉ out.map (·.1):=by
 rw [List.map_append,List.nodup_append]
 constructor
 ·rintro ⟨_,_,h2⟩ hm
  exact h2 _ hm _ (List.mem_singleton.2 Z) Z
 ·intro hn
  exact ⟨h,by simp,fun a ha b hb e=>hn (by simp at hb;rw [← hb, ← e]; exact ha)⟩
theorem MadeR.step {out:List (Nat × Nat)} (h:MadeR out) (p:Nat × Nat):MadeR (iy out p):=by
 unfold iy
 split
 ·exact h
 ·rename_i hn
  exact ⟨h.new p,(rS h.nd _).2 hn⟩
theorem lg : ∀ (l:List (Nat × Nat)) (out:List (Nat × Nat)),MadeR out→MadeR (l.foldl iy out)
 | [], _, h => h
 | p :: l, out, h => lg l _ (h.step p)
theorem tY (l:List (Nat × Nat)):MadeR (fF l):=lg l [] ⟨(fun p hp=>by cases hp),List.nodup_nil⟩
theorem lh : ∀ (l:List (Nat × Nat)) (out:List (Nat × Nat)),(l.foldl iy out).length≤out.length+l.length
 | [], _ => Nat.le_refl _
 | p :: l, out => by
  have:=lh l (iy out p)
  have h2:(iy out p).length≤out.length+1:=by
   unfold iy;split
   ·omega
   ·rw [List.length_append]; exact Nat.le_refl _
  rw [List.foldl_cons,List.length_cons]
  omega
theorem oT {l:List (Nat × Nat)} {i:Nat} (h:i<l.length):fF (l.take (i+1))=iy (fF (l.take i)) (l.getD i (0,0)):=by
 unfold fF;rw [d7 (0,0) h,List.foldl_append]; rfl
theorem mh {l:List (Nat × Nat)} {x:Nat × Nat} {φ:VT} {ψ:Nat→VT} (h:φ=eU x):VT.le (slT (.agg 2) (0+l.length+1) (fun q=>if q<0+l.length then if q<0 then ψ q else eU (l.getD (q - 0) (0,0)) else φ)) (cq (l ++ [x])):=by
 subst h
 refine bK (by simp) (fun q hq => ?_)
 by_cases h:q<0+l.length
 ·rw [if_pos h,if_neg (Nat.not_lt_zero _)]
  simp [List.getD,List.getElem?_append,show q<l.length by omega]
 ·rw [if_neg h]
  have:q=l.length:=by omega
  subst this
  simp [List.getD]
theorem qA (l:List (Nat × Nat)) (n:Nat) (h64:pJ l) (hn:n≤16):Ok Try.prog 6 [n8 l,one (.int .i64 (n:Int))] (cq (fF (l.take n))):=by
 refine Ok.enter Try.func6 Z Try.ntmps6 Z (fun w O => ?_)
 unfold n8 tX
 refine fR (t:=0) Z (fun _ _ h=>ec h) (fun hbound => ?_)
 refine ae (ai (Am Z (Ao (aa (ae (ai (nq (n:=0) Z Z Z Z Z ?_)))))))
 refine PartsK.nil (fun bl => ?_)
 refine Am Z (Ao (aa (ae (ae (ai (Am Z (Ao (aa (aw ?_)))))))))
 refine qZ (t:=5) (i:=0) Z Z (cl (Γ' := [(0,_),(1,_),(4,_),(5,_),(6,_)]) Ag (SubM.refl _) ?_)
 refine bA (σ:=Nat) (Γk := [(0,_),(1,_),(4,_)]) Ag (fun i => [(6,one (.int .i64 (i:Nat))),(5,cq (fF (l.take i)))]) (fun i M0=>M0) (fun i=>i≤l.length∧i≤n) (fun i=>l.length - i) (0) (⟨Nat.zero_le _,Nat.zero_le _⟩) (gK.cons Z A (gK.cons Z (bK Z (fun q hq=>absurd hq (Nat.not_lt_zero _))) gK.nil)) (.nil) (fun i hi => ?_)
 refine bS (Γ' := [(6,_),(5,_),(0,_),(1,_),(4,_)]) (M' := []) Z Z ?_
 obtain ⟨hi,hin⟩:=hi
 by_cases hc:i<l.length∧i<n
 ·obtain ⟨hc1,hc2⟩:=hc
  obtain ⟨r1,r2⟩:=h64.get i
  have hm:=tY (l.take i)
  have hml:(fF (l.take i)).length≤i:=by
   have:=lh (l.take i) []
   unfold fF
   rw [List.length_take,List.length_nil] at this
   omega
  have hps:=jZ (l.getD i (0,0))
  obtain ⟨p1,p2⟩:=fg _ hps
  have hsl:=oT hc1
  unfold cX at p1 p2
  refine ae (ae (ai (Al Z (Al Z (Ak (aM Z) (Ak (sT S (bp Z Z)) (Al Z (An (ab Z) (An (ab Z) ?_)))))))))
  refine An (sT S (bp Z Z)) (Ak (a9 Z Z) (Ao (aa (aB Z (au (aa (ae (aw (ae ?_)))))))))
  refine aU 10 aR X Y (Ak (aj (tv) Z trivial) (Al Z (Al Z (Ak (ar Z Z S) (Ak (bq Z Z) (Ak (aE Z) (Ak (ej Z S S) (Ak (dW 18 Z Z Z Y) (Ak (ar Z Z S) ?_)))))))))
  refine Ak (aE Z) (Ao (Am Z (Ao (aa (ae (ai (nq (n:=0) Z Z Z Z Z ?_)))))))
  refine PartsK.nil (fun bl => ?_)
  refine Al Z ?_
  (refine eg 0 Z Z Z (leN Z) ?_ ?_ Z (ltN Z) (fun sv33 cap33 => ?_);omega;omega)
  refine Am Z (Ao (aa (ae (ai (Al Z (Al Z (Al Z (Al Z (Ak (ar Z Z S) ?_)))))))))
  refine Ak (bq Z Z) (Ak (aE Z) (Ak (bc Z S) (Al Z (Ak (dW _ Z Z Z S) (stB Z Z Z (BuildK.cons Z Z Z (BuildK.cons Z Z Z (BuildK.nil (kb Z Z Z Z ?_)))))))))
  (refine eg 0 Z Z Z (leN Z) ?_ ?_ Z (ltN Z) (fun sv46 cap46 => ?_);omega;omega)
  refine Am Z (Ao (aa (ae (ai (Al Z (nX (t1:=47) (t2:=8) (j:=0) Z Z Z (iO (t:=47) (ψ:=cq (fF (l.take i) ++ [(cX (l.getD i (0,0)),(l.getD i (0,0)).2 % cX (l.getD i (0,0)))])) Z (mh Z) (iO (t:=8) (ψ:=cq (fF (l.take i) ++ [(cX (l.getD i (0,0)),(l.getD i (0,0)).2 % cX (l.getD i (0,0)))])) Z (mh Z) ?_))))))))
  have hv:=rQ _ (hm.newR (l.getD i (0,0)))
  have hnd:=rS hm.nd (cX (l.getD i (0,0)),(l.getD i (0,0)).2 % cX (l.getD i (0,0)))
  unfold iy at hsl
  by_cases hd:cX (l.getD i (0,0))∈(fF (l.take i)).map (·.1)
  ·rw [if_pos hd] at hsl
   rw [decide_eq_false (fun h=>hnd.1 h hd)] at hv
   refine Ak (aj (hv) Z ⟨A,Ap⟩) ?_
   refine Ao (aa (az Z (au (aK (aa (ai (Al Z (Ak (bX _ 1 Z Z S) (Am Z ?_)))))))))
   refine Ao ?_
   refine aN (i+1) (⟨hc1,hc2⟩) S (gK.cons Z A (gK.cons Z (by rw [hsl]; exact VT.le_refl _) (gK.cons Z A (gK.cons Z A (gK.cons Z A gK.nil))))) (.nil)
  ·rw [if_neg hd] at hsl
   rw [decide_eq_true (hnd.2 hd)] at hv
   refine Ak (aj (hv) Z ⟨A,Ap⟩) ?_
   refine Ao (aa (aB Z (ai (Al Z (Am Z (Ao (aK (aa (ai ?_)))))))))
   refine Al Z (Ak (bX _ 1 Z Z S) (Am Z (Ao ?_)))
   refine aN (i+1) (⟨hc1,hc2⟩) S (gK.cons Z A (gK.cons Z (by rw [hsl]; exact VT.le_refl _) (gK.cons Z A (gK.cons Z A (gK.cons Z A gK.nil))))) (.nil)
 ·have he:l.take i=l.take n:=by
   rcases Nat.lt_or_ge i l.length with h | h
   ·rw [show i=n by omega]
   ·rw [List.take_of_length_le h,List.take_of_length_le S]
  rw [he]
  by_cases h1:i<l.length
  ·have h2 : ¬ i<n:=fun h=>hc ⟨h1,h⟩
   refine ae (ae (ai (Al Z (Al Z (Ak (aM Z) (Ak (sT S (bp Z Z)) (Al Z (An (ab Z) (An (ab Z) ?_)))))))))
   refine An (sF S (bp Z Z)) (Ak (a9 Z Z) (Ao (aa (az Z (a6 (ay (ay (aI (aa ?_)))))))))
   refine ae (ai (Al Z (Am Z (Ao (aa (aC ?_))))))
   refine aJ Try.results6 (.tmp Z A)
  ·refine ae (ae (ai (Al Z (Al Z (Ak (aM Z) (Ak (sF S (bp Z Z)) (Al Z (sg0 Z Z Z Z (sg0 Z Z Z Z ?_)))))))))
   refine sg0 Z Z Z Z (Ak (aY Z Z) (Ao (aa (az Z (a6 (ay (ay (aI (aa ?_)))))))))
   refine ae (ai (Al Z (Am Z (Ao (aa (aC ?_))))))
   refine aJ Try.results6 (.tmp Z A)
end Tor
end
section
namespace Tor
open Go Go.RowKit Go.Proofs
def bD (l:List (Nat × Nat)):Nat:=l.foldl (fun m p=>m*p.1) 1
def lO (p a:Nat):Nat:=if a=0 then 0 else a^(p - 2) % p
def oU (s p:Nat × Nat):Nat:=((p.2+p.1 - s.1 % p.1) % p.1)*lO p.1 (s.2 % p.1) % p.1
def fO (s p:Nat × Nat):Nat × Nat:=(s.1+s.2*oU s p,s.2*p.1)
def ct (l:List (Nat × Nat)):Nat × Nat:=l.foldl fO (0,1)
def iz (l:List (Nat × Nat)):Int:=if (ct l).2<(ct l).1+(ct l).1 then ((ct l).1:Int) - ((ct l).2:Int) else ((ct l).1:Int)
def ew (l:List (Nat × Nat)) (a:Int):Bool:=l.all fun p=>decide ((a % (p.1:Int)).toNat=p.2)
theorem cZ {α β:Type} (f:β→α→β) (b:β) {l:List α} (d:α) {i:Nat} (h:i<l.length):(l.take (i+1)).foldl f b=f ((l.take i).foldl f b) (l.getD i d):=by
 rw [d7 d h,List.foldl_append]; rfl
theorem n9 {m p i k:Nat} (hm:m≤2^(k*i)) (hp:p<2^k):m*p≤2^(k*(i+1)):=by
 rw [Nat.mul_add,Nat.pow_add,Nat.mul_one]
 exact Nat.mul_le_mul hm (Nat.le_of_lt hp)
theorem jj {l:List (Nat × Nat)} (h:eZ l) : ∀ i,i≤l.length→bD (l.take i)≤2^(64*i)
 | 0, _ => Nat.le_refl _
 | i + 1, hi => by
  unfold bD
  rw [cZ _ _ (0,0) hi]
  exact n9 (jj h i S) (h.get i).1
def vi (p:Nat × Nat):Prop:=bT p.1=true∧2≤p.1∧p.1<2147483648∧p.2<p.1
theorem qB {n:Nat} (h:bT n=true):2≤n∧n<2147483648:=by
 unfold bT at h
 by_cases c:n<2∨2147483648≤n
 ·rw [if_pos c] at h;cases h
 ·omega
theorem fP : ∀ {l:List (Nat × Nat)} {s:List Nat},bY s l=true → ∀ p∈l,vi p
 | [], _, _, p, hp => by cases hp
 | q :: r, s, h, p, hp => by
  rw [bY] at h
  split at h
  ·cases h
  split at h
  ·cases h
  split at h
  ·cases h
  rename_i h1 h2 h3
  rcases List.mem_cons.1 hp with rfl | hp
  ·have hb:bT p.1=true:=by cases hx:bT p.1 <;> simp_all
   obtain ⟨k1,k2⟩:=qB hb
   exact ⟨hb,k1,k2,by omega⟩
  ·exact fP h p hp
theorem jN {l:List (Nat × Nat)} {i:Nat} (h:i<l.length):l.getD i (0,0)∈l:=by
 rw [show l.getD i (0,0)=l[i] by simp [List.getD,h]]; exact List.getElem_mem h
theorem pK {s p:Nat × Nat} (h:2≤p.1):oU s p<p.1:=Nat.mod_lt _ S
theorem jk {l:List (Nat × Nat)} (h : ∀ p∈l,vi p) : ∀ i,i≤l.length→(ct (l.take i)).1<(ct (l.take i)).2∧(ct (l.take i)).2≤2^(31*i)
 | 0, _ => ⟨Nat.zero_lt_one, Nat.le_refl _⟩
 | i + 1, hi => by
  unfold ct
  rw [cZ _ _ (0,0) hi]
  obtain ⟨k1,k2⟩:=jk h i S
  obtain ⟨_,g1,g2,g3⟩:=h _ (jN hi)
  have ht:=pK (s:=ct (l.take i)) g1
  unfold ct at *
  generalize (l.take i).foldl fO (0,1)=s at *
  generalize l.getD i (0,0)=p at *
  unfold fO
  refine ⟨?_,n9 k2 g2⟩
  show s.1+s.2*oU s p<s.2*p.1
  have:=Nat.mul_le_mul_left s.2 (Nat.succ_le_of_lt ht)
  rw [Nat.mul_succ] at this
  omega
theorem dU {m n:Nat} (h:m≤2^n) (hn:n<2048):a4 (m:Int):=cD (by
 rw [Int.natAbs_natCast]
 exact Nat.lt_of_le_of_lt h (Nat.pow_lt_pow_right (a:=2) (m:=n) (n:=2048) Y hn))
theorem pL {a b a' b':VT} (h:VT.le a a') (h':VT.le b b'):VT.le (bZ [a,b]) (bZ [a',b']):=fun v g ⟨vs,e,hp⟩=>⟨vs,e,by
 match vs,hp with
 | [x, y], ⟨h1, h2, _⟩ => exact ⟨h _ _ h1, h' _ _ h2, trivial⟩⟩
theorem pM {b:Nat} {T:TypeId} {m:Nat} {x y:Int} (h:x=y):Own.le (bf b T m [(0, .agg 2,aS x)]) (bf b T m [(0, .agg 2,aS y)]):=h▸Own.le_refl _
theorem j5 {l:List (Nat × Nat)} {v:Go.Value} {h:Hp} (H:(cq l).p v h):l.length≤2^48:=ec H
attribute [local irreducible] J PJ aF one slT cS bP bZ exT cR eP bf be slV VT.le Ret cm fT jC
theorem rT (l:List (Nat × Nat)) (i:Nat) (hi:i<l.length):Ok Try.prog 24 [cq l,one (.int .i64 (i:Nat))] (eU (l.getD i (0,0))):=by
 unfold cq
 refine Ok.enter Try.func24 Z Try.ntmps24 Z (fun w O => ?_)
 refine ae (ai ?_)
 refine cg (T:=43) Z Z Z (fun b4 => ?_)
 refine Ao (aa (ae (ai (Al Z (Al Z (Ak (ar Z Z S) (Ak (aE Z) (bg 0 Z Z Z Z (Ao ?_)))))))))
 refine aa (aC ?_)
 refine aJ Try.results24 (.cellW 0 Z Z A)
theorem gw (l:List (Nat × Nat)) (h64:eZ l) (hl:l.length≤16):Ok Try.prog 11 [cq l] (aS (bD l:Nat)):=by
 have hof:=gT 1 Y Y
 refine Ok.enter Try.func11 Z Try.ntmps11 Z (fun w O => ?_)
 refine ae (ai ?_)
 refine av (T:=29) Z (ltN Z) (fun b2 => ?_)
 refine Ao (aa (ae (ai ?_)))
 refine Ak (aj (hof) Z ⟨A,Ap⟩) ?_
 refine av (T:=29) Z (ltN Z) (fun b3 => ?_)
 refine ao 0 Z Z Z Z Z (leN Z) Z (Ao (aa (ae (ai (Al Z (Ak (iJ Z) (Am Z (Ao (aa ?_)))))))))
 refine ae (ae (ai (Al Z (Ak (aM Z) (Al Z (Ao (aa (aw (cl (Γ' := [(2,_),(3,_),(4,_),(10,_),(11,_)]) Ag (SubM.refl _) ?_)))))))))
 refine bA (σ:=Nat) (Γk := [(2,_),(3,_),(4,_),(10,_)]) Ag (fun i => [(11,one (.int .i64 (i:Nat)))]) (fun i M0=>(M0.set 0 (bf b3 29 (Lay.agg 2).sz [(0,Lay.agg 2,aS (bD (l.take i):Nat))]))) (fun i=>i≤l.length) (fun i=>l.length - i) (0) (Nat.zero_le _) Ah (.keep Aj (.keep Aj (.nil))) (fun i hi => ?_)
 refine bS (Γ' := [(11,_),(2,_),(3,_),(4,_),(10,_)]) (M' := [_,_]) Z Z ?_
 by_cases hc:i<l.length
 ·obtain ⟨h1,h2⟩:=h64.get i
  have hat:=rT l i hc
  have hwd:=lc _ h1
  have s1:=dU (jj h64 i hi) S
  have s2:a4 ((l.getD i (0,0)).1:Int):=dU (n:=64) S Y
  have hmu:=ie _ _ s1 s2
  have e:((bD (l.take i):Nat):Int)*((l.getD i (0,0)).1:Int)=((bD (l.take (i+1)):Nat):Int):=by
   unfold bD;rw [cZ _ _ (0,0) hc,Int.natCast_mul]
  rw [e] at hmu
  unfold eU at hat
  refine ae (ai (Ak (sT S (bp Z Z)) (Ao (aa (ae (aB Z (au (aa (ae ?_)))))))))
  refine aw (ae (ai (Al Z (Am Z (Ao (aa (aU 7 aR X Y (Ak (ak 0 Z Z Z) (Al Z ?_)))))))))
  refine Al Z ?_
  refine Ak (fu Z (hat) Z ⟨A,A,Ap⟩) ?_
  refine Ak (gk Z Z) ?_
  refine Ak (aj (hwd) Z ⟨A,Ap⟩) ?_
  refine Ak (aj (hmu) Z ⟨A,A,Ap⟩) ?_
  refine Ao (ao 0 Z Z Z Z Z (leN Z) Z (Ao (aK (aa (ai (Ak (bX _ 1 Z Z S) (Al Z (Ao ?_))))))))
  refine aN (i+1) (hc) S Ah (.keep Aj (.keep Aj (.nil)))
 ·have he:i=l.length:=by omega
  rw [he,List.take_length]
  refine ae (ai (Ak (sF S (bp Z Z)) (Ao (aa (ae (az Z (a6 (ay (ay ?_)))))))))
  refine aI (aa (ae (ai (Ak (ak 0 Z Z Z) (ao 1 Z Z Z Z Z (leN Z) Z (Ao (aa (aC ?_))))))))
  refine aJ Try.results11 (.cellB 1 Z Z Z A)
theorem li {l:List (Nat × Nat)} {a:Int} {i:Nat} (h:i<l.length):ew (l.take (i+1)) a=(ew (l.take i) a && decide ((a % ((l.getD i (0,0)).1:Int)).toNat=(l.getD i (0,0)).2)):=by
 unfold ew;rw [d7 (0,0) h,List.all_append]; simp
theorem j6 {l:List (Nat × Nat)} {a:Int} {i:Nat} (h:ew (l.take i) a=false):ew l a=false:=by
 rw [← List.take_append_drop i l]; unfold ew at *; rw [List.all_append,h]; rfl
theorem dB (l:List (Nat × Nat)) (a:Int) (h64:eZ l) (ha:a4 a):Ok Try.prog 13 [cq l,aS a] (one (.bool (bY [] l && ew l a))):=by
 have hva:=jJ l h64
 refine Ok.enter Try.func13 Z Try.ntmps13 Z (fun w O => ?_)
 refine fR (t:=0) Z (fun _ _=>j5) (fun hbound => ?_)
 cases hv:bY [] l
 ·rw [hv] at hva
  refine ae (ai ?_)
  refine aO Z Z (ltN Z) (fun b3 => ?_)
  refine Am Z (Ao (aa (ae (ae (ai (Al Z ?_))))))
  refine Ak (aj (hva) Z ⟨A,Ap⟩) ?_
  refine Ak (cv Z) (Ao (aa (aB Z (ae (ai (Am Z (Ao (aa (aC ?_)))))))))
  refine aD ?_
  refine aJ Try.results13 (.tmp Z A)
 ·rw [hv] at hva
  have hg:=fP hv
  rw [Bool.true_and]
  refine ae (ai ?_)
  refine aO Z Z (ltN Z) (fun b3 => ?_)
  refine Am Z (Ao (aa (ae (ae (ai (Al Z ?_))))))
  refine Ak (aj (hva) Z ⟨A,Ap⟩) ?_
  refine Ak (cv Z) (Ao (aa (az Z (au (aa (ae (ai (Al Z (Ak (iJ Z) ?_)))))))))
  refine Am Z (Ao (aa (ae (ae (ai (Al Z (Ak (aM Z) (Al Z (Ao ?_)))))))))
  refine aa (aw (cl (Γ' := [(3,_),(4,_),(5,_),(13,_),(14,_)]) Ag (SubM.refl _) ?_))
  refine bA (σ:=Nat) (Γk := [(3,_),(5,_),(13,_)]) Ag (fun i => [(14,one (.int .i64 (i:Nat)))]) (fun i M0=>M0) (fun i=>i≤l.length∧ew (l.take i) a=true) (fun i=>l.length - i) (0) (⟨Nat.zero_le _,rfl⟩) Ah (.keep Aj (.nil)) (fun i hi => ?_)
  refine bS (Γ' := [(14,_),(3,_),(5,_),(13,_)]) (M' := [_]) Z Z ?_
  obtain ⟨hi,hco⟩:=hi
  by_cases hc:i<l.length
  ·obtain ⟨h1,h2⟩:=h64.get i
   obtain ⟨_,g1,g2,g3⟩:=hg _ (jN hc)
   have hat:=rT l i hc
   have hre:=iL (l.getD i (0,0)).1 a S S ha
   have hst:=li (a:=a) hc
   rw [hco,Bool.true_and] at hst
   unfold eU at hat
   by_cases c:(a % ((l.getD i (0,0)).1:Int)).toNat=(l.getD i (0,0)).2
   ·rw [decide_eq_true c] at hst
    refine ae (ai (Ak (sT S (bp Z Z)) (Ao (aa (ae (aB Z (au (aa (ae ?_)))))))))
    refine aw (ae (ai (Al Z (Am Z (Ao (aa (ae (aU 11 aR X Y (Al Z ?_)))))))))
    refine Al Z ?_
    refine Ak (fu Z (hat) Z ⟨A,A,Ap⟩) ?_
    refine Ak (gk Z Z) (Ak (aP 0 Z Z) ?_)
    refine Ak (aj (hre) Z ⟨A,A,Ap⟩) ?_
    refine Al Z (Al Z ?_)
    refine Ak (fu Z (hat) Z ⟨A,A,Ap⟩) ?_
    refine Ak (gk Z Z) (Ak (sF S (gl Z Z)) (Ao (Ao (aa (az Z (au (aK (aa (ai ?_)))))))))
    refine Ak (bX _ 1 Z Z S) (Al Z (Ao ?_))
    refine aN (i+1) (⟨hc,hst⟩) S Ah (.keep Aj (.nil))
   ·rw [decide_eq_false c] at hst
    rw [j6 hst]
    refine ae (ai (Ak (sT S (bp Z Z)) (Ao (aa (ae (aB Z (au (aa (ae ?_)))))))))
    refine aw (ae (ai (Al Z (Am Z (Ao (aa (ae (aU 11 aR X Y (Al Z ?_)))))))))
    refine Al Z ?_
    refine Ak (fu Z (hat) Z ⟨A,A,Ap⟩) ?_
    refine Ak (gk Z Z) (Ak (aP 0 Z Z) ?_)
    refine Ak (aj (hre) Z ⟨A,A,Ap⟩) ?_
    refine Al Z (Al Z ?_)
    refine Ak (fu Z (hat) Z ⟨A,A,Ap⟩) ?_
    refine Ak (gk Z Z) (Ak (sT S (gl Z Z)) (Ao (Ao (aa (aB Z (ae (ai (Am Z (Ao ?_)))))))))
    refine aa (aC (aZ (aD (aD (aZ (aD ?_))))))
    refine aJ Try.results13 (.tmp Z A)
  ·have he:i=l.length:=by omega
   rw [he,List.take_length] at hco
   rw [hco]
   refine ae (ai (Ak (sF S (bp Z Z)) (Ao (aa (ae (az Z (a6 (ay (ay ?_)))))))))
   refine aI (aa (ae (ai (Am Z (Ao (aa (aC ?_)))))))
   refine aJ Try.results13 (.tmp Z A)
theorem rU (p:Nat):Ok Try.prog 25 [one (.int .u64 (p:Int)),one (.int .u64 0)] (bZ [one (.int .u64 0),one (.int .i64 30)]):=by
 refine Ok.enter Try.func25 Z Try.ntmps25 Z (fun w O => ?_)
 refine ae (ai (Am Z (Am Z (Ao (aa (ae (ae (ai (Al Z ?_)))))))))
 refine Ak (sT S (bW Z Z)) (Ao (aa (aB Z (ae (ai (Am Z (Am Z (Ao (aa ?_)))))))))
 refine aC (aD ?_)
 refine de Try.results25 (.tmp Z A) (.tmp Z A)
theorem rV (p a:Nat) (hp2:2≤p) (hp:p<4294967296) (ha:a<p):Ok Try.prog 25 [one (.int .u64 p),one (.int .u64 a)] (bZ [one (.int .u64 (lO p a:Nat)),cm]):=by
 unfold lO
 by_cases h:a=0
 ·rw [if_pos h,h]; exact (rU p).le (dJ _) (pL A (ry _))
 ·rw [if_neg h]; exact (te p a hp2 hp h ha).le (dJ _) (pL A (ry _))
theorem eV (l:List (Nat × Nat)) (h64:eZ l) (hv:bY [] l=false):Ok Try.prog 7 [cq l] (bZ [aS 0,one (.int .i64 40)]):=by
 have hva:=jJ l h64
 rw [hv] at hva
 refine Ok.enter Try.func7 Z Try.ntmps7 Z (fun w O => ?_)
 refine ae (ai ?_)
 refine av (T:=29) Z (ltN Z) (fun b2 => ?_)
 refine Am Z (Ao (aa (ae (ae (ai (Al Z ?_))))))
 refine Ak (aj (hva) Z ⟨A,Ap⟩) ?_
 refine Ak (cv Z) (Ao (aa (aB Z (ae (ai (stB Z Z Z (BuildK.nil (ao 0 Z Z Z Z Z (leN Z) Z (Am Z ?_)))))))))
 refine Ao (aa (aC (aD ?_)))
 refine de Try.results7 (.cellB 0 Z Z Z (dz)) (.tmp Z A)
theorem gy (l:List (Nat × Nat)) (h64:eZ l) (hl:l.length≤16) (hv:bY [] l=true):Ok Try.prog 7 [cq l] (bZ [aS (iz l),one (.int .i64 0)]):=by
 have hva:=jJ l h64
 rw [hv] at hva
 have hg:=fP hv
 have h0:=gT 0 Y Y
 have h1:=gT 1 Y Y
 refine Ok.enter Try.func7 Z Try.ntmps7 Z (fun w O => ?_)
 refine ae (ai ?_)
 refine av (T:=29) Z (ltN Z) (fun b2 => ?_)
 refine Am Z (Ao (aa (ae (ae (ai (Al Z ?_))))))
 refine Ak (aj (hva) Z ⟨A,Ap⟩) ?_
 refine Ak (cv Z) (Ao (aa (az Z (au (aa (ae (ai ?_)))))))
 refine Ak (aj (h0) Z ⟨A,Ap⟩) ?_
 refine Ak (aj (h1) Z ⟨A,Ap⟩) ?_
 refine av (T:=29) Z (ltN Z) (fun b4 => ?_)
 refine av (T:=29) Z (ltN Z) (fun b5 => ?_)
 refine ao 1 Z Z Z Z Z (leN Z) Z (ao 0 Z Z Z Z Z (leN Z) Z (Ao (aa (ae (ai (Al Z (Ak (iJ Z) (Am Z (Ao ?_)))))))))
 refine aa (ae (ae (ai (Al Z (Ak (aM Z) (Al Z (Ao (aa (aw ?_)))))))))
 refine cl (Γ' := [(2,_),(3,_),(4,_),(5,_),(6,_),(22,_),(23,_)]) Ag (SubM.refl _) ?_
 refine bA (σ:=Nat) (Γk := [(2,_),(3,_),(4,_),(5,_),(6,_),(22,_)]) Ag (fun i => [(23,one (.int .i64 (i:Nat)))]) (fun i M0=>((M0.set 0 (bf b5 29 (Lay.agg 2).sz [(0,Lay.agg 2,aS ((ct (l.take i)).2:Nat))])).set 1 (bf b4 29 (Lay.agg 2).sz [(0,Lay.agg 2,aS ((ct (l.take i)).1:Nat))]))) (fun i=>i≤l.length) (fun i=>l.length - i) (0) (Nat.zero_le _) Ah (.keep Aj (.keep Aj (.keep Aj (.nil)))) (fun i hi => ?_)
 refine bS (Γ' := [(23,_),(2,_),(3,_),(4,_),(5,_),(6,_),(22,_)]) (M' := [_,_,_]) Z Z ?_
 obtain ⟨k1,k2⟩:=jk hg i hi
 have sm2:=dU k2 S
 have sm1:=dU (m:=(ct (l.take i)).1) (Nat.le_trans (Nat.le_of_lt k1) k2) S
 by_cases hc:i<l.length
 ·obtain ⟨_,g1,g2,g3⟩:=hg _ (jN hc)
  obtain ⟨k3,k4⟩:=jk hg (i+1) hc
  have hat:=rT l i hc
  have hstep:ct (l.take (i+1))=fO (ct (l.take i)) (l.getD i (0,0)):=by unfold ct;rw [cZ _ _ (0,0) hc]
  have ht:=pK (s:=ct (l.take i)) g1
  have hmT:oU (ct (l.take i)) (l.getD i (0,0))=(((l.getD i (0,0)).2+(l.getD i (0,0)).1 - (ct (l.take i)).1 % (l.getD i (0,0)).1) % (l.getD i (0,0)).1)*lO (l.getD i (0,0)).1 ((ct (l.take i)).2 % (l.getD i (0,0)).1) % (l.getD i (0,0)).1:=rfl
  unfold eU at hat
  rw [hstep] at k3 k4
  unfold fO at k3 k4 hstep
  dsimp only at k3 k4
  generalize (l.getD i (0,0)).1=p at *
  generalize (l.getD i (0,0)).2=v at *
  have hr2:=iL p ((ct (l.take i)).2:Int) S S sm2
  have hr1:=iL p ((ct (l.take i)).1:Int) S S sm1
  rw [← Int.natCast_emod,Int.toNat_natCast] at hr1 hr2
  have l1:=Nat.mod_lt (ct (l.take i)).1 (show 0<p by omega)
  have l2:=Nat.mod_lt (ct (l.take i)).2 (show 0<p by omega)
  have hin:=rV p _ g1 S l2
  have hsb:=td p v _ S S S (show (ct (l.take i)).1 % p≤v+p by omega)
  have l3:=Nat.mod_lt (v+p - (ct (l.take i)).1 % p) (show 0<p by omega)
  have l4:lO p ((ct (l.take i)).2 % p)<p:=by unfold lO;split;omega;exact Nat.mod_lt _ S
  have hmu:=ig p _ _ S S (show (v+p - (ct (l.take i)).1 % p) % p<4294967296 by omega) (show lO p ((ct (l.take i)).2 % p)<4294967296 by omega)
  rw [← hmT] at hmu
  generalize oU (ct (l.take i)) (l.getD i (0,0))=t at *
  have hwt:=lc t S
  have hwp:=lc p S
  have smt:=dU (m:=t) (n:=64) S Y
  have smp:=dU (m:=p) (n:=64) S Y
  have hM1:=ie _ _ sm2 smt
  have hM2:=ie _ _ sm2 smp
  rw [← Int.natCast_mul] at hM1 hM2
  have k5:(ct (l.take i)).2*t≤2^(31*(i+1)):=by omega
  have hA:=kj _ _ sm1 (dU k5 S)
  rw [← Int.natCast_add] at hA
  refine ae (ai (Ak (sT S (bp Z Z)) (Ao (aa (ae (aB Z (au (aa (ae ?_)))))))))
  refine aw (ae (ai (Al Z (Am Z (Ao (aa (ae (ai (Al Z ?_)))))))))
  refine Al Z ?_
  refine Ak (fu Z (hat) Z ⟨A,A,Ap⟩) ?_
  refine Ak (gk Z Z) (Al Z (Al Z ?_))
  refine Ak (fu Z (hat) Z ⟨A,A,Ap⟩) ?_
  refine Ak (gk Z Z) (Am Z (Am Z (Ao (aa (ae (ai (Al Z (Al Z (Ak (ak 0 Z Z Z) ?_)))))))))
  refine Ak (aj (hr2) Z ⟨A,A,Ap⟩) ?_
  refine Ak (aj (hin) Z ⟨A,A,Ap⟩) ?_
  refine Al Z (Ak (an Z Z) (Ak (an Z Z) (Am Z (Am Z (Ao (aa (ae (ai (Al Z ?_)))))))))
  refine Al Z (Al Z (Al Z (Ak (ak 1 Z Z Z) ?_)))
  refine Ak (aj (hr1) Z ⟨A,A,Ap⟩) ?_
  refine Ak (aj (hsb) Z ⟨A,A,A,Ap⟩) ?_
  refine Al Z ?_
  refine Ak (aj (hmu) Z ⟨A,A,A,Ap⟩) ?_
  refine Am Z (Ao (aa (ae (aU 6 aR X Y (Ak (ak 1 Z Z Z) (Ak (ak 0 Z Z Z) (Al Z ?_)))))))
  refine Ak (aj (hwt) Z ⟨A,Ap⟩) ?_
  refine Ak (aj (hM1) Z ⟨A,A,Ap⟩) ?_
  refine Ak (aj (hA) Z ⟨A,A,Ap⟩) ?_
  refine Ao (ao 1 Z Z Z Z Z (leN Z) Z (Ao (aa (aU 4 aR X Y (Ak (ak 0 Z Z Z) (Al Z ?_))))))
  refine Ak (aj (hwp) Z ⟨A,Ap⟩) ?_
  refine Ak (aj (hM2) Z ⟨A,A,Ap⟩) ?_
  refine Ao (ao 0 Z Z Z Z Z (leN Z) Z (Ao (aK (aa (ai (Ak (bX _ 1 Z Z S) (Al Z (Ao ?_))))))))
  refine aN (i+1) (hc) S Ah (.keep (pM (by rw [hstep])) (.keep (pM (by rw [hstep])) (.keep Aj (.nil))))
 ·have he:i=l.length:=by omega
  have e0:l.take i=l:=by rw [he,List.take_length]
  rw [e0] at sm1 sm2 ⊢
  rw [he]
  unfold iz
  have hcm:=fM (((ct l).1+(ct l).1:Nat):Int) ((ct l).2:Int)
  have hA:=kj _ _ sm1 sm1
  rw [← Int.natCast_add] at hA
  have hS:=kn _ _ sm1 sm2
  by_cases c:(ct l).2<(ct l).1+(ct l).1
  ·have hcc:0<cF (((ct l).1+(ct l).1:Nat):Int) ((ct l).2:Int):=by unfold cF;rw [if_neg S,if_pos S]; decide
   rw [if_pos c]
   refine ae (ai (Ak (sF S (bp Z Z)) (Ao (aa (ae (az Z (a6 (ay (ay ?_)))))))))
   refine aI (aa (ae (ae (aU 6 aR X Y (Ak (ak 1 Z Z Z) (Ak (ak 1 Z Z Z) ?_))))))
   refine Ak (aj (hA) Z ⟨A,A,Ap⟩) ?_
   refine Ak (ak 0 Z Z Z) ?_
   refine Ak (aj (hcm) Z ⟨A,A,Ap⟩) ?_
   refine Ak (sT (by assumption) (cT Z Z)) (Ao (Ao (aa (aB Z (ai (Ak (ak 1 Z Z Z) (Ak (ak 0 Z Z Z) ?_)))))))
   refine Ak (aj (hS) Z ⟨A,A,Ap⟩) ?_
   refine ao 1 Z Z Z Z Z (leN Z) Z (Ao (aa (ae (ai (Ak (ak 1 Z Z Z) (ao 2 Z Z Z Z Z (leN Z) Z (Am Z (Ao (aa ?_)))))))))
   refine aC ?_
   refine de Try.results7 (.cellB 2 Z Z Z A) (.tmp Z A)
  ·have hcc : ¬ 0<cF (((ct l).1+(ct l).1:Nat):Int) ((ct l).2:Int):=by unfold cF;split <;> (try split) <;> omega
   rw [if_neg c]
   refine ae (ai (Ak (sF S (bp Z Z)) (Ao (aa (ae (az Z (a6 (ay (ay ?_)))))))))
   refine aI (aa (ae (ae (aU 6 aR X Y (Ak (ak 1 Z Z Z) (Ak (ak 1 Z Z Z) ?_))))))
   refine Ak (aj (hA) Z ⟨A,A,Ap⟩) ?_
   refine Ak (ak 0 Z Z Z) ?_
   refine Ak (aj (hcm) Z ⟨A,A,Ap⟩) ?_
   refine Ak (sF (by assumption) (cT Z Z)) (Ao (Ao (aa (az Z (au (aa (ae (ai (Ak (ak 1 Z Z Z) ?_)))))))))
   refine ao 2 Z Z Z Z Z (leN Z) Z (Am Z (Ao (aa (aC ?_))))
   refine de Try.results7 (.cellB 2 Z Z Z A) (.tmp Z A)
end Tor
end
