/-
  Theorems that the proofs of laws of this seat rest on.
  No condition.
-/
import Derived.Test.YtfaglimgjfhdfaaGreatZP5
import Init
set_option maxHeartbeats 20000000
set_option linter.unusedVariables false
set_option linter.unusedSimpArgs false
set_option linter.unusedSectionVars false
section
namespace Tor
open Go Go.RowKit Go.Proofs
variable [Tor.Co.Kc]
attribute [local irreducible] J PJ aJ one slT bL bG bD exT cn eP aU aN slV VT.le Ret bS
theorem zC (a:Int) (ha:bO a):Ok Tryz.prog 144 [aP a] (one (.int .i64 (im a.natAbs:Nat))):=by
 have ha':(aC a.natAbs).length≤1099511627776:=ha
 have hx:=aY (aX a.natAbs) ((aC a.natAbs).length - 1)
 have hbl:=gV (n:=32) (x:=(aC a.natAbs).getD ((aC a.natAbs).length - 1) 0) X U
 have hL:=rn _ hx
 unfold aP im
 refine Ok.enter Tryz.func144 Z Tryz.ntmps144 Z (fun w O => ?_)
 by_cases h0:a.natAbs=0
 ·have hl:(aC a.natAbs).length=0:=by rw [h0]; rfl
  rw [if_pos h0]
  refine ae (ai ?_)
  refine bm Z Z (ltN Z) (fun b1 => ?_)
  refine CH Z (CJ (aa (ae (ai (CF (aj Z) (CF (ak 0 Z Z Z) ?_))))))
  refine CF (am (c5 _) Z ⟨(cH _),CK⟩) ?_
  refine CH Z (CJ (aa (ae (ae (ai (CG Z (CF (aW Z) (CF (sT X (cq Z Z)) (CJ ?_)))))))))
  refine aa (aI Z (ae (ai (CH Z (CJ (aa (aG (aK ?_))))))))
  refine aQ Tryz.results144 (.tmp Z A)
 ·have hl:(aC a.natAbs).length≠0:=fun h=>h0 (er h)
  rw [if_neg h0]
  refine ae (ai ?_)
  refine bm Z Z (ltN Z) (fun b1 => ?_)
  refine CH Z (CJ (aa (ae (ai (CF (aj Z) (CF (ak 0 Z Z Z) ?_))))))
  refine CF (am (c5 _) Z ⟨(cH _),CK⟩) ?_
  refine CH Z (CJ (aa (ae (ae (ai (CG Z (CF (aW Z) (CF (sF X (cq Z Z)) (CJ ?_)))))))))
  refine aa (aB Z (aw (aa (ae (ai (CG Z (CF (aW Z) (CF (bT _ 1 Z Z X X) (CF (ni 32 _ Z Z X) ?_)))))))))
  refine CG Z (CG Z (CF (aW Z) (CF (bT _ 1 Z Z X X) (CF (aE Z Z X) (CF (aV Z) ?_)))))
  refine CF (am (hL) Z ⟨A,CK⟩) ?_
  refine CF (bQ _ _ Z Z X) (CH Z (CJ (aa (aG ?_))))
  refine aQ Tryz.results144 (.tmp Z A)
end Tor
end
section
namespace Tor
variable [Tor.Co.Kc]
theorem Cq (s x:Nat):(2*s - x)*x≤s*s:=by
 rcases Nat.le_total x s with h | h
 ·obtain ⟨d,rfl⟩ : ∃ d,s=x+d:=⟨s - x,by omega⟩
  rw [show 2*(x+d) - x=x+2*d by omega,Nat.add_mul,Nat.add_mul,Nat.mul_add,Nat.mul_add,Nat.mul_assoc,Nat.mul_comm d x]
  have:=Nat.zero_le (d*d)
  omega
 ·rcases Nat.le_total x (2*s) with h2 | h2
  ·obtain ⟨d,rfl⟩ : ∃ d,x=s+d:=⟨x - s,by omega⟩
   obtain ⟨e,rfl⟩ : ∃ e,s=d+e:=⟨s - d,by omega⟩
   rw [show 2*(d+e) - (d+e+d)=e by omega]
   simp only [Nat.add_mul,Nat.mul_add]
   have:=Nat.mul_comm d e
   have:=Nat.zero_le (d*d)
   omega
  ·rw [show 2*s - x=0 by omega,Nat.zero_mul]; exact Nat.zero_le _
theorem vB {a s x:Nat} (h:s*s≤a) (hx:0<x):s≤(x+a / x) / 2:=by
 rcases Nat.lt_or_ge ((x+a / x) / 2) s with h1 | h1
 ·exfalso
  have h2:=Nat.lt_mul_div_succ a hx
  generalize a / x=q at *
  have h3:q+1≤2*s - x:=by omega
  have h4:=Cq s x
  have h5:x*(q+1)≤(2*s - x)*x:=by rw [Nat.mul_comm]; exact Nat.mul_le_mul_right _ h3
  omega
 ·exact h1
theorem vC {a x:Nat} (hx:0<x) (h:x≤(x+a / x) / 2):x*x≤a:=by
 have h1:x≤a / x:=by
  generalize a / x=q at *; omega
 exact (Nat.le_div_iff_mul_le hx).1 h1
theorem vD {a s x:Nat} (h1:x*x≤a) (h2:a<(s+1)*(s+1)) (h3:s≤x):x=s:=by
 rcases Nat.lt_or_ge s x with h | h
 ·have h4:(s+1)*(s+1)≤x*x:=Nat.mul_le_mul h h
  omega
 ·omega
end Tor
end
section
namespace Tor
open Go Go.RowKit Go.Proofs
variable [Tor.Co.Kc]
theorem uC (v:Nat):v<2^im v:=by
 unfold im
 by_cases h0:v=0
 ·rw [if_pos h0]; subst h0;decide
 ·rw [if_neg h0]
  have hl:(aC v).length≠0:=fun h=>h0 (er h)
  obtain ⟨k,hk⟩ : ∃ k,(aC v).length=k+1:=⟨(aC v).length - 1,by omega⟩
  rw [hk,Nat.add_sub_cancel]
  have hL:=aX v
  have h1:=bF (l:=aC v) (k:=k) X
  rw [List.take_of_length_le X,bN] at h1
  have h2:=kb hL k
  have h3:=mI (x:=(aC v).getD k 0) (by have:=aY hL k;omega)
  generalize fw ((aC v).getD k 0)=n at *
  generalize (aC v).getD k 0=d at *
  rw [ro] at h1
  generalize lv ((aC v).take k)=y at *
  rw [Nat.pow_add]
  have h4:2^(32*k)*(d+1)≤2^(32*k)*2^n:=Nat.mul_le_mul_left _ h3
  rw [Nat.mul_add,Nat.mul_one] at h4
  omega
theorem jG (n:Nat):bv ((List.replicate (n / 32+1) 0).set (n / 32) (2^(n % 32)))∧lv ((List.replicate (n / 32+1) 0).set (n / 32) (2^(n % 32)))=2^n:=by
 have h1:2^(n % 32)<4294967296:=Nat.lt_of_le_of_lt (Nat.pow_le_pow_right (n:=2) U (show n % 32≤31 by omega)) U
 refine ⟨(bv.replicate _).set h1,?_⟩
 have hs:=fL (l:=List.replicate (n / 32+1) 0) (k:=n / 32) (v:=2^(n % 32)) (by simp)
 rw [cm,Nat.mul_zero,Nat.add_zero,dB,Nat.zero_add] at hs
 rw [hs,ro, ← Nat.pow_add,Nat.div_add_mod]
theorem zD {v m:Nat} (h:(aC v).length≤m):im v≤32*m:=by
 unfold im
 by_cases h0:v=0
 ·rw [if_pos h0]; exact Nat.zero_le _
 ·rw [if_neg h0]
  have hl:(aC v).length≠0:=fun h=>h0 (er h)
  have h1:=aY (aX v) ((aC v).length - 1)
  have h2:=gV (n:=32) (x:=(aC v).getD ((aC v).length - 1) 0) X U
  omega
end Tor
end
section
namespace Tor
open Go Go.RowKit Go.Proofs
variable [Tor.Co.Kc]
theorem xy {P:Program} {E:Env} {Γ:Ctx} {M:Mem} {d:Option Tmp} {ty:TypeId} {pos:String} {af:Array Edge} {gd:Option (Nat × Bool)} {T T':TypeId} {x y:Operand} {k':IntKind} {s:Nat} (hx:aH Γ x=some (one (.int .u32 1))) (hy:aH Γ y=some (one (.int k' (s:Int)))) (hs:s<32) :
  aJ P E Γ M ⟨d, .binOp .shl T x y T',ty,pos,af,gd⟩ (one (.int .u32 ((2^s:Nat):Int))) :=
 AA hx hy X (by
  have e:min ((s:Int)).toNat IntKind.u32.bits=s:=by show min _ 32=s;omega
  rw [e,kC]
  have h1:2^s<4294967296:=Nat.lt_of_le_of_lt (Nat.pow_le_pow_right (n:=2) U (show s≤31 by omega)) U
  have:((1:Int)*2^s)=((2^s:Nat):Int):=by simp
  rw [this]
  generalize 2^s=x at h1 ⊢
  omega)
theorem eE (i j:Nat) (h:i≤j):2^i≤2^j:=Nat.pow_le_pow_right U h
theorem xz (n k:Nat) (h:k=n+1):2^k=2^n+2^n:=by rw [h,Nat.pow_succ]; omega
theorem xA (n:Nat):VT.le (slT .one (n / 32+1) (upd (fun _=>one (.int .u32 0)) (n / 32) (one (.int .u32 ((2^(n % 32):Nat):Int))))) (kR (2^n)) :=
 VT.le_trans (ci (m:=((List.replicate (n / 32+1) 0).set (n / 32) (2^(n % 32))).length) (ψ:=fx ((List.replicate (n / 32+1) 0).set (n / 32) (2^(n % 32)))) (by simp) (fun q hq=>by
  unfold upd fx
  by_cases h:q=n / 32
  ·subst h;rw [if_pos Z]; simp [List.getD]
  ·rw [if_neg h]
   simp only [List.getD,List.getElem?_set,if_neg (Ne.symm h),List.getElem?_replicate,if_pos hq]; rfl)) (fk (jG n).1 (jG n).2)
attribute [local irreducible] J PJ aJ one slT bL bG bD exT cn eP aU aN slV VT.le Ret bS
theorem zE (a s:Nat) (ha:a<2^800) (h0:a≠0) (h1:s*s≤a) (h2:a<(s+1)*(s+1)):Ok Tryz.prog 121 [aP (a:Int)] (bD [aP (s:Int),one (.int .i64 0)]):=by
 have hsm:bO (a:Int):=cP (Nat.lt_trans ha V)
 have hbi:=zC (a:Int) hsm
 rw [Int.natAbs_natCast] at hbi
 have hbl:=uC a
 have hsg:fm (a:Int)=1:=by unfold fm;rw [if_neg X,if_neg X]
 have hsi:=rh (a:Int)
 rw [hsg] at hsi
 have hb8:im a≤832:=zD (v:=a) (m:=26) (cz (Nat.lt_trans ha V))
 generalize im a=bn at *
 refine Ok.enter Tryz.func121 Z Tryz.ntmps121 Z (fun w O => ?_)
 obtain ⟨n,hn⟩ : ∃ n,n=(bn+1) / 2:=⟨_,rfl⟩
 have hn2:a<2^n*2^n:=by
  rw [← Nat.pow_add]
  exact Nat.lt_of_lt_of_le hbl (Nat.pow_le_pow_right U X)
 obtain ⟨e5,he5⟩ : ∃ e,e=500:=⟨_,rfl⟩
 have hn5:2^n<2^e5:=Nat.pow_lt_pow_right U X
 have hsn:s≤2^n:=by
  rcases Nat.lt_or_ge (2^n) s with h | h
  ·have:=Nat.mul_le_mul (Nat.le_of_lt h) (Nat.le_of_lt h);omega
  ·exact h
 have hn0:0<2^n:=Nat.two_pow_pos n
 have hv:=eg false (2^n)
 rw [if_neg U] at hv
 refine ae (ai ?_)
 refine bm Z Z (ltN Z) (fun b1 => ?_)
 refine aD (T:=28) Z (ltN Z) (fun b2 => ?_)
 refine CH Z (CJ (aa (ae (ae (ai (CF (bB 1 Z Z) ?_))))))
 refine CF (am (hsi) Z ⟨A,CK⟩) ?_
 refine CJ (aa (av (ae (ai (CF (sF X (cq Z Z)) (CH Z (CJ (aa (aB Z ?_)))))))))
 refine ae (ai (CF (sF X (cq Z Z)) (CH Z (CJ (aa (aB Z (aw (aL (aa ?_)))))))))
 refine ae (ai ?_)
 refine CF (am (iT _ X X) Z ⟨A,CK⟩) ?_
 refine aD (T:=28) Z (ltN Z) (fun b4 => ?_)
 refine au 0 Z Z Z Z Z (leN Z) Z (CJ (aa (ae (ai (CF (bB 2 Z Z) ?_)))))
 refine CF (am (hbi) Z ⟨A,CK⟩) ?_
 refine CF (bQ _ 1 Z Z X) (CF (lL 2 Z Z Z U X) (CH Z (CJ (aa (ae (ai (CG Z (CF (lL 32 Z Z Z U X) (CF (bQ _ 1 Z Z X) ?_)))))))))
 rw [← hn]
 refine co (n / 32+1) (n / 32+1) Z Z Z Z (Nat.le_refl _) Z Z X Z Z (fun bz => ?_)
 refine CH Z (CJ (aa (ae (ai (CG Z (CG Z (CF (lL 32 Z Z Z U X) (CG Z (CF (ef 32 Z Z Z U) ?_)))))))))
 refine CF (xy (s:=n % 32) Z Z X) (CF (ay Z Z X) ?_)
 (refine aA 0 Z Z Z ?_ Z ?_;omega)
 refine CJ (aa (ae (ai (CG Z (gz (t:=38) (j:=0) Z Z ?_)))))
 refine CF (am (hv) Z ⟨A,(xA _),CK⟩) ?_
 refine aD (T:=28) Z (ltN Z) (fun b7 => ?_)
 refine au 0 Z Z Z Z Z (leN Z) Z (CJ (aa (av (ch (Γ' := [(1,_),(2,_),(3,_),(4,_),(7,_)]) Cz (SubM.refl _) ?_))))
 refine bE (σ:=Nat) (Γk := [(1,_),(2,_),(4,_),(7,_)]) Cz (fun x => []) (fun x M0=>(M0.set 0 (aU b7 28 (Lay.agg 2).sz [(0,Lay.agg 2,aP (x:Int))]))) (fun x=>s≤x∧x<2^e5) (fun x=>x) (2^n) (⟨hsn,hn5⟩) CA (.keep CE (.keep CE (.keep CE (.keep CE (.nil))))) (fun x hx => ?_)
 refine bR (Γ' := [(1,_),(2,_),(4,_),(7,_)]) (M' := [_,_,_,_]) Z Z ?_
 obtain ⟨g1,g2⟩:=hx
 have g0:0<x:=by
  rcases Nat.eq_zero_or_pos s with h | h
  ·subst h;omega
  ·omega
 have gx:x<2^2048:=Nat.lt_of_lt_of_le g2 (eE e5 2048 X)
 have ga:a<2^2048:=Nat.lt_of_lt_of_le ha (eE 800 2048 U)
 have hxs:bO (x:Int):=cP gx
 have hqa:a / x≤a:=Nat.div_le_self _ _
 have hd:=oN (a:Int) (x:Int) X hsm hxs
 rw [← Int.natCast_ediv, ← Int.natCast_emod] at hd
 have hqs:bO ((a / x:Nat):Int):=cP (Nat.lt_of_le_of_lt hqa ga)
 have had:=gl (x:Int) ((a / x:Nat):Int) hxs hqs
 rw [← Int.natCast_add] at had
 have hss:x+a / x<2^2048:=by
  have e1:x<2^2047:=Nat.lt_of_lt_of_le g2 (eE e5 2047 X)
  have e2:a<2^2047:=Nat.lt_of_lt_of_le ha (eE 800 2047 U)
  have e3:2^2048=2^2047+2^2047:=xz 2047 2048 Z
  rw [e3]; generalize 2^2047=z at *; omega
 have hd2:=oN ((x+a / x:Nat):Int) 2 U (cP hss) (cP V)
 rw [show ((x+a / x:Nat):Int) / 2=(((x+a / x) / 2:Nat):Int) from (Int.natCast_ediv _ _).symm,show ((x+a / x:Nat):Int) % 2=(((x+a / x) % 2:Nat):Int) from (Int.natCast_emod _ _).symm] at hd2
 have hcm:=jF (((x+a / x) / 2:Nat):Int) (x:Int)
 have hnx:s≤(x+a / x) / 2:=vB h1 g0
 by_cases hy:x≤(x+a / x) / 2
 ·have hxe:x=s:=vD (vC g0 hy) h2 g1
  have hc : ¬ cK (((x+a / x) / 2:Nat):Int) (x:Int)<0:=by unfold cK;split <;> (try split) <;> omega
  refine av (ae (ai (CF (bB 3 Z Z) (CF (ak 0 Z Z Z) ?_))))
  refine CF (am (hd) Z ⟨A,A,CK⟩) ?_
  refine CG Z (CF (az Z Z) (CF (az Z Z) (CF (az Z Z) ?_)))
  refine aD (T:=28) Z (ltN Z) (fun b8 => ?_)
  refine aD (T:=28) Z (ltN Z) (fun b9 => ?_)
  refine au 1 Z Z Z Z Z (leN Z) Z (au 0 Z Z Z Z Z (leN Z) Z (CH Z (CJ (aa (ae ?_)))))
  refine eA a8 Y Y ?_
  refine ux (fun B=>ak 2 Z Z Z) Z Z ?_
  refine ux (fun B=>ak 1 Z Z Z) Z Z ?_
  refine uxk (had) Z ⟨A,A,CK⟩ Z ?_
  refine ux (fun B=>ak 3 Z Z Z) Z Z ?_
  refine uxk (hd2) Z ⟨A,A,CK⟩ Z ?_
  refine ux (fun B=>ab Z) Z Z ?_
  refine ux (fun B=>az Z Z) Z Z ?_
  refine ux (fun B=>az Z Z) Z Z ?_
  refine ux (fun B=>az Z Z) Z Z ?_
  refine ua Z (ua Z (us Z (us Z ?_)))
  refine ux (fun B=>ah Z) Z Z ?_
  refine RunU.nil (fun γ => ?_)
  refine cT (M' := [_,_,_,_,_,_,_,_]) Z (aa (ae (ae (ai (CF (ak 1 Z Z Z) (CF (ak 4 Z Z Z) ?_))))))
  refine CF (am (hcm) Z ⟨A,A,CK⟩) ?_
  refine CF (sT X (dF Z Z)) (CJ (aa (aI Z (ae (ai (CF (ak 4 Z Z Z) (au 6 Z Z Z Z Z (leN Z) Z (CH Z (CJ ?_)))))))))
  refine aa (aG (aK (a9 (aK (a9 ?_)))))
  refine cW Tryz.results121 (.cellB 6 Z Z Z (bV (by rw [hxe]))) (.tmp Z A)
 ·have hc:cK (((x+a / x) / 2:Nat):Int) (x:Int)<0:=by unfold cK;rw [if_pos X]; decide
  refine av (ae (ai (CF (bB 3 Z Z) (CF (ak 0 Z Z Z) ?_))))
  refine CF (am (hd) Z ⟨A,A,CK⟩) ?_
  refine CG Z (CF (az Z Z) (CF (az Z Z) (CF (az Z Z) ?_)))
  refine aD (T:=28) Z (ltN Z) (fun b8 => ?_)
  refine aD (T:=28) Z (ltN Z) (fun b9 => ?_)
  refine au 1 Z Z Z Z Z (leN Z) Z (au 0 Z Z Z Z Z (leN Z) Z (CH Z (CJ (aa (ae ?_)))))
  refine eA a8 Y Y ?_
  refine ux (fun B=>ak 2 Z Z Z) Z Z ?_
  refine ux (fun B=>ak 1 Z Z Z) Z Z ?_
  refine uxk (had) Z ⟨A,A,CK⟩ Z ?_
  refine ux (fun B=>ak 3 Z Z Z) Z Z ?_
  refine uxk (hd2) Z ⟨A,A,CK⟩ Z ?_
  refine ux (fun B=>ab Z) Z Z ?_
  refine ux (fun B=>az Z Z) Z Z ?_
  refine ux (fun B=>az Z Z) Z Z ?_
  refine ux (fun B=>az Z Z) Z Z ?_
  refine ua Z (ua Z (us Z (us Z ?_)))
  refine ux (fun B=>ah Z) Z Z ?_
  refine RunU.nil (fun γ => ?_)
  refine cT (M' := [_,_,_,_,_,_,_,_]) Z (aa (ae (ae (ai (CF (ak 1 Z Z Z) (CF (ak 4 Z Z Z) ?_))))))
  refine CF (am (hcm) Z ⟨A,A,CK⟩) ?_
  refine CF (sF X (dF Z Z)) (CJ (aa (aB Z (aw (aa (ai (CF (ak 1 Z Z Z) (au 4 Z Z Z Z Z (leN Z) Z (CJ ?_)))))))))
  refine aL ?_
  refine aR ((x+a / x) / 2) (⟨hnx,by omega⟩) X CA (.drop (.drop (.drop (.drop (.keep CE (.keep CE (.keep CE (.keep CE (.nil)))))))))
end Tor
end
section
namespace Tor
open Go Go.RowKit Go.Proofs
variable [Tor.Co.Kc]
attribute [local irreducible] J PJ aJ one slT bL bG bD exT cn eP aU aN slV VT.le Ret bS
theorem xB:Ok Tryz.prog 121 [aP 0] (bD [aP 0,one (.int .i64 0)]):=by
 have hsi:=rh 0
 rw [show fm 0=0 from rfl] at hsi
 refine Ok.enter Tryz.func121 Z Tryz.ntmps121 Z (fun w O => ?_)
 refine ae (ai ?_)
 refine bm Z Z (ltN Z) (fun b1 => ?_)
 refine aD (T:=28) Z (ltN Z) (fun b2 => ?_)
 refine CH Z (CJ (aa (ae (ae (ai (CF (bB 1 Z Z) ?_))))))
 refine CF (am (hsi) Z ⟨A,CK⟩) ?_
 refine CJ (aa (av (ae (ai (CF (sF X (cq Z Z)) (CH Z (CJ (aa (aB Z ?_)))))))))
 refine ae (ai (CF (sT X (cq Z Z)) (CH Z (CJ (aa (aI Z (ae (ai (stB Z Z Z ?_)))))))))
 refine BuildK.nil (au 0 Z Z Z Z Z (leN Z) Z (CH Z (CJ (aa (aG (a9 (aK ?_)))))))
 refine cW Tryz.results121 (.cellB 0 Z Z Z (ij)) (.tmp Z A)
theorem rA (u:Nat) (hu:u<18446744073709551616):Ok Tryz.prog 88 [one (.int .u64 (u:Int))] (aP (u:Int)):=by
 have h1:=iT ((u / 4294967296:Nat):Int) X X
 have h2:=iT 4294967296 U U
 have h3:=iT ((u % 4294967296:Nat):Int) X X
 refine Ok.enter Tryz.func88 Z Tryz.ntmps88 Z (fun w O => ?_)
 have s1:bO ((u / 4294967296:Nat):Int):=cP (by rw [Int.natAbs_natCast]; exact Nat.lt_of_le_of_lt (Nat.div_le_self _ _) (Nat.lt_trans hu V))
 have s2:bO 4294967296:=cP V
 have s3:bO ((u % 4294967296:Nat):Int):=cP (by rw [Int.natAbs_natCast]; exact Nat.lt_of_le_of_lt (Nat.mod_le _ _) (Nat.lt_trans hu V))
 have s4:bO (((u / 4294967296:Nat):Int)*4294967296):=cP (by
  rw [show ((u / 4294967296:Nat):Int)*4294967296=((u / 4294967296*4294967296:Nat):Int) from by simp,Int.natAbs_natCast]
  exact Nat.lt_of_le_of_lt (Nat.div_mul_le_self _ _) (Nat.lt_trans hu V))
 refine ae (ai ?_)
 refine aD (T:=28) Z (ltN Z) (fun b2 => ?_)
 refine CJ (aa (ae (ai (CG Z (CF (fe Z) (CF (db Z X X) ?_))))))
 refine CF (am (h1) Z ⟨A,CK⟩) ?_
 refine CF (am (h2) Z ⟨A,CK⟩) ?_
 refine CF (am (gm _ _ (by assumption) (by assumption)) Z ⟨A,A,CK⟩) ?_
 refine aD (T:=28) Z (ltN Z) (fun b3 => ?_)
 refine au 0 Z Z Z Z Z (leN Z) Z (CJ (aa (ae (bh 6 a8 Y U (CF (ak 0 Z Z Z) (CG Z (CF (sS Z X) (CF (db Z X X) ?_))))))))
 refine CF (am (h3) Z ⟨A,CK⟩) ?_
 refine CF (am (gl _ _ (by assumption) (by assumption)) Z ⟨A,A,CK⟩) ?_
 refine CJ (au 1 Z Z Z Z Z (leN Z) Z (CJ (aa (aG ?_))))
 refine aQ Tryz.results88 (.cellB 1 Z Z Z (bV X))
end Tor
end
section
namespace Tor
open Go Go.RowKit Go.Proofs
variable [Tor.Co.Kc]
def gr (p:Nat × Nat):VT:=bG 2 [(0, .one,one (.int .u64 (p.1:Int))),(1, .one,one (.int .u64 (p.2:Int)))]
def eu (l:List (Nat × Nat)):VT:=slT (.agg 2) l.length (fun i=>gr (l.getD i (0,0)))
instance {p:Nat × Nat} : Flat (gr p) (.agg 2):=by unfold gr;infer_instance
def ml (l:List (Nat × Nat)):Prop := ∀ p∈l,p.1<18446744073709551616∧p.2<18446744073709551616
theorem ml.get {l:List (Nat × Nat)} (h:ml l) (i:Nat):(l.getD i (0,0)).1<18446744073709551616∧(l.getD i (0,0)).2<18446744073709551616:=by
 rw [List.getD]
 cases hx:l[i]? with
 | none => simp
 | some x => simp; exact h x (List.mem_of_getElem? hx)
def d5 (seen:List Nat):List (Nat × Nat)→Bool
 | [] => true
 | p :: r => if p.1 ∈ seen then false else if bg p.1 = false then false else if p.1 ≤ p.2 then false else d5 (seen ++ [p.1]) r
def io (l:List (Nat × Nat)) (i:Nat):List Nat:=(l.take i).map (·.1)
theorem sZ {α:Type} {l:List α} {k:Nat} (d:α) (h:k<l.length):l.drop k=l.getD k d :: l.drop (k+1):=by
 rw [List.drop_eq_getElem_cons h]; simp [List.getD,h]
theorem kf {α:Type} {l:List α} {k:Nat} (d:α) (h:k<l.length):l.take (k+1)=l.take k ++ [l.getD k d]:=by
 rw [List.take_succ_eq_append_getElem h]; simp [List.getD,h]
theorem lS {l:List (Nat × Nat)} {i:Nat} (h:i<l.length):io l (i+1)=io l i ++ [(l.getD i (0,0)).1]:=by
 unfold io;rw [kf (0,0) h,List.map_append]; rfl
theorem rB {l:List (Nat × Nat)} {i:Nat} (h:i<l.length):d5 (io l i) (l.drop i)=if (l.getD i (0,0)).1∈io l i then false else if bg (l.getD i (0,0)).1=false then false else if (l.getD i (0,0)).1≤(l.getD i (0,0)).2 then false else d5 (io l (i+1)) (l.drop (i+1)):=by
 rw [sZ (0,0) h,d5,lS h]
theorem Bc {b:Nat} {ks ks':List Nat} (h:ks'=ks):Own.le (dI b ks) (dI b ks'):=h▸Own.le_refl _
instance:MapOf Tryz.prog 159 47 4 .u64:=⟨by kernel_rfl,by kernel_rfl⟩
attribute [local irreducible] J PJ aJ one slT bL bG bD exT cn eP aU aN slV VT.le Ret bS dI ej
theorem oP (l:List (Nat × Nat)) (h64:ml l):Ok Tryz.prog 83 [eu l] (one (.bool (d5 [] l))):=by
 unfold eu
 refine Ok.enter Tryz.func83 Z Tryz.ntmps83 Z (fun w O => ?_)
 refine gY (t:=0) Z (fun _ _=>ei) (fun hbound => ?_)
 refine ae (ai (CH Z (CJ (aa (ae (ai ?_))))))
 refine vo Z (ltN Z) (fun b6 => ?_)
 refine CH Z (CJ (aa (ae (ae (ai (CG Z (CF (aW Z) (CG Z (CJ ?_)))))))))
 refine aa (av (ch (Γ' := [(2,_),(3,_),(7,_),(8,_),(9,_)]) Cz (SubM.refl _) ?_))
 refine bE (σ:=Nat) (Γk := [(3,_),(7,_),(8,_)]) Cz (fun i => [(9,one (.int .i64 (i:Nat)))]) (fun i M0=>(M0.set 0 (dI b6 (io l i)))) (fun i=>i≤l.length∧d5 (io l i) (l.drop i)=d5 [] l) (fun i=>l.length - i) (0) (⟨Nat.zero_le _,rfl⟩) CA (.keep CE (.nil)) (fun i hi => ?_)
 refine bR (Γ' := [(9,_),(3,_),(7,_),(8,_)]) (M' := [_]) Z Z ?_
 obtain ⟨hi,hv⟩:=hi
 by_cases hc:i<l.length
 ·rw [rB hc] at hv
  obtain ⟨h1,h2⟩:=h64.get i
  unfold gr
  have hpr:=fM _ h1
  by_cases c1:(l.getD i (0,0)).1∈io l i
  ·rw [if_pos c1] at hv
   rw [← hv]
   refine ae (ai (CF (sT X (bq Z Z)) (CJ (aa (ae (aI Z (aw (aa (ae ?_)))))))))
   refine av (ae (ai (CF (aE Z Z X) (CF (aV Z) ?_))))
   refine cv (T:=50) Z Z Z (fun b5 => ?_)
   refine bU 0 Z Z Z Z (CJ (aa (ae (ae (ai (CG Z (CF (aj Z) (CF (ak 0 Z Z Z) (CF (sT (by assumption) (kN 1 Z Z Z)) ?_)))))))))
   refine CG Z (sg0 Z Z Z Z (sg0 Z Z Z Z (sg0 Z Z Z Z (sg0 Z Z Z Z (CF (bp Z Z) (CG Z (sg0 Z Z Z Z (sg0 Z Z Z Z (sg0 Z Z Z Z ?_)))))))))
   refine sg0 Z Z Z Z (sg0 Z Z Z Z (CF (bp Z Z) (CJ (aa (aI Z (ae (ai (CH Z (CJ ?_)))))))))
   refine aa (aG (aK (a9 (aK (aK (a9 (aK ?_)))))))
   refine aQ Tryz.results83 (.tmp Z A)
  ·rw [if_neg c1] at hv
   cases c2:bg (l.getD i (0,0)).1
   ·rw [if_pos c2] at hv
    rw [← hv]
    rw [c2] at hpr
    refine ae (ai (CF (sT X (bq Z Z)) (CJ (aa (ae (aI Z (aw (aa (ae ?_)))))))))
    refine av (ae (ai (CF (aE Z Z X) (CF (aV Z) ?_))))
    refine cv (T:=50) Z Z Z (fun b5 => ?_)
    refine bU 0 Z Z Z Z (CJ (aa (ae (ae (ai (CG Z (CF (aj Z) (CF (ak 0 Z Z Z) (CF (sF (by assumption) (kN 1 Z Z Z)) ?_)))))))))
    refine CG Z (CI (aj Z) (CI (ak 0 Z Z Z) ?_))
    refine CI (am (hpr) Z ⟨A,CK⟩) ?_
    refine CI (cZ Z) (CF (bK Z Z) (CG Z (sg0 Z Z Z Z (sg0 Z Z Z Z (sg0 Z Z Z Z (sg0 Z Z Z Z (sg0 Z Z Z Z (CF (bp Z Z) (CJ ?_)))))))))
    refine aa (aI Z (ae (ai (CH Z (CJ (aa (aG (aK (a9 ?_)))))))))
    refine aK (aK (a9 (aK ?_)))
    refine aQ Tryz.results83 (.tmp Z A)
   ·rw [if_neg (by rw [c2]; decide)] at hv
    rw [c2] at hpr
    by_cases c3:(l.getD i (0,0)).1≤(l.getD i (0,0)).2
    ·rw [if_pos c3] at hv
     rw [← hv]
     refine ae (ai (CF (sT X (bq Z Z)) (CJ (aa (ae (aI Z (aw (aa (ae ?_)))))))))
     refine av (ae (ai (CF (aE Z Z X) (CF (aV Z) ?_))))
     refine cv (T:=50) Z Z Z (fun b5 => ?_)
     refine bU 0 Z Z Z Z (CJ (aa (ae (ae (ai (CG Z (CF (aj Z) (CF (ak 0 Z Z Z) (CF (sF (by assumption) (kN 1 Z Z Z)) ?_)))))))))
     refine CG Z (CI (aj Z) (CI (ak 0 Z Z Z) ?_))
     refine CI (am (hpr) Z ⟨A,CK⟩) ?_
     refine CI (cZ Z) (CF (bK Z Z) (CG Z (CI (aj Z) (CI (ak 0 Z Z Z) (CI (aj Z) (CI (ak 0 Z Z Z) (CI (sT X (dF Z Z)) (CF (bK Z Z) (CJ ?_)))))))))
     refine aa (aI Z (ae (ai (CH Z (CJ (aa (aG (aK (a9 ?_)))))))))
     refine aK (aK (a9 (aK ?_)))
     refine aQ Tryz.results83 (.tmp Z A)
    ·rw [if_neg c3] at hv
     refine ae (ai (CF (sT X (bq Z Z)) (CJ (aa (ae (aI Z (aw (aa (ae ?_)))))))))
     refine av (ae (ai (CF (aE Z Z X) (CF (aV Z) ?_))))
     refine cv (T:=50) Z Z Z (fun b5 => ?_)
     refine bU 0 Z Z Z Z (CJ (aa (ae (ae (ai (CG Z (CF (aj Z) (CF (ak 0 Z Z Z) (CF (sF (by assumption) (kN 1 Z Z Z)) ?_)))))))))
     refine CG Z (CI (aj Z) (CI (ak 0 Z Z Z) ?_))
     refine CI (am (hpr) Z ⟨A,CK⟩) ?_
     refine CI (cZ Z) (CF (bK Z Z) (CG Z (CI (aj Z) (CI (ak 0 Z Z Z) (CI (aj Z) (CI (ak 0 Z Z Z) (CI (sF X (dF Z Z)) (CF (bK Z Z) (CJ ?_)))))))))
     refine aa (aB Z (aw (aa (ai (CG Z (CF (aj Z) (CF (ak 0 Z Z Z) ?_)))))))
     (refine qX 1 Z Z Z Z ?_ Z ?_;assumption)
     refine CJ (aL (aa (ai (CF (bQ _ 1 Z Z X) (CG Z (CJ ?_))))))
     refine aR (i+1) (⟨by omega,hv⟩) X CA (.drop (.keep (Bc (lS hc)) (.nil)))
 ·have hl:i=l.length:=by omega
  rw [hl,List.drop_length] at hv
  rw [← hv]
  refine ae (ai (CF (sF X (bq Z Z)) (CJ (aa (ae (aB Z (a6 (ax (ax ?_)))))))))
  refine aM (aa (ae (ai (CH Z (CJ (aa (aG ?_)))))))
  refine aQ Tryz.results83 (.tmp Z A)
end Tor
end
section
namespace Tor
open Go Go.RowKit Go.Proofs
variable [Tor.Co.Kc]
def ip (l:List (Nat × Nat)):Nat:=l.foldl (fun m p=>m*p.1) 1
def oe (p a:Nat):Nat:=if a=0 then 0 else a^(p - 2) % p
def tb (s p:Nat × Nat):Nat:=((p.2+p.1 - s.1 % p.1) % p.1)*oe p.1 (s.2 % p.1) % p.1
def gX (s p:Nat × Nat):Nat × Nat:=(s.1+s.2*tb s p,s.2*p.1)
def cQ (l:List (Nat × Nat)):Nat × Nat:=l.foldl gX (0,1)
def lc (l:List (Nat × Nat)):Int:=if (cQ l).2<(cQ l).1+(cQ l).1 then ((cQ l).1:Int) - ((cQ l).2:Int) else ((cQ l).1:Int)
theorem gK {α β:Type} (f:β→α→β) (b:β) {l:List α} (d:α) {i:Nat} (h:i<l.length):(l.take (i+1)).foldl f b=f ((l.take i).foldl f b) (l.getD i d):=by
 rw [kf d h,List.foldl_append]; rfl
theorem xC {m p i k:Nat} (hm:m≤2^(k*i)) (hp:p<2^k):m*p≤2^(k*(i+1)):=by
 rw [Nat.mul_add,Nat.pow_add,Nat.mul_one]
 exact Nat.mul_le_mul hm (Nat.le_of_lt hp)
def B9 (p:Nat × Nat):Prop:=bg p.1=true∧2≤p.1∧p.1<2147483648∧p.2<p.1
theorem vE {n:Nat} (h:bg n=true):2≤n∧n<2147483648:=by
 unfold bg at h
 by_cases c:n<2∨2147483648≤n
 ·rw [if_pos c] at h;cases h
 ·omega
theorem jk : ∀ {l:List (Nat × Nat)} {s:List Nat},d5 s l=true → ∀ p∈l,B9 p
 | [], _, _, p, hp => by cases hp
 | q :: r, s, h, p, hp => by
  rw [d5] at h
  split at h
  ·cases h
  split at h
  ·cases h
  split at h
  ·cases h
  rename_i h1 h2 h3
  rcases List.mem_cons.1 hp with rfl | hp
  ·have hb:bg p.1=true:=by cases hx:bg p.1 <;> simp_all
   obtain ⟨k1,k2⟩:=vE hb
   exact ⟨hb,k1,k2,by omega⟩
  ·exact jk h p hp
theorem oQ {l:List (Nat × Nat)} {i:Nat} (h:i<l.length):l.getD i (0,0)∈l:=by
 rw [show l.getD i (0,0)=l[i] by simp [List.getD,h]]; exact List.getElem_mem h
theorem uD {s p:Nat × Nat} (h:2≤p.1):tb s p<p.1:=Nat.mod_lt _ X
theorem ld {l:List (Nat × Nat)} (h : ∀ p∈l,B9 p) : ∀ i,i≤l.length→(cQ (l.take i)).1<(cQ (l.take i)).2∧(cQ (l.take i)).2≤2^(31*i)
 | 0, _ => ⟨Nat.zero_lt_one, Nat.le_refl _⟩
 | i + 1, hi => by
  unfold cQ
  rw [gK _ _ (0,0) hi]
  obtain ⟨k1,k2⟩:=ld h i X
  obtain ⟨_,g1,g2,g3⟩:=h _ (oQ hi)
  have ht:=uD (s:=cQ (l.take i)) g1
  unfold cQ at *
  generalize (l.take i).foldl gX (0,1)=s at *
  generalize l.getD i (0,0)=p at *
  unfold gX
  refine ⟨?_,xC k2 g2⟩
  show s.1+s.2*tb s p<s.2*p.1
  have:=Nat.mul_le_mul_left s.2 (Nat.succ_le_of_lt ht)
  rw [Nat.mul_succ] at this
  omega
theorem iq {m n:Nat} (h:m≤2^n) (hn:n<2048):bO (m:Int):=cP (by
 rw [Int.natAbs_natCast]
 exact Nat.lt_of_le_of_lt h (Nat.pow_lt_pow_right (a:=2) (m:=n) (n:=2048) U hn))
theorem mJ {a b a' b':VT} (h:VT.le a a') (h':VT.le b b'):VT.le (bD [a,b]) (bD [a',b']):=fun v g ⟨vs,e,hp⟩=>⟨vs,e,by
 match vs,hp with
 | [x, y], ⟨h1, h2, _⟩ => exact ⟨h _ _ h1, h' _ _ h2, trivial⟩⟩
theorem uE {b:Nat} {T:TypeId} {m:Nat} {x y:Int} (h:x=y):Own.le (aU b T m [(0, .agg 2,aP x)]) (aU b T m [(0, .agg 2,aP y)]):=h▸Own.le_refl _
attribute [local irreducible] J PJ aJ one slT bL bG bD exT cn eP aU aN slV VT.le Ret bS dI ej
theorem Ca (l:List (Nat × Nat)) (i:Nat) (hi:i<l.length):Ok Tryz.prog 85 [eu l,one (.int .i64 (i:Nat))] (gr (l.getD i (0,0))):=by
 unfold eu
 refine Ok.enter Tryz.func85 Z Tryz.ntmps85 Z (fun w O => ?_)
 refine ae (ai ?_)
 refine cv (T:=50) Z Z Z (fun b4 => ?_)
 refine CJ (aa (ae (ai (CG Z (CG Z (CF (aE Z Z X) (CF (aV Z) (bU 0 Z Z Z Z (CJ ?_)))))))))
 refine aa (aG ?_)
 refine aQ Tryz.results85 (.cellW 0 Z Z A)
theorem xD (p:Nat):Ok Tryz.prog 75 [one (.int .u64 (p:Int)),one (.int .u64 0)] (bD [one (.int .u64 0),one (.int .i64 30)]):=by
 refine Ok.enter Tryz.func75 Z Tryz.ntmps75 Z (fun w O => ?_)
 refine ae (ai (CH Z (CH Z (CJ (aa (ae (ae (ai (CG Z ?_)))))))))
 refine CF (sT X (cq Z Z)) (CJ (aa (aI Z (ae (ai (CH Z (CH Z (CJ (aa ?_)))))))))
 refine aG (aK ?_)
 refine cW Tryz.results75 (.tmp Z A) (.tmp Z A)
theorem xE (p a:Nat) (hp2:2≤p) (hp:p<4294967296) (ha:a<p):Ok Tryz.prog 75 [one (.int .u64 p),one (.int .u64 a)] (bD [one (.int .u64 (oe p a:Nat)),bS]):=by
 unfold oe
 by_cases h:a=0
 ·rw [if_pos h,h]; exact (xD p).le (eL _) (mJ A (pQ _))
 ·rw [if_neg h]; exact (uz p a hp2 hp h ha).le (eL _) (mJ A (pQ _))
theorem rC (l:List (Nat × Nat)) (h64:ml l) (hv:d5 [] l=false):Ok Tryz.prog 58 [eu l] (bD [aP 0,one (.int .i64 40)]):=by
 have hva:=oP l h64
 rw [hv] at hva
 refine Ok.enter Tryz.func58 Z Tryz.ntmps58 Z (fun w O => ?_)
 refine ae (ai ?_)
 refine aD (T:=28) Z (ltN Z) (fun b2 => ?_)
 refine CH Z (CJ (aa (ae (ae (ai (CG Z ?_))))))
 refine CF (am (hva) Z ⟨A,CK⟩) ?_
 refine CF (cZ Z) (CJ (aa (aI Z (ae (ai (stB Z Z Z (BuildK.nil (au 0 Z Z Z Z Z (leN Z) Z (CH Z ?_)))))))))
 refine CJ (aa (aG (aK ?_)))
 refine cW Tryz.results58 (.cellB 0 Z Z Z (ij)) (.tmp Z A)
theorem nF (l:List (Nat × Nat)) (h64:ml l) (hl:l.length≤16) (hv:d5 [] l=true):Ok Tryz.prog 58 [eu l] (bD [aP (lc l),one (.int .i64 0)]):=by
 have hva:=oP l h64
 rw [hv] at hva
 have hg:=jk hv
 have h0:=iT 0 U U
 have h1:=iT 1 U U
 refine Ok.enter Tryz.func58 Z Tryz.ntmps58 Z (fun w O => ?_)
 refine ae (ai ?_)
 refine aD (T:=28) Z (ltN Z) (fun b2 => ?_)
 refine CH Z (CJ (aa (ae (ae (ai (CG Z ?_))))))
 refine CF (am (hva) Z ⟨A,CK⟩) ?_
 refine CF (cZ Z) (CJ (aa (aB Z (aw (aa (ae (ai ?_)))))))
 refine CF (am (h0) Z ⟨A,CK⟩) ?_
 refine CF (am (h1) Z ⟨A,CK⟩) ?_
 refine aD (T:=28) Z (ltN Z) (fun b4 => ?_)
 refine aD (T:=28) Z (ltN Z) (fun b5 => ?_)
 refine au 1 Z Z Z Z Z (leN Z) Z (au 0 Z Z Z Z Z (leN Z) Z (CJ (aa (ae (ai (CG Z (CF (sW Z) (CH Z (CJ ?_)))))))))
 refine aa (ae (ae (ai (CG Z (CF (aW Z) (CG Z (CJ (aa (av ?_)))))))))
 refine ch (Γ' := [(2,_),(3,_),(4,_),(5,_),(6,_),(22,_),(23,_)]) Cz (SubM.refl _) ?_
 refine bE (σ:=Nat) (Γk := [(2,_),(3,_),(4,_),(5,_),(6,_),(22,_)]) Cz (fun i => [(23,one (.int .i64 (i:Nat)))]) (fun i M0=>((M0.set 0 (aU b5 28 (Lay.agg 2).sz [(0,Lay.agg 2,aP ((cQ (l.take i)).2:Nat))])).set 1 (aU b4 28 (Lay.agg 2).sz [(0,Lay.agg 2,aP ((cQ (l.take i)).1:Nat))]))) (fun i=>i≤l.length) (fun i=>l.length - i) (0) (Nat.zero_le _) CA (.keep CE (.keep CE (.keep CE (.nil)))) (fun i hi => ?_)
 refine bR (Γ' := [(23,_),(2,_),(3,_),(4,_),(5,_),(6,_),(22,_)]) (M' := [_,_,_]) Z Z ?_
 obtain ⟨k1,k2⟩:=ld hg i hi
 have sm2:=iq k2 X
 have sm1:=iq (m:=(cQ (l.take i)).1) (Nat.le_trans (Nat.le_of_lt k1) k2) X
 by_cases hc:i<l.length
 ·obtain ⟨_,g1,g2,g3⟩:=hg _ (oQ hc)
  obtain ⟨k3,k4⟩:=ld hg (i+1) hc
  have hat:=Ca l i hc
  have hstep:cQ (l.take (i+1))=gX (cQ (l.take i)) (l.getD i (0,0)):=by unfold cQ;rw [gK _ _ (0,0) hc]
  have ht:=uD (s:=cQ (l.take i)) g1
  have hmT:tb (cQ (l.take i)) (l.getD i (0,0))=(((l.getD i (0,0)).2+(l.getD i (0,0)).1 - (cQ (l.take i)).1 % (l.getD i (0,0)).1) % (l.getD i (0,0)).1)*oe (l.getD i (0,0)).1 ((cQ (l.take i)).2 % (l.getD i (0,0)).1) % (l.getD i (0,0)).1:=rfl
  unfold gr at hat
  rw [hstep] at k3 k4
  unfold gX at k3 k4 hstep
  dsimp only at k3 k4
  generalize (l.getD i (0,0)).1=p at *
  generalize (l.getD i (0,0)).2=v at *
  have hr2:=kc p ((cQ (l.take i)).2:Int) X X sm2
  have hr1:=kc p ((cQ (l.take i)).1:Int) X X sm1
  rw [← Int.natCast_emod,Int.toNat_natCast] at hr1 hr2
  have l1:=Nat.mod_lt (cQ (l.take i)).1 (show 0<p by omega)
  have l2:=Nat.mod_lt (cQ (l.take i)).2 (show 0<p by omega)
  have hin:=xE p _ g1 X l2
  have hsb:=pW p v _ X X X (show (cQ (l.take i)).1 % p≤v+p by omega)
  have l3:=Nat.mod_lt (v+p - (cQ (l.take i)).1 % p) (show 0<p by omega)
  have l4:oe p ((cQ (l.take i)).2 % p)<p:=by unfold oe;split;omega;exact Nat.mod_lt _ X
  have hmu:=gq p _ _ X X (show (v+p - (cQ (l.take i)).1 % p) % p<4294967296 by omega) (show oe p ((cQ (l.take i)).2 % p)<4294967296 by omega)
  rw [← hmT] at hmu
  generalize tb (cQ (l.take i)) (l.getD i (0,0))=t at *
  have hwt:=rA t X
  have hwp:=rA p X
  have smt:=iq (m:=t) (n:=64) X U
  have smp:=iq (m:=p) (n:=64) X U
  have hM1:=gm _ _ sm2 smt
  have hM2:=gm _ _ sm2 smp
  rw [← Int.natCast_mul] at hM1 hM2
  have k5:(cQ (l.take i)).2*t≤2^(31*(i+1)):=by omega
  have hA:=gl _ _ sm1 (iq k5 X)
  rw [← Int.natCast_add] at hA
  refine ae (ai (CF (sT X (bq Z Z)) (CJ (aa (ae (aI Z (aw (aa (ae ?_)))))))))
  refine av (ae (ai (CG Z (CH Z (CJ (aa (ae (ai (CG Z ?_)))))))))
  refine CG Z ?_
  refine CF (qW Z (hat) Z ⟨A,A,CK⟩) ?_
  refine CF (tU Z Z) (CG Z (CG Z ?_))
  refine CF (qW Z (hat) Z ⟨A,A,CK⟩) ?_
  refine CF (tU Z Z) (CH Z (CH Z (CJ (aa (ae (ai (CG Z (CG Z (CF (ak 0 Z Z Z) ?_)))))))))
  refine CF (am (hr2) Z ⟨A,A,CK⟩) ?_
  refine CF (am (hin) Z ⟨A,A,CK⟩) ?_
  refine CG Z (CF (az Z Z) (CF (az Z Z) (CH Z (CH Z (CJ (aa (ae (ai (CG Z ?_)))))))))
  refine CG Z (CG Z (CG Z (CF (ak 1 Z Z Z) ?_)))
  refine CF (am (hr1) Z ⟨A,A,CK⟩) ?_
  refine CF (am (hsb) Z ⟨A,A,A,CK⟩) ?_
  refine CG Z ?_
  refine CF (am (hmu) Z ⟨A,A,A,CK⟩) ?_
  refine CH Z (CJ (aa (ae (bh 6 a8 Y U (CF (ak 1 Z Z Z) (CF (ak 0 Z Z Z) (CG Z ?_)))))))
  refine CF (am (hwt) Z ⟨A,CK⟩) ?_
  refine CF (am (hM1) Z ⟨A,A,CK⟩) ?_
  refine CF (am (hA) Z ⟨A,A,CK⟩) ?_
  refine CJ (au 1 Z Z Z Z Z (leN Z) Z (CJ (aa (bh 4 a8 Y U (CF (ak 0 Z Z Z) (CG Z ?_))))))
  refine CF (am (hwp) Z ⟨A,CK⟩) ?_
  refine CF (am (hM2) Z ⟨A,A,CK⟩) ?_
  refine CJ (au 0 Z Z Z Z Z (leN Z) Z (CJ (aL (aa (ai (CF (bQ _ 1 Z Z X) (CG Z (CJ ?_))))))))
  refine aR (i+1) (hc) X CA (.keep (uE (by rw [hstep])) (.keep (uE (by rw [hstep])) (.keep CE (.nil))))
 ·have he:i=l.length:=by omega
  have e0:l.take i=l:=by rw [he,List.take_length]
  rw [e0] at sm1 sm2 ⊢
  rw [he]
  unfold lc
  have hcm:=jF (((cQ l).1+(cQ l).1:Nat):Int) ((cQ l).2:Int)
  have hA:=gl _ _ sm1 sm1
  rw [← Int.natCast_add] at hA
  have hS:=zi _ _ sm1 sm2
  by_cases c:(cQ l).2<(cQ l).1+(cQ l).1
  ·have hcc:0<cK (((cQ l).1+(cQ l).1:Nat):Int) ((cQ l).2:Int):=by unfold cK;rw [if_neg X,if_pos X]; decide
   rw [if_pos c]
   refine ae (ai (CF (sF X (bq Z Z)) (CJ (aa (ae (aB Z (a6 (ax (ax ?_)))))))))
   refine aM (aa (ae (ae (bh 6 a8 Y U (CF (ak 1 Z Z Z) (CF (ak 1 Z Z Z) ?_))))))
   refine CF (am (hA) Z ⟨A,A,CK⟩) ?_
   refine CF (ak 0 Z Z Z) ?_
   refine CF (am (hcm) Z ⟨A,A,CK⟩) ?_
   refine CF (sT (by assumption) (dh Z Z)) (CJ (CJ (aa (aI Z (ai (CF (ak 1 Z Z Z) (CF (ak 0 Z Z Z) ?_)))))))
   refine CF (am (hS) Z ⟨A,A,CK⟩) ?_
   refine au 1 Z Z Z Z Z (leN Z) Z (CJ (aa (ae (ai (CF (ak 1 Z Z Z) (au 2 Z Z Z Z Z (leN Z) Z (CH Z (CJ (aa ?_)))))))))
   refine aG ?_
   refine cW Tryz.results58 (.cellB 2 Z Z Z A) (.tmp Z A)
  ·have hcc : ¬ 0<cK (((cQ l).1+(cQ l).1:Nat):Int) ((cQ l).2:Int):=by unfold cK;split <;> (try split) <;> omega
   rw [if_neg c]
   refine ae (ai (CF (sF X (bq Z Z)) (CJ (aa (ae (aB Z (a6 (ax (ax ?_)))))))))
   refine aM (aa (ae (ae (bh 6 a8 Y U (CF (ak 1 Z Z Z) (CF (ak 1 Z Z Z) ?_))))))
   refine CF (am (hA) Z ⟨A,A,CK⟩) ?_
   refine CF (ak 0 Z Z Z) ?_
   refine CF (am (hcm) Z ⟨A,A,CK⟩) ?_
   refine CF (sF (by assumption) (dh Z Z)) (CJ (CJ (aa (aB Z (aw (aa (ae (ai (CF (ak 1 Z Z Z) ?_)))))))))
   refine au 2 Z Z Z Z Z (leN Z) Z (CH Z (CJ (aa (aG ?_))))
   refine cW Tryz.results58 (.cellB 2 Z Z Z A) (.tmp Z A)
end Tor
end
section
namespace Tor
open Go Go.RowKit Go.Proofs
variable [Tor.Co.Kc]
section
variable {P:Program} {E:Env} {Γ:Ctx} {M:Mem} {d:Option Tmp} {ty:TypeId} {pos:String} {af:Array Edge} {gd:Option (Nat × Bool)}
theorem Bd {T T':TypeId} {x y:Operand} {a b:Nat} (hx:aH Γ x=some (one (.int .u32 (a:Int)))) (hy:aH Γ y=some (one (.int .u32 (b:Int)))) (h:a*b<4294967296) :
  aJ P E Γ M ⟨d, .binOp .mul T x y T',ty,pos,af,gd⟩ (one (.int .u32 ((a*b:Nat):Int))) :=
 mf hx hy (by
  rw [kC, ← Int.natCast_mul]
  generalize a*b=z at *
  omega)
theorem vF {L:Lay} {k m j:Nat} {c c':Array Value} {x:Value} (h:bJ (.agg m) c k=some (.agg c')) (hx:bJ L c' j=some x):bJ L c (k+j)=some x:=by
 simp only [bJ] at h
 split at h
 ·rename_i hk
  cases h
  cases L with
  | one =>
   simp only [bJ] at hx ⊢
   rw [bZ] at hx
   split at hx
   ·exact hx
   ·cases hx
  | agg n =>
   simp only [bJ] at hx ⊢
   have hs:(c.extract k (k+m)).size=m:=by simp;omega
   rw [hs] at hx
   split at hx
   ·rename_i hj
    rw [if_pos X]
    rw [← hx]
    congr 2
    apply Array.ext_getElem?
    intro i
    rw [bZ,bZ,bZ]
    by_cases hi:i<n
    ·rw [if_pos hi,if_pos hi,if_pos X,Nat.add_assoc]
    ·rw [if_neg hi,if_neg hi]
   ·cases hx
 ·cases h
theorem gL {T T':TypeId} {L:Lay} [LayOf P T L] {x:Operand} {b o m m':Nat} {cs cs':bX} {φ:VT} (i k j:Nat) (hx:aH Γ x=some (one (.pointer (some ⟨b,o,none⟩)))) (hM:M[i]? = some (aU b T' m cs))
  (hl:e7 cs k=some (.agg m',bG m' cs')) (ho:o=k+j) (hl2:e7 cs' j=some (L, φ)):aJ P E Γ M ⟨d, .load T x,ty,pos,af,gd⟩ φ :=
 aJ.ofRun fun a w hb hf=>by
  have h1:a.eval x = .pointer (some ⟨b,o,none⟩):=hf x _ (by simp [Op.operands]) hx
  obtain ⟨c,hc,_,_,hcs⟩:=dH hb hM
  obtain ⟨v,hx',c',rfl,hs',_,hcs'⟩:=hcs _ (dX hl)
  obtain ⟨y,hy,hp⟩:=hcs' _ (dX hl2)
  refine ⟨y,?_,hp⟩
  have h2:=vF hx' hy
  subst ho
  simp only [execOp,h1,Instr.loadAt,Instr.sureAddr,Sem.run_bind,Sem.run_pure,Result.andThen_ok,dw hc h2]
theorem zF {b:Nat} {T:TypeId} {m:Nat} {cs:bX} {φ:VT} (h:VT.le (bG m cs) φ):Own.le (aU b T m cs) (aU b T m [(0, .agg m, φ)]) :=
 ⟨rfl,fun g h' ⟨c,hb,hs,ha,hc⟩=>⟨c,hb,hs,ha,fun q hq=>by
  rw [List.mem_singleton.1 hq]
  exact ⟨.agg c,by subst hs;simp [bJ],h _ _ ⟨c,rfl,hs,ha,hc⟩⟩⟩⟩
theorem rD {ops:Array Oper} {i:Nat} {os:List Oper} {K:List Deferred→Ctx→Mem→Prop} {D:List Deferred} {t1 t2 j n cap:Nat} {sv:Option Nat} {T:TypeId} {L:Lay} {φ:Nat→VT} (h1:bI Γ t1=some (one (slV sv n cap))) (h2:bI Γ t2=some (one (slV sv n cap))) (hM:M[j]? = some (aN sv T L cap n φ))
  (h:Run P E ops false i D ((t1,slT L n φ) :: (t2,slT L n φ) :: Γ) (M.eraseIdx j) os K):Run P E ops false i D Γ M os K :=
 qK [aN sv T L cap n φ] (dz j hM) (EntM.refl _) (fun s χ hs=>by
  have he:Ent [aN sv T L cap n φ] (one (slV sv n cap)) (slT L n φ):=Ent.sl List.mem_cons_self
  rw [a7] at hs
  split at hs
  ·rename_i e;subst e;cases hs;exact ⟨_,h1,he⟩
  ·rw [a7] at hs
   split at hs
   ·rename_i e;subst e;cases hs;exact ⟨_,h2,he⟩
   ·exact ⟨χ,hs,Ent.refl _⟩) h
theorem gM {ops:Array Oper} {i:Nat} {os:List Oper} {K:List Deferred→Ctx→Mem→Prop} {D:List Deferred} {t:Nat} {φ ψ:VT} (ht:bI Γ t=some φ) (hle:VT.le φ ψ) (h:Run P E ops false i D ((t, ψ) :: Γ) M os K):Run P E ops false i D Γ M os K :=
 .conv (fun a w hS=>hS.sub (fun s χ hs=>by
  rw [a7] at hs
  split at hs
  ·rename_i e;subst e;cases hs;exact ⟨φ,ht,hle⟩
  ·exact ⟨χ,hs,A⟩) (SubM.refl _)) h
end
attribute [local irreducible] J PJ aJ one slT bL bG bD exT cn eP aU aN slV VT.le Ret bS
theorem oR (l:List Nat) (d:Nat) (hl:bv l) (h1:l.length≤1099511627776) (hd0:0<d) (hd:d<4294967296):Ok Tryz.prog 117 [cd l,one (.int .u32 (d:Nat))] (bD [np (lv l / d),one (.int .u32 ((lv l % d:Nat):Int))]):=by
 refine Ok.enter Tryz.func117 Z Tryz.ntmps117 Z (fun w O => ?_)
 refine ae (ai (CH Z (CH Z (CJ (aa (ae (ai (CG Z (CF (aW Z) ?_)))))))))
 refine co l.length l.length Z Z Z Z (Nat.le_refl _) Z Z X Z Z (fun bz => ?_)
 refine CH Z (CH Z (CJ (aa (ae (ae (ai (CG Z (CF (aW Z) (CF (dx Z Z (aO X X)) ?_)))))))))
 refine CH Z (CJ (aa (av (ch (Γ' := [(0,_),(1,_),(4,_),(5,_),(6,_),(7,_),(8,_)]) Cz (SubM.refl _) ?_))))
 refine bE (σ:=List Nat × Nat × Nat) (Γk := [(0,_),(1,_),(4,_),(5,_),(6,_)]) Cz (fun s => [(8,one (.int .i64 ((s.2.1:Nat) - 1:Int))),(7,one (.int .u64 (s.2.2:Nat)))]) (fun s M0=>(M0.set 0 (aN (some bz) 83 .one l.length l.length (fun q=>one (.int .u32 (s.1.getD q 0:Nat)))))) (fun s=>ShortR l d s) (fun s=>s.2.1) ((List.replicate l.length 0,l.length,0)) (ShortR.start hd0) CA (.keep (bW (fun q _=>by rw [cm]; rfl)) (.nil)) (fun s hs => ?_)
 refine bR (Γ' := [(8,_),(7,_),(0,_),(1,_),(4,_),(5,_),(6,_)]) (M' := [_]) Z Z ?_
 obtain ⟨z,n,r⟩:=s
 dsimp only at hs ⊢
 refine ae (ae (ai (CG Z (CF (dF Z Z) (CJ (aa ?_))))))
 cases n with
 | zero =>
  obtain ⟨f1,f2⟩:=hs.finish
  have hlen:z.length=l.length:=hs.len
  have hr:r<d:=hs.r
  rw [← f1, ← f2]
  refine kL Z X (a6 (ax (ax (aM (aa (ae (ai (CG Z (CG Z ?_)))))))))
  refine CF (cw Z) (CH Z (CH Z (CJ (aa (aG (c4 (t:=4) (i:=0) Z Z ?_))))))
  refine cW Tryz.results117 (.tmp Z (VT.le_trans (ci (m:=z.length) (ψ:=fun i=>one (.int .u32 (z.getD i 0:Nat))) hlen.symm (fun q hq=>rfl)) (gk (l:=z) hs.lim Z X))) (.tmp Z (ao (by congr 1;omega)))
 | succ n =>
  have hx:=aY hl n
  have hr:r<d:=hs.r
  have hb:=ShortR.bound hx hr hd
  have hst:=hs.step hl hd
  have hn:n<l.length:=hs.le
  have hzn:n<z.length:=by have:=hs.len;dsimp only at this;omega
  have en:((n+1:Nat):Int) - 1=(n:Nat):=by omega
  rw [en]
  refine kK Z X (aw (aa (ae (av (ae (ai (CG Z (CF (fc (b:=4294967296) Z Z X) (CG Z ?_)))))))))
  refine CG Z (CF (aE Z Z X) (CF (aV Z) (CF (bH Z X) (CF (di Z Z X) (CH Z (CJ (aa (ae (ai ?_)))))))))
  refine CG Z (CG Z (CG Z (CG Z (CF (bH Z X) (CF (ja Z Z X X) (CF (cw Z) (CF (ay Z Z X) ?_)))))))
  (refine aA 0 Z Z Z ?_ Z ?_;omega)
  refine CJ (aa (ai (CG Z (CG Z (CF (bH Z X) (CF (ef _ Z Z Z X) (CH Z (CJ (aL ?_)))))))))
  refine aa (ai (CG Z (CF (dx Z Z (aO X X)) (CH Z (CJ ?_)))))
  refine aR ((z.set n ((r*4294967296+l.getD n 0) / d),n,(r*4294967296+l.getD n 0) % d)) (hst) (by (simp only []; omega)) CA (.keep (pS hzn (Nat.mod_eq_of_lt hb.2)) (.nil))
def vG (r d:Nat):Nat :=
 if (aC r).length=(aC d).length then max 1 ((aC r).getD ((aC r).length - 1) 0 / ((aC d).getD ((aC d).length - 1) 0+1))
 else (((aC r).getD ((aC r).length - 1) 0*4294967296+(aC r).getD ((aC r).length - 2) 0) / ((aC d).getD ((aC d).length - 1) 0+1))*4294967296^((aC r).length - (aC d).length - 1)
theorem jH {v:Nat} {n:Nat} (h:(aC v).length=n+1):v=lv ((aC v).take n)+4294967296^n*(aC v).getD n 0∧lv ((aC v).take n)<4294967296^n:=by
 have h1:=bF (l:=aC v) (k:=n) X
 rw [List.take_of_length_le X,bN] at h1
 exact ⟨h1,by have:=kb (aX v) n;rwa [← ro] at this⟩
theorem xF {r d:Nat} (hd:d≠0) (h:d≤r):0<vG r d∧vG r d*d≤r:=by
 have hlen:=cj h
 have hdl:(aC d).length≠0:=fun k=>hd (er k)
 obtain ⟨m,hm⟩ : ∃ m,(aC d).length=m+1:=⟨(aC d).length - 1,by omega⟩
 obtain ⟨e,he⟩ : ∃ e,(aC r).length=m+1+e:=⟨(aC r).length - (m+1),by omega⟩
 have hdt:=aY (aX d) m
 obtain ⟨d1,d2⟩:=jH hm
 unfold vG
 rw [hm,he]
 simp only [Nat.add_sub_cancel] at *
 generalize hx:(aC d).getD m 0=x at *
 generalize lv ((aC d).take m)=dl at *
 have hdlt:d<4294967296^m*(x+1):=by rw [Nat.mul_add]; omega
 cases e with
 | zero =>
  rw [if_pos Z]
  obtain ⟨r1,r2⟩:=jH he
  simp only [Nat.add_zero,Nat.add_sub_cancel] at *
  generalize (aC r).getD m 0=y at *
  generalize lv ((aC r).take m)=rl at *
  refine ⟨by omega,?_⟩
  rcases Nat.eq_zero_or_pos (y / (x+1)) with hq | hq
  ·rw [hq]; simpa using h
  ·rw [Nat.max_eq_right hq]
   have h1:y / (x+1)*d≤y / (x+1)*(4294967296^m*(x+1)):=Nat.mul_le_mul_left _ (Nat.le_of_lt hdlt)
   have h2:y / (x+1)*(4294967296^m*(x+1))=4294967296^m*(y / (x+1)*(x+1)):=by rw [Nat.mul_left_comm]
   have h3:4294967296^m*(y / (x+1)*(x+1))≤4294967296^m*y:=Nat.mul_le_mul_left _ (Nat.div_mul_le_self _ _)
   omega
 | succ e =>
  rw [if_neg X]
  rw [show m+1+(e+1) - 1=m+e+1 by omega,show m+1+(e+1) - 2=m+e by omega,show m+1+(e+1) - (m+1) - 1=e by omega]
  obtain ⟨r1,r2⟩:=jH (show (aC r).length=(m+e+1)+1 by omega)
  have r3:=bF (l:=aC r) (k:=m+e) X
  have hy0:(aC r).getD (m+e+1) 0≠0:=by
   intro hy
   have:=cz (n:=r) (k:=m+e+1) (by rw [hy,Nat.mul_zero,Nat.add_zero] at r1;rw [r1]; exact r2)
   omega
  generalize (aC r).getD (m+e+1) 0=y at *
  generalize (aC r).getD (m+e) 0=y2 at *
  rw [r3] at r1
  generalize lv ((aC r).take (m+e))=rl at *
  have hqp:0<(y*4294967296+y2) / (x+1):=Nat.div_pos X X
  have hle:=Nat.div_mul_le_self (y*4294967296+y2) (x+1)
  generalize (y*4294967296+y2) / (x+1)=q at *
  refine ⟨Nat.mul_pos hqp (Nat.pow_pos U),?_⟩
  have h1:q*4294967296^e*d≤q*4294967296^e*(4294967296^m*(x+1)):=Nat.mul_le_mul_left _ (Nat.le_of_lt hdlt)
  have h2:q*4294967296^e*(4294967296^m*(x+1))=4294967296^(m+e)*(q*(x+1)):=by
   rw [Nat.pow_add]; ac_rfl
  have h3:4294967296^(m+e)*(q*(x+1))≤4294967296^(m+e)*(y*4294967296+y2):=Nat.mul_le_mul_left _ hle
  have h4:4294967296^(m+e+1)*y=4294967296^(m+e)*(y*4294967296):=by rw [Nat.pow_succ]; ac_rfl
  rw [Nat.mul_add (4294967296^(m+e)) (y*4294967296) y2] at h3
  rw [h4] at r1
  rw [h2] at h1
  generalize 4294967296^(m+e)*(y*4294967296)=z1 at *
  generalize 4294967296^(m+e)*y2=z2 at *
  refine Nat.le_trans h1 (Nat.le_trans h3 ?_)
  rw [r1]
  exact Nat.le_trans (Nat.add_comm z1 z2▸Nat.le_refl _) (Nat.add_le_add_right (Nat.le_add_left _ _) _)
end Tor
end
section
namespace Tor
open Go Go.RowKit Go.Proofs
variable [Tor.Co.Kc]
theorem zG (a b:Nat):VT.le (slT .one 2 (fun q => [one (.int .u32 (b:Int)),one (.int .u32 (a:Int))].reverse.getD q bS)) (slT .one 2 (fun q=>one (.int .u32 (([a,b].getD q 0:Nat):Int)))) :=
 ci Z (fun q hq=>by
  match q,hq with
  | 0, _ => rfl
  | 1, _ => rfl)
theorem Be {k q:Nat} (hq:q<18446744073709551616) (hk:k≤1099511627776):VT.le (slT .one (k+2) (fun p=>if p<k then one (.int .u32 0) else (fun j=>one (.int .u32 (([q % 4294967296,q / 4294967296 % 4294967296].getD j 0:Nat):Int))) (p - k))) (np (q*4294967296^k)) :=
 VT.le_trans (ci (m:=(List.replicate k 0 ++ [q % 4294967296,q / 4294967296 % 4294967296]).length) (ψ:=fx (List.replicate k 0 ++ [q % 4294967296,q / 4294967296 % 4294967296])) (by simp) (fun p hp=>by
  unfold fx
  by_cases h:p<k
  ·rw [if_pos h]; simp [List.getD,List.getElem?_append,h]
  ·rw [if_neg h]; simp only [List.getD,List.getElem?_append,List.length_replicate,if_neg h])) (gk (fun d hd=>by
   rcases List.mem_append.1 hd with h | h
   ·rw [(List.mem_replicate.1 h).2]; decide
   ·rcases List.mem_cons.1 h with rfl | h
    ·exact Nat.mod_lt _ U
    ·rw [List.mem_singleton.1 h]; exact Nat.mod_lt _ U) (by
   rw [fK,dB,List.length_replicate,Nat.zero_add,Nat.mul_comm]
   congr 1
   simp only [lv]
   omega) (by simp;omega))
attribute [local irreducible] J PJ aJ one slT bL bG bD exT cn eP aU aN slV VT.le Ret bS
theorem rE (r d:Nat) (hd:d≠0) (h:d≤r) (hl:(aC r).length≤1099511627776):Ok Tryz.prog 118 [cd (aC r),cd (aC d)] (aP ((vG r d:Nat):Int)):=by
 have hlen:=cj h
 have hdl:(aC d).length≠0:=fun k=>hd (er k)
 have hx:=aY (aX d) ((aC d).length - 1)
 have hy:=aY (aX r) ((aC r).length - 1)
 have hz:=aY (aX r) ((aC r).length - 2)
 unfold vG
 refine Ok.enter Tryz.func118 Z Tryz.ntmps118 Z (fun w O => ?_)
 by_cases hk:(aC r).length=(aC d).length
 ·rw [if_pos hk]
  refine ae (ai ?_)
  refine aD (T:=28) Z (ltN Z) (fun b4 => ?_)
  refine CJ (aa (ae (bh 17 a8 Y U (CG Z (CF (aW Z) (CG Z (CF (aW Z) (CF (bT _ _ Z Z X X) (CG Z ?_)))))))))
  refine CF (aW Z) (CG Z (CG Z (CF (aW Z) (CF (bT _ 1 Z Z X X) (CF (aE Z Z X) (CF (aV Z) (CF (bH Z X) (CF (di (b:=1) Z Z X) (CH Z ?_)))))))))
  refine CH Z (CJ (CH Z (CJ (aa (ae (ae (ai (CG Z (CF (sT X (cq Z Z)) ?_)))))))))
  refine CJ (aa (aI Z (ae (ai (CG Z (CG Z (CF (bT _ 1 Z Z X X) (CF (aE Z Z X) (CF (aV Z) ?_)))))))))
  refine CF (bH Z X) (CG Z (CF (ja Z Z X X) (CF (wJ Z Z) ?_)))
  have hq:=Nat.div_le_self ((aC r).getD ((aC r).length - 1) 0) ((aC d).getD ((aC d).length - 1) 0+1)
  generalize (aC r).getD ((aC r).length - 1) 0 / ((aC d).getD ((aC d).length - 1) 0+1)=q at *
  refine CF (db Z X X) ?_
  refine CF (am (fo _ X X) Z ⟨A,CK⟩) ?_
  refine au 0 Z Z Z Z Z (leN Z) Z (CJ (aa (aG (aK ?_))))
  refine aQ Tryz.results118 (.cellB 0 Z Z Z (bV X))
 ·rw [if_neg hk]
  refine ae (ai ?_)
  refine aD (T:=28) Z (ltN Z) (fun b4 => ?_)
  refine CJ (aa (ae (bh 17 a8 Y U (CG Z (CF (aW Z) (CG Z (CF (aW Z) (CF (bT _ _ Z Z X X) (CG Z ?_)))))))))
  refine CF (aW Z) (CG Z (CG Z (CF (aW Z) (CF (bT _ 1 Z Z X X) (CF (aE Z Z X) (CF (aV Z) (CF (bH Z X) (CF (di (b:=1) Z Z X) (CH Z ?_)))))))))
  refine CH Z (CJ (CH Z (CJ (aa (ae (ae (ai (CG Z (CF (sF X (cq Z Z)) ?_)))))))))
  refine CJ (aa (aB Z (aw (aa (ae (bh 16 a8 Y U (CG Z (CG Z (CF (bT _ 1 Z Z X X) ?_)))))))))
  refine CF (aE Z Z X) (CF (aV Z) (CF (bH Z X) (CF (fc (b:=4294967296) Z Z X) (CG Z (CG Z (CF (bT _ 2 Z Z X X) (CF (aE Z Z X) (CF (aV Z) (CF (bH Z X) ?_)))))))))
  refine CF (di Z Z X) (CG Z (CF (ja Z Z X X) (CJ (CH Z (CJ (aa (ae (ai (CG Z ?_)))))))))
  refine CF (bT _ 1 Z Z X X) ?_
  have hq:=Nat.div_le_self ((aC r).getD ((aC r).length - 1) 0*4294967296+(aC r).getD ((aC r).length - 2) 0) ((aC d).getD ((aC d).length - 1) 0+1)
  generalize ((aC r).getD ((aC r).length - 1) 0*4294967296+(aC r).getD ((aC r).length - 2) 0) / ((aC d).getD ((aC d).length - 1) 0+1)=q at *
  obtain ⟨k,hkk⟩ : ∃ k,k=(aC r).length - (aC d).length - 1:=⟨_,rfl⟩
  rw [← hkk]
  refine co k k Z Z Z Z (Nat.le_refl _) Z Z X Z Z (fun bz => ?_)
  refine CH Z (CJ (aa (ae (ai (CG Z (CG Z (CF (cw Z) (CG Z (CF (fe Z) ?_)))))))))
  refine CF (cw Z) (stS Z Z Z Z (PartsK.cons Z (PartsK.cons Z (PartsK.nil (gM (t:=63) Z (zG _ _) ?_)))))
  (refine cX 0 Z Z Z (leN Z) ?_ ?_ Z (ltN Z) (fun sv64 cap64 => ?_);omega;omega)
  refine gz (t:=64) (j:=0) Z Z ?_
  have hq64:q<18446744073709551616:=by omega
  have hmd:=cY false (q*4294967296^k)
  rw [if_neg U] at hmd
  refine CF (am (hmd) Z ⟨(Be hq64 X),A,CK⟩) ?_
  refine au 0 Z Z Z Z Z (leN Z) Z (CJ (aa (aG ?_)))
  refine aQ Tryz.results118 (.cellB 0 Z Z Z (bV (by rw [hkk])))
theorem rF {d:Nat} (hd:d<4294967296):VT.le (slT .one 1 fun _=>one (.int .u32 (d:Int))) (np d) :=
 VT.le_trans (ci (m := [d].length) (ψ:=fx [d]) Z (fun q hq=>by
  have hq:q=0:=by omega
  subst hq;rfl)) (gk (fun x hx=>by rw [List.mem_singleton.1 hx]; exact hd) (by simp [lv]) (by simp))
theorem rG {b:Nat} (hb:b≠0):0<(aC b).getD ((aC b).length - 1) 0:=by
 have hdl:(aC b).length≠0:=fun k=>hb (er k)
 obtain ⟨m,hm⟩ : ∃ m,(aC b).length=m+1:=⟨(aC b).length - 1,by omega⟩
 obtain ⟨d1,d2⟩:=jH hm
 rw [hm,Nat.add_sub_cancel]
 rcases Nat.eq_zero_or_pos ((aC b).getD m 0) with h | h
 ·rw [h,Nat.mul_zero,Nat.add_zero] at d1
  have:=cz (n:=b) (k:=m) (by rw [d1]; exact d2)
  omega
 ·exact h
theorem nG {a s:Nat} (hs:s<4294967296):(aC (a*s)).length≤(aC a).length+1:=cz (by
 rw [Nat.pow_succ]
 have h1:=dj a
 rcases Nat.eq_zero_or_pos s with h | h
 ·subst h;rw [Nat.mul_zero]; exact Nat.mul_pos (Nat.pow_pos U) U
 ·exact Nat.mul_lt_mul'' h1 hs)
theorem Bf {a b s q r:Nat} (hs:0<s) (hb:0<b) (h:q*(b*s)+r=a*s) (hr:r<b*s):q=a / b∧r / s=a % b:=by
 have h1:(a*s) / (b*s)=q:=by rw [← h,Nat.mul_comm q,Nat.mul_add_div X,Nat.div_eq_of_lt hr,Nat.add_zero]
 have h2:(a*s) % (b*s)=r:=by rw [← h,Nat.mul_comm q,Nat.mul_add_mod,Nat.mod_eq_of_lt hr]
 rw [Nat.mul_div_mul_right _ _ hs] at h1
 rw [Nat.mul_mod_mul_right] at h2
 exact ⟨h1.symm,by rw [← h2,Nat.mul_div_cancel _ hs]⟩
theorem tc (a b:Nat) (hb:b≠0) (ha:(aC a).length≤1099511627700) (hbl:(aC b).length≤1099511627700):Ok Tryz.prog 78 [cd (aC a),cd (aC b)] (bD [aP ((a / b:Nat):Int),aP ((a % b:Nat):Int)]):=by
 have hbp:0<b:=by omega
 have hdl:(aC b).length≠0:=fun k=>hb (er k)
 refine Ok.enter Tryz.func78 Z Tryz.ntmps78 Z (fun w O => ?_)
 by_cases h1:(aC b).length=1
 ·have hb1:=ru h1
  have hd:=aY (aX b) 0
  have hsh:=oR (aC a) b (aX a) X X X
  rw [bN] at hsh
  have hr:=Nat.mod_lt a hbp
  have hm1:=cY false (a / b)
  have hm2:=cY false (a % b)
  rw [if_neg U] at hm1 hm2
  refine ae (ai ?_)
  refine aD (T:=28) Z (ltN Z) (fun b4 => ?_)
  refine aD (T:=28) Z (ltN Z) (fun b5 => ?_)
  refine CJ (aa (ae (ae (ai (CG Z (CF (aW Z) (CF (sT X (cq Z Z)) (CJ (aa ?_)))))))))
  refine aI Z (ae (ai (CG Z (CG Z (CF (ek Z Z X X) (CF (aV Z) ?_))))))
  refine CF (am (hsh) Z ⟨A,(ao (by rw [show (aC b).getD (Int.toNat 0) 0=b from hb1])),CK⟩) ?_
  refine CG Z (CF (az Z Z) (CF (az Z Z) (CH Z (CH Z (CJ (aa (ae (ai (CG Z ?_)))))))))
  refine CF (am (hm1) Z ⟨A,A,CK⟩) ?_
  refine CG Z (jW Z Z Z Z ?_)
  refine CF (am (hm2) Z ⟨(rF X),A,CK⟩) ?_
  refine au 1 Z Z Z Z Z (leN Z) Z (au 0 Z Z Z Z Z (leN Z) Z (CJ (aa (aG (aK ?_)))))
  refine cW Tryz.results78 (.cellB 1 Z Z Z A) (.cellB 0 Z Z Z A)
 ·have hx:=aY (aX b) ((aC b).length - 1)
  have hx0:=rG hb
  refine ae (ai ?_)
  refine aD (T:=28) Z (ltN Z) (fun b4 => ?_)
  refine aD (T:=28) Z (ltN Z) (fun b5 => ?_)
  refine CJ (aa (ae (ae (ai (CG Z (CF (aW Z) (CF (sF X (cq Z Z)) (CJ (aa ?_)))))))))
  refine aB Z (aw (aa (ae (ai (CH Z (CJ (aa (ae (av ?_)))))))))
  refine ch (Γ' := [(0,_),(1,_),(4,_),(5,_),(8,_)]) Cz (SubM.refl _) ?_
  refine bE (σ:=Nat) (Γk := [(0,_),(1,_),(4,_),(5,_)]) Cz (fun s => [(8,one (.int .u32 (s:Nat)))]) (fun s M0=>M0) (fun s=>0<s∧s<4294967296) (fun s=>4294967296 - s) (1) (⟨by decide,by decide⟩) CA (.keep CE (.keep CE (.nil))) (fun s hs => ?_)
  refine bR (Γ' := [(8,_),(0,_),(1,_),(4,_),(5,_)]) (M' := [_,_]) Z Z ?_
  obtain ⟨s0,s1⟩:=hs
  have hb1:=Nat.mul_le_mul (show (aC b).getD ((aC b).length - 1) 0≤4294967295 by omega) (show s≤4294967295 by omega)
  have hb2:=Nat.mul_le_mul_right s hx0
  by_cases hc:(aC b).getD ((aC b).length - 1) 0*s<2147483648
  ·refine ae (ae (ai (CG Z (CG Z (CF (aW Z) (CF (bT _ 1 Z Z X X) (CF (aE Z Z X) (CF (aV Z) (CF (bH Z X) ?_)))))))))
   refine CG Z (CF (bH Z X) (CF (fc Z Z X) (CF (sT X (bq Z Z)) (CJ (aa (aI Z (aw (aa (av ?_)))))))))
   refine ai (CG Z (CF (Bd (a:=2) Z Z X) (CH Z (CJ (aL ?_)))))
   refine aR (2*s) (⟨by omega,by omega⟩) X CA (.keep CE (.keep CE (.nil)))
  ·have hma:=cY false a
   have hmb:=cY false b
   have hms:=cY false s
   rw [if_neg U] at hma hmb hms
   have la:=nG (a:=a) s1
   have lb:=nG (a:=b) s1
   have ls:bO ((s:Nat):Int):=cP (by rw [Int.natAbs_natCast]; exact Nat.lt_trans s1 V)
   have hMa:=fv (a:Int) (s:Int) (show (aC a).length≤_ by omega) ls
   have hMb:=fv (b:Int) (s:Int) (show (aC b).length≤_ by omega) ls
   rw [← Int.natCast_mul] at hMa hMb
   refine ae (ae (ai (CG Z (CG Z (CF (aW Z) (CF (bT _ 1 Z Z X X) (CF (aE Z Z X) (CF (aV Z) (CF (bH Z X) ?_)))))))))
   refine CG Z (CF (bH Z X) (CF (fc Z Z X) (CF (sF X (bq Z Z)) (CJ (aa (aB Z (a6 (ax (ax ?_)))))))))
   refine aM (aa (ae (ai (CG Z (jW Z Z Z Z ?_)))))
   refine CF (am (hms) Z ⟨(rF s1),A,CK⟩) ?_
   refine aD (T:=28) Z (ltN Z) (fun b9 => ?_)
   refine au 0 Z Z Z Z Z (leN Z) Z (CJ (aa (ae ?_)))
   refine eA a8 Y Y ?_
   refine ux (fun B=>ab Z) Z Z ?_
   refine uxk (hma) Z ⟨(cM X),A,CK⟩ Z ?_
   refine ux (fun B=>ak 0 Z Z Z) Z Z ?_
   refine uxk (hMa) Z ⟨A,A,CK⟩ Z ?_
   refine ux (fun B=>ab Z) Z Z ?_
   refine uxk (hmb) Z ⟨(cM X),A,CK⟩ Z ?_
   refine ux (fun B=>ak 0 Z Z Z) Z Z ?_
   refine uxk (hMb) Z ⟨A,A,CK⟩ Z ?_
   refine uB Z Z Z (BuildK.nil (ua Z (ua Z (ua Z (us Z (us Z (us Z ?_)))))))
   refine RunU.nil (fun γ => ?_)
   refine cT (M' := [_,_,_,_,_,_]) Z (pp (dR.refl _) (.keep nk (.keep CE (.keep CE (SubM.refl _)))) (aa (ae (av ?_))))
   have hbs:0<b*s:=Nat.mul_pos hbp s0
   refine ch (Γ' := [(4,_),(5,_),(8,_),(10,_),(11,_),(12,_)]) Cz (SubM.refl _) ?_
   refine bE (σ:=Nat × Nat) (Γk := [(4,_),(5,_),(8,_),(10,_),(11,_),(12,_)]) Cz (fun p => []) (fun p M0=>((M0.set 0 (aU (γ 12) 28 (Lay.agg 2).sz [(0,Lay.agg 2,aP (p.1:Int))])).set 2 (aU (γ 10) 28 (Lay.agg 2).sz [(0,Lay.agg 2,aP (p.2:Int))]))) (fun p=>p.1*(b*s)+p.2=a*s) (fun p=>p.2) ((0,a*s)) ((by simp)) CA (.keep (zF ij) (.keep CE (.keep CE (.keep CE (.keep CE (.keep CE (.nil))))))) (fun p hp => ?_)
   refine bR (Γ' := [(4,_),(5,_),(8,_),(10,_),(11,_),(12,_)]) (M' := [_,_,_,_,_,_]) Z Z ?_
   obtain ⟨q,r⟩:=p
   dsimp only at hp ⊢
   have hle:=kU r (b*s)
   by_cases hr:r<b*s
   ·obtain ⟨f1,f2⟩:=Bf s0 hbp hp hr
    have lr:(aC r).length≤1099511627776:=by
     have:=cj (show r≤a*s by omega)
     omega
    have hsh:=oR (aC r) s (aX r) lr s0 s1
    rw [bN,f2] at hsh
    have hm2:=cY false (a % b)
    rw [if_neg U] at hm2
    refine ae (ae (ai (CF (aj Z) (CF (gL 2 0 1 Z Z Z Z Z) (CF (aj Z) (CF (gL 1 0 1 Z Z Z Z Z) ?_))))))
    refine CF (sT (by assumption) (am (hle) Z ⟨A,A,CK⟩)) ?_
    refine CF (cZ Z) (CJ (aa (aB Z (a6 (ax (ax (aM (aa (ae ?_)))))))))
    refine ai (CF (aj Z) (CF (gL 2 0 1 Z Z Z Z Z) (CG Z ?_)))
    refine CF (am (hsh) Z ⟨A,A,CK⟩) ?_
    refine CG Z (CF (az Z Z) (CF (az Z Z) (CH Z (CH Z (CJ (aa (ae (iz 3 a8 Y U (CF (ak 0 Z Z Z) ?_)))))))))
    refine CG Z ?_
    refine CF (am (hm2) Z ⟨A,A,CK⟩) ?_
    refine CJ (au 5 Z Z Z Z Z (leN Z) Z (au 4 Z Z Z Z Z (leN Z) Z (CJ (aa (aG ?_)))))
    refine cW Tryz.results78 (.cellB 5 Z Z Z (bV (by rw [f1]))) (.cellB 4 Z Z Z A)
   ·have lr:(aC r).length≤1099511627776:=by
     have:=cj (show r≤a*s by omega)
     omega
    obtain ⟨e0,e1⟩:=xF (show b*s≠0 by omega) (Nat.le_of_not_lt hr)
    have hes:=rE r (b*s) X (Nat.le_of_not_lt hr) lr
    generalize vG r (b*s)=e at *
    have hq0:q≤q*(b*s):=Nat.le_mul_of_pos_right _ hbs
    have he0:e≤e*(b*s):=Nat.le_mul_of_pos_right _ hbs
    have le0:bO (e:Int):=Nat.le_trans (cj (show (e:Int).natAbs≤r by omega)) lr
    have lq0:bO (q:Int):=Nat.le_trans (cj (show (q:Int).natAbs≤a*s by omega)) X
    have lbs:bO ((b*s:Nat):Int):=Nat.le_trans (cj (show ((b*s:Nat):Int).natAbs≤b*s by omega)) X
    have lrs:bO (r:Int):=Nat.le_trans (cj (show (r:Int).natAbs≤r by omega)) lr
    have les:bO ((e*(b*s):Nat):Int):=Nat.le_trans (cj (show ((e*(b*s):Nat):Int).natAbs≤r by omega)) lr
    have hmu:=fv (e:Int) ((b*s:Nat):Int) le0 lbs
    rw [← Int.natCast_mul] at hmu
    have hsu:=kX (r:Int) ((e*(b*s):Nat):Int) lrs les
    rw [← Int.ofNat_sub e1] at hsu
    have had:=fp (q:Int) (e:Int) lq0 le0
    rw [← Int.natCast_add] at had
    refine ae (ae (ai (CF (aj Z) (CF (gL 2 0 1 Z Z Z Z Z) (CF (aj Z) (CF (gL 1 0 1 Z Z Z Z Z) ?_))))))
    refine CF (sF (by assumption) (am (hle) Z ⟨A,A,CK⟩)) ?_
    refine CF (cZ Z) (CJ (aa (aI Z (aw (aa (av (ae (ai (CF (aj Z) ?_)))))))))
    refine CF (gL 2 0 1 Z Z Z Z Z) (CF (aj Z) (CF (gL 1 0 1 Z Z Z Z Z) ?_))
    refine CF (am (hes) Z ⟨A,A,CK⟩) ?_
    refine aD (T:=28) Z (ltN Z) (fun b13 => ?_)
    refine au 0 Z Z Z Z Z (leN Z) Z (CJ (aa (ae (ai (CF (ak 1 Z Z Z) (CF (ak 0 Z Z Z) ?_))))))
    refine CF (am (had) Z ⟨A,A,CK⟩) ?_
    refine au 1 Z Z Z Z Z (leN Z) Z (CJ (aa (bh 5 a8 Y U (CF (ak 3 Z Z Z) (CF (ak 0 Z Z Z) (CF (ak 2 Z Z Z) ?_))))))
    refine CF (am (hmu) Z ⟨A,A,CK⟩) ?_
    refine CF (am (hsu) Z ⟨A,A,CK⟩) ?_
    refine CJ (au 3 Z Z Z Z Z (leN Z) Z (CJ (aL ?_)))
    refine aR ((q+e,r - e*(b*s))) ((by dsimp only;rw [Nat.add_mul]; omega)) X CA (.drop (.keep CE (.keep CE (.keep CE (.keep CE (.keep CE (.keep CE (.nil))))))))
end Tor
end
section
namespace Tor
open Go Go.RowKit Go.Proofs
variable [Tor.Co.Kc]
def kg (x:Int):Prop:=(aC x.natAbs).length≤1099511627700
theorem oS {x:Int} (h:x.natAbs<2^2048):kg x:=by
 have:(aC x.natAbs).length≤64:=cz (Nat.lt_of_lt_of_le h V)
 unfold kg;omega
theorem kg.small {x:Int} (h:kg x):bO x:=by unfold kg at h;unfold Tor.bO;omega
theorem iE {x y:Int} (h:bO y) (hl:x.natAbs≤y.natAbs):bO x:=Nat.le_trans (cj hl) h
theorem og (n:Nat):(aC (n+1)).length≤(aC n).length+1:=cz (by
 have h:=dj n
 rw [Nat.pow_succ]
 have h0:0<4294967296^(aC n).length:=Nat.pow_pos U
 generalize 4294967296^(aC n).length=z at *
 omega)
attribute [local irreducible] J PJ aJ one slT bL bG bD exT cn eP aU aN slV VT.le Ret bS
theorem oT (x:Int):Ok Tryz.prog 41 [np x.natAbs,one (.bool (decide (x<0)))] (aP x):=by
 have h:=cY (decide (x<0)) x.natAbs
 have e:(if decide (x<0)=true then -(x.natAbs:Int) else (x.natAbs:Int))=x:=by
  by_cases hx:x<0
  ·rw [if_pos (by simpa using hx)]; omega
  ·rw [if_neg (by simpa using hx)]; omega
 rw [e] at h
 exact h
set_option maxRecDepth 20000 in
theorem te (a b:Int) (hb:b≠0) (ha:kg a) (hbs:kg b):Ok Tryz.prog 52 [aP a,aP b] (bD [aP (a / b),aP (a % b),one (.int .i64 0)]):=by
 obtain ⟨g1,g2,g3⟩:=uv (a:=a) hb
 have hB:b.natAbs≠0:=by omega
 have ha':(aC a.natAbs).length≤1099511627700:=ha
 have hb':(aC b.natAbs).length≤1099511627700:=hbs
 have hdiv:=tc a.natAbs b.natAbs hB ha' hb'
 have hlt:=Nat.mod_lt a.natAbs (Nat.pos_of_ne_zero hB)
 have hql:=Nat.div_le_self a.natAbs b.natAbs
 have hma:=oT a
 have hmb:=oT b
 have hsb:fm b≠0:=by unfold fm;rw [if_neg hb]; split <;> decide
 have hmb2:=cY false b.natAbs
 rw [if_neg U] at hmb2
 have hsg:=dY ((a.natAbs % b.natAbs:Nat):Int)
 have hof:=fo 1 U U
 have sq:bO ((a.natAbs / b.natAbs:Nat):Int):=iE ha.small (by rw [Int.natAbs_natCast]; exact hql)
 have s1:bO 1:=cP V
 have had:=fp ((a.natAbs / b.natAbs:Nat):Int) 1 sq s1
 have hsu:=kX (b.natAbs:Int) ((a.natAbs % b.natAbs:Nat):Int) (iE hbs.small X) (iE hbs.small (by rw [Int.natAbs_natCast]; exact Nat.le_of_lt hlt))
 have hsu2:=kX b ((a.natAbs % b.natAbs:Nat):Int) hbs.small (iE hbs.small (by rw [Int.natAbs_natCast]; exact Nat.le_of_lt hlt))
 have hn1:=kW ((a.natAbs / b.natAbs:Nat):Int) sq
 have sq1:bO (((a.natAbs / b.natAbs:Nat):Int)+1):=by
  have h1:=og (a.natAbs / b.natAbs)
  have h2:=cj hql
  have e:(((a.natAbs / b.natAbs:Nat):Int)+1).natAbs=a.natAbs / b.natAbs+1:=by generalize a.natAbs / b.natAbs=z;omega
  unfold Tor.bO
  rw [e]
  omega
 have hn2:=kW (((a.natAbs / b.natAbs:Nat):Int)+1) sq1
 refine Ok.enter Tryz.func52 Z Tryz.ntmps52 Z (fun w O => ?_)
 by_cases hn:a<0
 ·by_cases hr:a.natAbs % b.natAbs=0
  ·obtain ⟨k1,k2⟩:=g2 hn hr
   have hs0:fm ((a.natAbs % b.natAbs:Nat):Int)=0:=by rw [hr]; rfl
   by_cases hm:b<0
   ·rw [if_pos hm] at k1
    refine ae (ai ?_)
    refine bm Z Z (ltN Z) (fun b2 => ?_)
    refine bm Z Z (ltN Z) (fun b3 => ?_)
    refine aD (T:=28) Z (ltN Z) (fun b4 => ?_)
    refine aD (T:=28) Z (ltN Z) (fun b5 => ?_)
    refine CH Z (CJ (aa (ae (iz 9 a8 Y U (CF (aj Z) (CF (ak 3 Z Z Z) (CF (aj Z) (CF (sT (by assumption) (ak 3 Z Z Z)) ?_))))))))
    refine CF (am (hma) Z ⟨(cM X),(ao (by rw [decide_eq_true hn])),CK⟩) ?_
    refine CF (aj Z) (CF (ak 2 Z Z Z) (CF (aj Z) (CF (sT (by assumption) (ak 2 Z Z Z)) (CJ ?_))))
    refine CF (am (hmb) Z ⟨(cM X),(ao (by rw [decide_eq_true hm])),CK⟩) ?_
    refine bU 3 Z Z Z Z (bU 2 Z Z Z Z (CJ (aa (ae (ae (ai (CF (bB 2 Z Z) ?_)))))))
    refine CF (am (dY _) Z ⟨A,CK⟩) ?_
    refine CF (sF (by assumption) (cq Z Z)) (CJ (aa (aB Z (aw (aa (ae (ai (CF (aj Z) (CF (ak 3 Z Z Z) ?_)))))))))
    refine CF (aj Z) (CF (ak 2 Z Z Z) ?_)
    refine CF (am (hdiv) Z ⟨A,A,CK⟩) ?_
    refine CG Z (CF (az Z Z) (CF (az Z Z) ?_))
    refine aD (T:=28) Z (ltN Z) (fun b7 => ?_)
    refine aD (T:=28) Z (ltN Z) (fun b8 => ?_)
    refine au 1 Z Z Z Z Z (leN Z) Z (au 0 Z Z Z Z Z (leN Z) Z (CJ (aa (ae (ae (ai (CF (aj Z) (CF (sT (by assumption) (ak 5 Z Z Z)) (CG Z ?_)))))))))
    refine CI (ak 0 Z Z Z) ?_
    refine CI (am (hsg) Z ⟨A,CK⟩) ?_
    refine CI (sF X (dh Z Z)) (CF (bp Z Z) (CJ (aa (aB Z (aw (aa (ae (ae (ai ?_)))))))))
    refine CF (aj Z) (CF (sT (by assumption) (ak 5 Z Z Z)) (CF (aj Z) (CF (sT (by assumption) (ak 4 Z Z Z)) (CF (i5 Z Z) (CJ (aa (aB Z (aw (aa ?_)))))))))
    refine ae ?_
    refine jA [⟨5,b5,28,Lay.agg 2⟩,⟨4,b4,28,Lay.agg 2⟩] [_,_] [_,_,_,_] a8 Y Z ((dz 2 Z).trans (.cons _ ((dz 2 Z).trans (.cons _ (List.Perm.refl _))))) Z (And.intro Z (And.intro Z (trivial))) ?_
    refine ux (fun B=>ak 1 Z Z Z) Z Z ?_
    refine ux (fun B=>ak 0 Z Z Z) Z Z ?_
    refine us Z (us Z ?_)
    refine ux (fun B=>ah Z) Z Z ?_
    refine RunU.nil ⟨And.intro Z (And.intro Z (And.intro Z (And.intro Z (trivial)))),?_⟩
    refine cT (M' := [_,_,_,_,_,_]) Z (aa (aG ?_))
    refine kE Tryz.results52 (.cellB 1 Z Z Z (bV (by rw [k1]))) (.cellB 0 Z Z Z (bV (by rw [k2,hr]; rfl))) (.tmp Z A)
   ·rw [if_neg hm] at k1
    refine ae (ai ?_)
    refine bm Z Z (ltN Z) (fun b2 => ?_)
    refine bm Z Z (ltN Z) (fun b3 => ?_)
    refine aD (T:=28) Z (ltN Z) (fun b4 => ?_)
    refine aD (T:=28) Z (ltN Z) (fun b5 => ?_)
    refine CH Z (CJ (aa (ae (iz 9 a8 Y U (CF (aj Z) (CF (ak 3 Z Z Z) (CF (aj Z) (CF (sT (by assumption) (ak 3 Z Z Z)) ?_))))))))
    refine CF (am (hma) Z ⟨(cM X),(ao (by rw [decide_eq_true hn])),CK⟩) ?_
    refine CF (aj Z) (CF (ak 2 Z Z Z) (CF (aj Z) (CF (sF (by assumption) (ak 2 Z Z Z)) (CJ ?_))))
    refine CF (am (hmb) Z ⟨(cM X),(ao (by rw [decide_eq_false hm])),CK⟩) ?_
    refine bU 3 Z Z Z Z (bU 2 Z Z Z Z (CJ (aa (ae (ae (ai (CF (bB 2 Z Z) ?_)))))))
    refine CF (am (dY _) Z ⟨A,CK⟩) ?_
    refine CF (sF (by assumption) (cq Z Z)) (CJ (aa (aB Z (aw (aa (ae (ai (CF (aj Z) (CF (ak 3 Z Z Z) ?_)))))))))
    refine CF (aj Z) (CF (ak 2 Z Z Z) ?_)
    refine CF (am (hdiv) Z ⟨A,A,CK⟩) ?_
    refine CG Z (CF (az Z Z) (CF (az Z Z) ?_))
    refine aD (T:=28) Z (ltN Z) (fun b7 => ?_)
    refine aD (T:=28) Z (ltN Z) (fun b8 => ?_)
    refine au 1 Z Z Z Z Z (leN Z) Z (au 0 Z Z Z Z Z (leN Z) Z (CJ (aa (ae (ae (ai (CF (aj Z) (CF (sT (by assumption) (ak 5 Z Z Z)) (CG Z ?_)))))))))
    refine CI (ak 0 Z Z Z) ?_
    refine CI (am (hsg) Z ⟨A,CK⟩) ?_
    refine CI (sF X (dh Z Z)) (CF (bp Z Z) (CJ (aa (aB Z (aw (aa (ae (ae (ai ?_)))))))))
    refine CF (aj Z) (CF (sT (by assumption) (ak 5 Z Z Z)) (CF (aj Z) (CF (sF (by assumption) (ak 4 Z Z Z)) (CF (i5 Z Z) (CJ (aa (aI Z (ai (CF (ak 1 Z Z Z) ?_)))))))))
    refine CF (am (hn1) Z ⟨A,CK⟩) ?_
    refine au 1 Z Z Z Z Z (leN Z) Z (CJ (aa (ae ?_)))
    refine jA [⟨5,b5,28,Lay.agg 2⟩,⟨4,b4,28,Lay.agg 2⟩] [_,_] [_,_,_,_] a8 Y Z ((dz 2 Z).trans (.cons _ ((dz 2 Z).trans (.cons _ (List.Perm.refl _))))) Z (And.intro Z (And.intro Z (trivial))) ?_
    refine ux (fun B=>ak 1 Z Z Z) Z Z ?_
    refine ux (fun B=>ak 0 Z Z Z) Z Z ?_
    refine us Z (us Z ?_)
    refine ux (fun B=>ah Z) Z Z ?_
    refine RunU.nil ⟨And.intro Z (And.intro Z (And.intro Z (And.intro Z (trivial)))),?_⟩
    refine cT (M' := [_,_,_,_,_,_]) Z (aa (aG ?_))
    refine kE Tryz.results52 (.cellB 1 Z Z Z (bV (by rw [k1]))) (.cellB 0 Z Z Z (bV (by rw [k2,hr]; rfl))) (.tmp Z A)
  ·obtain ⟨k1,k2⟩:=g3 hn hr
   have hs0:fm ((a.natAbs % b.natAbs:Nat):Int)=1:=by unfold fm;rw [if_neg X,if_neg X]
   by_cases hm:b<0
   ·rw [if_pos hm] at k1
    refine ae (ai ?_)
    refine bm Z Z (ltN Z) (fun b2 => ?_)
    refine bm Z Z (ltN Z) (fun b3 => ?_)
    refine aD (T:=28) Z (ltN Z) (fun b4 => ?_)
    refine aD (T:=28) Z (ltN Z) (fun b5 => ?_)
    refine CH Z (CJ (aa (ae (iz 9 a8 Y U (CF (aj Z) (CF (ak 3 Z Z Z) (CF (aj Z) (CF (sT (by assumption) (ak 3 Z Z Z)) ?_))))))))
    refine CF (am (hma) Z ⟨(cM X),(ao (by rw [decide_eq_true hn])),CK⟩) ?_
    refine CF (aj Z) (CF (ak 2 Z Z Z) (CF (aj Z) (CF (sT (by assumption) (ak 2 Z Z Z)) (CJ ?_))))
    refine CF (am (hmb) Z ⟨(cM X),(ao (by rw [decide_eq_true hm])),CK⟩) ?_
    refine bU 3 Z Z Z Z (bU 2 Z Z Z Z (CJ (aa (ae (ae (ai (CF (bB 2 Z Z) ?_)))))))
    refine CF (am (dY _) Z ⟨A,CK⟩) ?_
    refine CF (sF (by assumption) (cq Z Z)) (CJ (aa (aB Z (aw (aa (ae (ai (CF (aj Z) (CF (ak 3 Z Z Z) ?_)))))))))
    refine CF (aj Z) (CF (ak 2 Z Z Z) ?_)
    refine CF (am (hdiv) Z ⟨A,A,CK⟩) ?_
    refine CG Z (CF (az Z Z) (CF (az Z Z) ?_))
    refine aD (T:=28) Z (ltN Z) (fun b7 => ?_)
    refine aD (T:=28) Z (ltN Z) (fun b8 => ?_)
    refine au 1 Z Z Z Z Z (leN Z) Z (au 0 Z Z Z Z Z (leN Z) Z (CJ (aa (ae (ae (ai (CF (aj Z) (CF (sT (by assumption) (ak 5 Z Z Z)) (CG Z ?_)))))))))
    refine CI (ak 0 Z Z Z) ?_
    refine CI (am (hsg) Z ⟨A,CK⟩) ?_
    refine CI (sT X (dh Z Z)) (CF (bp Z Z) (CJ (aa (aI Z (ae (bh 2 a8 Y U (CF (ak 1 Z Z Z) ?_)))))))
    refine CF (am (hof) Z ⟨A,CK⟩) ?_
    refine CJ ?_
    refine CF (am (had) Z ⟨A,A,CK⟩) ?_
    refine au 1 Z Z Z Z Z (leN Z) Z (CJ (aa (bh 5 a8 Y U (CF (aj Z) (CF (ak 4 Z Z Z) ?_)))))
    refine CF (am (hmb2) Z ⟨(cM X),A,CK⟩) ?_
    refine CF (ak 0 Z Z Z) ?_
    refine CF (am (hsu) Z ⟨A,A,CK⟩) ?_
    refine CJ (au 0 Z Z Z Z Z (leN Z) Z (CJ (aa (ae (ae (ai (CF (aj Z) (CF (sT (by assumption) (ak 5 Z Z Z)) (CF (aj Z) ?_)))))))))
    refine CF (sT (by assumption) (ak 4 Z Z Z)) (CF (i5 Z Z) (CJ (aa (aB Z (aw (aa (ae ?_)))))))
    refine jA [⟨5,b5,28,Lay.agg 2⟩,⟨4,b4,28,Lay.agg 2⟩] [_,_] [_,_,_,_] a8 Y Z ((dz 2 Z).trans (.cons _ ((dz 2 Z).trans (.cons _ (List.Perm.refl _))))) Z (And.intro Z (And.intro Z (trivial))) ?_
    refine ux (fun B=>ak 1 Z Z Z) Z Z ?_
    refine ux (fun B=>ak 0 Z Z Z) Z Z ?_
    refine us Z (us Z ?_)
    refine ux (fun B=>ah Z) Z Z ?_
    refine RunU.nil ⟨And.intro Z (And.intro Z (And.intro Z (And.intro Z (trivial)))),?_⟩
    refine cT (M' := [_,_,_,_,_,_]) Z (aa (aG ?_))
    refine kE Tryz.results52 (.cellB 1 Z Z Z (bV (by rw [k1,Int.natCast_add]; rfl))) (.cellB 0 Z Z Z (bV (by rw [k2,Int.ofNat_sub (Nat.le_of_lt hlt)]))) (.tmp Z A)
   ·rw [if_neg hm] at k1
    refine ae (ai ?_)
    refine bm Z Z (ltN Z) (fun b2 => ?_)
    refine bm Z Z (ltN Z) (fun b3 => ?_)
    refine aD (T:=28) Z (ltN Z) (fun b4 => ?_)
    refine aD (T:=28) Z (ltN Z) (fun b5 => ?_)
    refine CH Z (CJ (aa (ae (iz 9 a8 Y U (CF (aj Z) (CF (ak 3 Z Z Z) (CF (aj Z) (CF (sT (by assumption) (ak 3 Z Z Z)) ?_))))))))
    refine CF (am (hma) Z ⟨(cM X),(ao (by rw [decide_eq_true hn])),CK⟩) ?_
    refine CF (aj Z) (CF (ak 2 Z Z Z) (CF (aj Z) (CF (sF (by assumption) (ak 2 Z Z Z)) (CJ ?_))))
    refine CF (am (hmb) Z ⟨(cM X),(ao (by rw [decide_eq_false hm])),CK⟩) ?_
    refine bU 3 Z Z Z Z (bU 2 Z Z Z Z (CJ (aa (ae (ae (ai (CF (bB 2 Z Z) ?_)))))))
    refine CF (am (dY _) Z ⟨A,CK⟩) ?_
    refine CF (sF (by assumption) (cq Z Z)) (CJ (aa (aB Z (aw (aa (ae (ai (CF (aj Z) (CF (ak 3 Z Z Z) ?_)))))))))
    refine CF (aj Z) (CF (ak 2 Z Z Z) ?_)
    refine CF (am (hdiv) Z ⟨A,A,CK⟩) ?_
    refine CG Z (CF (az Z Z) (CF (az Z Z) ?_))
    refine aD (T:=28) Z (ltN Z) (fun b7 => ?_)
    refine aD (T:=28) Z (ltN Z) (fun b8 => ?_)
    refine au 1 Z Z Z Z Z (leN Z) Z (au 0 Z Z Z Z Z (leN Z) Z (CJ (aa (ae (ae (ai (CF (aj Z) (CF (sT (by assumption) (ak 5 Z Z Z)) (CG Z ?_)))))))))
    refine CI (ak 0 Z Z Z) ?_
    refine CI (am (hsg) Z ⟨A,CK⟩) ?_
    refine CI (sT X (dh Z Z)) (CF (bp Z Z) (CJ (aa (aI Z (ae (bh 2 a8 Y U (CF (ak 1 Z Z Z) ?_)))))))
    refine CF (am (hof) Z ⟨A,CK⟩) ?_
    refine CJ ?_
    refine CF (am (had) Z ⟨A,A,CK⟩) ?_
    refine au 1 Z Z Z Z Z (leN Z) Z (CJ (aa (bh 5 a8 Y U (CF (aj Z) (CF (ak 4 Z Z Z) ?_)))))
    refine CF (am (hmb) Z ⟨(cM X),(ao (by rw [decide_eq_false hm])),CK⟩) ?_
    refine CF (ak 0 Z Z Z) ?_
    refine CF (am (hsu2) Z ⟨A,A,CK⟩) ?_
    refine CJ (au 0 Z Z Z Z Z (leN Z) Z (CJ (aa (ae (ae (ai (CF (aj Z) (CF (sT (by assumption) (ak 5 Z Z Z)) (CF (aj Z) ?_)))))))))
    refine CF (sF (by assumption) (ak 4 Z Z Z)) (CF (i5 Z Z) (CJ (aa (aI Z (ai (CF (ak 1 Z Z Z) ?_))))))
    refine CF (am (hn2) Z ⟨A,CK⟩) ?_
    refine au 1 Z Z Z Z Z (leN Z) Z (CJ (aa (ae ?_)))
    refine jA [⟨5,b5,28,Lay.agg 2⟩,⟨4,b4,28,Lay.agg 2⟩] [_,_] [_,_,_,_] a8 Y Z ((dz 2 Z).trans (.cons _ ((dz 2 Z).trans (.cons _ (List.Perm.refl _))))) Z (And.intro Z (And.intro Z (trivial))) ?_
    refine ux (fun B=>ak 1 Z Z Z) Z Z ?_
    refine ux (fun B=>ak 0 Z Z Z) Z Z ?_
    refine us Z (us Z ?_)
    refine ux (fun B=>ah Z) Z Z ?_
    refine RunU.nil ⟨And.intro Z (And.intro Z (And.intro Z (And.intro Z (trivial)))),?_⟩
    refine cT (M' := [_,_,_,_,_,_]) Z (aa (aG ?_))
    refine kE Tryz.results52 (.cellB 1 Z Z Z (bV (by rw [k1,Int.natCast_add]; rfl))) (.cellB 0 Z Z Z (bV (by rw [k2,Int.ofNat_sub (Nat.le_of_lt hlt),Int.natAbs_of_nonneg (show 0≤b by omega)]))) (.tmp Z A)
 ·obtain ⟨k1,k2⟩:=g1 X
  by_cases hm:b<0
  ·rw [if_pos hm] at k1
   refine ae (ai ?_)
   refine bm Z Z (ltN Z) (fun b2 => ?_)
   refine bm Z Z (ltN Z) (fun b3 => ?_)
   refine aD (T:=28) Z (ltN Z) (fun b4 => ?_)
   refine aD (T:=28) Z (ltN Z) (fun b5 => ?_)
   refine CH Z (CJ (aa (ae (iz 9 a8 Y U (CF (aj Z) (CF (ak 3 Z Z Z) (CF (aj Z) (CF (sF (by assumption) (ak 3 Z Z Z)) ?_))))))))
   refine CF (am (hma) Z ⟨(cM X),(ao (by rw [decide_eq_false hn])),CK⟩) ?_
   refine CF (aj Z) (CF (ak 2 Z Z Z) (CF (aj Z) (CF (sT (by assumption) (ak 2 Z Z Z)) (CJ ?_))))
   refine CF (am (hmb) Z ⟨(cM X),(ao (by rw [decide_eq_true hm])),CK⟩) ?_
   refine bU 3 Z Z Z Z (bU 2 Z Z Z Z (CJ (aa (ae (ae (ai (CF (bB 2 Z Z) ?_)))))))
   refine CF (am (dY _) Z ⟨A,CK⟩) ?_
   refine CF (sF (by assumption) (cq Z Z)) (CJ (aa (aB Z (aw (aa (ae (ai (CF (aj Z) (CF (ak 3 Z Z Z) ?_)))))))))
   refine CF (aj Z) (CF (ak 2 Z Z Z) ?_)
   refine CF (am (hdiv) Z ⟨A,A,CK⟩) ?_
   refine CG Z (CF (az Z Z) (CF (az Z Z) ?_))
   refine aD (T:=28) Z (ltN Z) (fun b7 => ?_)
   refine aD (T:=28) Z (ltN Z) (fun b8 => ?_)
   refine au 1 Z Z Z Z Z (leN Z) Z (au 0 Z Z Z Z Z (leN Z) Z (CJ (aa (ae (ae (ai (CF (aj Z) (CF (sF (by assumption) (ak 5 Z Z Z)) (CG Z ?_)))))))))
   refine sg0 Z Z Z Z (sg0 Z Z Z Z (sg0 Z Z Z Z (CF (bK Z Z) (CJ (aa (aB Z (aw (aa (ae ?_)))))))))
   refine ae (ai (CF (aj Z) (CF (sF (by assumption) (ak 5 Z Z Z)) (CF (aj Z) (CF (sT (by assumption) (ak 4 Z Z Z)) (CF (i5 Z Z) (CJ (aa (aI Z ?_)))))))))
   refine ai (CF (ak 1 Z Z Z) ?_)
   refine CF (am (hn1) Z ⟨A,CK⟩) ?_
   refine au 1 Z Z Z Z Z (leN Z) Z (CJ (aa (ae ?_)))
   refine jA [⟨5,b5,28,Lay.agg 2⟩,⟨4,b4,28,Lay.agg 2⟩] [_,_] [_,_,_,_] a8 Y Z ((dz 2 Z).trans (.cons _ ((dz 2 Z).trans (.cons _ (List.Perm.refl _))))) Z (And.intro Z (And.intro Z (trivial))) ?_
   refine ux (fun B=>ak 1 Z Z Z) Z Z ?_
   refine ux (fun B=>ak 0 Z Z Z) Z Z ?_
   refine us Z (us Z ?_)
   refine ux (fun B=>ah Z) Z Z ?_
   refine RunU.nil ⟨And.intro Z (And.intro Z (And.intro Z (And.intro Z (trivial)))),?_⟩
   refine cT (M' := [_,_,_,_,_,_]) Z (aa (aG ?_))
   refine kE Tryz.results52 (.cellB 1 Z Z Z (bV (by rw [k1]))) (.cellB 0 Z Z Z (bV (by rw [k2]))) (.tmp Z A)
  ·rw [if_neg hm] at k1
   refine ae (ai ?_)
   refine bm Z Z (ltN Z) (fun b2 => ?_)
   refine bm Z Z (ltN Z) (fun b3 => ?_)
   refine aD (T:=28) Z (ltN Z) (fun b4 => ?_)
   refine aD (T:=28) Z (ltN Z) (fun b5 => ?_)
   refine CH Z (CJ (aa (ae (iz 9 a8 Y U (CF (aj Z) (CF (ak 3 Z Z Z) (CF (aj Z) (CF (sF (by assumption) (ak 3 Z Z Z)) ?_))))))))
   refine CF (am (hma) Z ⟨(cM X),(ao (by rw [decide_eq_false hn])),CK⟩) ?_
   refine CF (aj Z) (CF (ak 2 Z Z Z) (CF (aj Z) (CF (sF (by assumption) (ak 2 Z Z Z)) (CJ ?_))))
   refine CF (am (hmb) Z ⟨(cM X),(ao (by rw [decide_eq_false hm])),CK⟩) ?_
   refine bU 3 Z Z Z Z (bU 2 Z Z Z Z (CJ (aa (ae (ae (ai (CF (bB 2 Z Z) ?_)))))))
   refine CF (am (dY _) Z ⟨A,CK⟩) ?_
   refine CF (sF (by assumption) (cq Z Z)) (CJ (aa (aB Z (aw (aa (ae (ai (CF (aj Z) (CF (ak 3 Z Z Z) ?_)))))))))
   refine CF (aj Z) (CF (ak 2 Z Z Z) ?_)
   refine CF (am (hdiv) Z ⟨A,A,CK⟩) ?_
   refine CG Z (CF (az Z Z) (CF (az Z Z) ?_))
   refine aD (T:=28) Z (ltN Z) (fun b7 => ?_)
   refine aD (T:=28) Z (ltN Z) (fun b8 => ?_)
   refine au 1 Z Z Z Z Z (leN Z) Z (au 0 Z Z Z Z Z (leN Z) Z (CJ (aa (ae (ae (ai (CF (aj Z) (CF (sF (by assumption) (ak 5 Z Z Z)) (CG Z ?_)))))))))
   refine sg0 Z Z Z Z (sg0 Z Z Z Z (sg0 Z Z Z Z (CF (bK Z Z) (CJ (aa (aB Z (aw (aa (ae ?_)))))))))
   refine ae (ai (CF (aj Z) (CF (sF (by assumption) (ak 5 Z Z Z)) (CF (aj Z) (CF (sF (by assumption) (ak 4 Z Z Z)) (CF (i5 Z Z) (CJ (aa (aB Z ?_)))))))))
   refine aw (aa (ae ?_))
   refine jA [⟨5,b5,28,Lay.agg 2⟩,⟨4,b4,28,Lay.agg 2⟩] [_,_] [_,_,_,_] a8 Y Z ((dz 2 Z).trans (.cons _ ((dz 2 Z).trans (.cons _ (List.Perm.refl _))))) Z (And.intro Z (And.intro Z (trivial))) ?_
   refine ux (fun B=>ak 1 Z Z Z) Z Z ?_
   refine ux (fun B=>ak 0 Z Z Z) Z Z ?_
   refine us Z (us Z ?_)
   refine ux (fun B=>ah Z) Z Z ?_
   refine RunU.nil ⟨And.intro Z (And.intro Z (And.intro Z (And.intro Z (trivial)))),?_⟩
   refine cT (M' := [_,_,_,_,_,_]) Z (aa (aG ?_))
   refine kE Tryz.results52 (.cellB 1 Z Z Z (bV (by rw [k1]))) (.cellB 0 Z Z Z (bV (by rw [k2]))) (.tmp Z A)
end Tor
end
section
namespace Tor
def lf (n:Nat):Prop := ∀ d,2≤d→d*d≤n→n % d≠0
def gN (n:Nat):Nat→Nat→Bool
 | 0, d => Nat.ble (n + 1) (d * d) || !(Nat.beq (n % d) 0)
 | k + 1, d => gN n k d && gN n k (d + 2 ^ k)
theorem lT {n:Nat} : ∀ {k d:Nat},gN n k d=true → ∀ e,d≤e→e<d+2^k→e*e≤n→n % e≠0
 | 0, d, h, e, h1, h2, h3 => by
  have:e=d:=by simp at h2;omega
  subst this
  simp only [gN,Bool.or_eq_true,Bool.not_eq_true'] at h
  rcases h with h | h
  ·have:=Nat.le_of_ble_eq_true h;omega
  ·intro hz;rw [hz] at h;cases h
 | k + 1, d, h, e, h1, h2, h3 => by
  simp only [gN,Bool.and_eq_true] at h
  rw [Nat.pow_succ] at h2
  rcases Nat.lt_or_ge e (d+2^k) with hl | hl
  ·exact lT h.1 e h1 hl h3
  ·exact lT h.2 e hl X h3
theorem lg {n k:Nat} (h:gN n k 2=true) (hn:n<(2+2^k)*(2+2^k)):lf n:=fun d h1 h2=>by
 rcases Nat.lt_or_ge d (2+2^k) with hl | hl
 ·exact lT h d h1 hl h2
 ·have:=Nat.mul_le_mul hl hl;omega
def iV (p:Nat→Bool):Nat→Nat
 | 0 => 0
 | m + 1 => if p m then m else iV p m
theorem lh (p:Nat→Bool) : ∀ m,iV p m≤m - 1
 | 0 => Nat.le_refl _
 | m + 1 => by
  have:=lh p m
  show (if p m then m else iV p m)≤m
  split <;> omega
noncomputable def lU (m:Nat):Bool := @decide (2≤m∧m<2147483648∧lf m) (Classical.propDecidable _)
theorem iF {m:Nat} : lU m=true↔2≤m∧m<2147483648∧lf m := @decide_eq_true_iff _ (Classical.propDecidable _)
abbrev bf (p:Nat→Bool) (n:Nat):Nat:=iV p (min n 2147483648)
def ndL (p:Nat→Bool) (B:Int):Nat→Nat→Nat→Option (List Nat)
 | 0, _, _ => none
 | f + 1, pr, q => if B < (pr : Int) then some [] else if bf p q = 0 then none else (ndL p B f (pr * bf p q) (bf p q)).map (bf p q :: ·)
end Tor
end
section
namespace Tor
open Go Go.RowKit Go.Proofs
variable [Tor.Co.Kc]
attribute [local irreducible] J PJ aJ one slT bL bG bD exT cn eP aU aN slV VT.le Ret bS dI ej
theorem vH (n:Nat) (h2:2≤n) (hn:n<2147483648) (hT:lf n):Ok Tryz.prog 54 [one (.int .u64 (n:Int))] (one (.bool true)):=by
 refine Ok.enter Tryz.func54 Z Tryz.ntmps54 Z (fun w O => ?_)
 refine ae (ai (CH Z (CJ (aa (ae (ae (ai (CG Z (CF (sF X (bq Z Z)) ?_)))))))))
 refine CG Z (CI (ab Z) (CI (sF X (dF Z Z)) (CF (bK Z Z) (CJ (aa (aB Z (aw (aa (ae ?_)))))))))
 refine ae (ai (CH Z (CJ (aa (av (ch (Γ' := [(0,_),(2,_),(3,_)]) Cz (SubM.refl _) ?_))))))
 refine bE (σ:=Nat) (Γk := [(0,_)]) Cz (fun d => [(3,one (.int .u64 (d:Nat)))]) (fun d M0=>M0) (fun d=>2≤d∧d≤65536) (fun d=>65537 - d) (2) (⟨by decide,by decide⟩) CA (.nil) (fun d hd => ?_)
 refine bR (Γ' := [(3,_),(0,_)]) (M' := []) Z Z ?_
 obtain ⟨d1,d2⟩:=hd
 have hb:=Nat.mul_le_mul d2 d2
 by_cases hc:d*d≤n
 ·have hm:=hT d d1 hc
  have hlt:d<65536:=by
   rcases Nat.lt_or_ge d 65536 with h | h
   ·exact h
   ·have:=Nat.mul_le_mul h h;omega
  have hm2 : ¬ n % d=0:=hm
  refine ae (ae (ai (CG Z (CG Z (CF (fc Z Z X) (CG Z (CF (sT X (po Z Z)) (CJ (aa ?_)))))))))
  refine aI Z (aw (aa (ae (av (ae (ai (CG Z (CG Z (CF (ef _ Z Z Z X) ?_)))))))))
  refine CF (sF X (cq Z Z)) (CJ (aa (aB Z (aw (aL (aa (ai (CG Z (CF (di (b:=1) Z Z X) ?_)))))))))
  refine CH Z (CJ ?_)
  refine aR (d+1) (⟨by omega,by omega⟩) X CA (.nil)
 ·refine ae (ae (ai (CG Z (CG Z (CF (fc Z Z X) (CG Z (CF (sF X (po Z Z)) (CJ (aa ?_)))))))))
  refine aB Z (a6 (ax (ax (aM (aa (ae (ai (CH Z (CJ ?_)))))))))
  refine aa (aG ?_)
  refine aQ Tryz.results54 (.tmp Z A)
end Tor
end
section
namespace Tor
open Go Go.RowKit Go.Proofs
variable [Tor.Co.Kc]
def AF (p:Nat × Nat):Prop:=2≤p.1∧p.1<2147483648∧lf p.1∧p.2<p.1
theorem oU {l:List (Nat × Nat)} {i:Nat} (h:i<l.length):l.getD i (0,0)∈l:=by
 rw [show l.getD i (0,0)=l[i] by simp [List.getD,h]]; exact List.getElem_mem h
theorem rH {l:List (Nat × Nat)} {i x:Nat} (hi:i≤l.length):x∈io l i ↔ ∃ j,j<i∧(l.getD j (0,0)).1=x:=by
 unfold io
 rw [List.mem_map]
 constructor
 ·rintro ⟨p,hp,rfl⟩
  obtain ⟨j,hj⟩:=List.mem_iff_getElem?.1 hp
  rw [List.getElem?_take] at hj
  split at hj
  ·rename_i h;exact ⟨j,h,by rw [List.getD,hj]; rfl⟩
  ·cases hj
 ·rintro ⟨j,hj,rfl⟩
  refine ⟨l.getD j (0,0),?_,rfl⟩
  refine List.mem_iff_getElem?.2 ⟨j,?_⟩
  rw [List.getElem?_take,if_pos hj]
  rw [List.getElem?_eq_getElem X]
  simp [List.getD,show j<l.length by omega]
theorem ki {l:List (Nat × Nat)} {i:Nat} (hi:i<l.length):(io l (i+1)).Nodup↔(io l i).Nodup∧(l.getD i (0,0)).1 ∉ io l i:=by
 rw [lS hi,List.nodup_append]
 constructor
 ·rintro ⟨h1,_,h2⟩
  exact ⟨h1,fun h=>h2 _ h _ (List.mem_singleton.2 Z) Z⟩
 ·rintro ⟨h1,h2⟩
  exact ⟨h1,by simp,fun a ha b hb e=>h2 (by rw [← List.mem_singleton.1 hb, ← e]; exact ha)⟩
theorem xG (l:List (Nat × Nat)):io l l.length=l.map (·.1):=by unfold io;rw [List.take_length]
theorem oV {l:List (Nat × Nat)} {i:Nat} (h:(l.map (·.1)).Nodup):(io l i).Nodup:=by
 unfold io;rw [List.map_take]; exact List.Sublist.nodup (List.take_sublist _ _) h
attribute [local irreducible] J PJ aJ one slT bL bG bD exT cn eP aU aN slV VT.le Ret bS dI ej
theorem Bg (l:List (Nat × Nat)) (hg : ∀ p∈l,AF p):Ok Tryz.prog 23 [eu l] (one (.bool (decide (l.map (·.1)).Nodup))):=by
 refine Ok.enter Tryz.func23 Z Tryz.ntmps23 Z (fun w O => ?_)
 refine gY (t:=0) Z (fun _ _ h=>ei (show (slT (.agg 2) l.length (fun i=>gr (l.getD i (0,0)))).p _ _ from h)) (fun hbound => ?_)
 unfold eu gr
 refine ae (ai (CH Z (CJ (aa (ae (ae (ai (CH Z (CJ ?_)))))))))
 refine aa (av (ch (Γ' := [(0,_),(2,_),(3,_)]) Cz (SubM.refl _) ?_))
 refine bE (σ:=Nat) (Γk := [(0,_)]) Cz (fun i => [(3,one (.int .i64 (i:Nat)))]) (fun i M0=>M0) (fun i=>i≤l.length∧(io l i).Nodup) (fun i=>l.length - i) (0) (⟨Nat.zero_le _,List.nodup_nil⟩) CA (.nil) (fun i hi => ?_)
 refine bR (Γ' := [(3,_),(0,_)]) (M' := []) Z Z ?_
 obtain ⟨hi,hnd⟩:=hi
 by_cases hc:i<l.length
 ·obtain ⟨g1,g2,g3,g4⟩:=hg _ (oU hc)
  have hpr:=vH _ g1 g2 g3
  refine ae (ae (ai (CG Z (CG Z (CF (aW Z) (CF (sT X (bq Z Z)) (CJ (aa (aI Z ?_)))))))))
  refine aw (aa (ae (av (ae (ae (bh 28 a8 Y U (CG Z (CG Z (CF (aE Z Z X) ?_)))))))))
  refine CF (e8 Z Z) (CF (aV Z) (CF (sF X (dF Z Z)) (CG Z (CI (ab Z) (CI (ab Z) (CI (aE Z Z X) (CI (e8 Z Z) (CI (aV Z) ?_))))))))
  refine CI (am (hpr) Z ⟨A,CK⟩) ?_
  refine CI (cZ Z) (CF (bK Z Z) (CG Z (CI (ab Z) (CI (ab Z) (CI (aE Z Z X) (CI (e8 Z Z) (CI (aV Z) (CI (ab Z) (CI (ab Z) ?_)))))))))
  refine CI (aE Z Z X) (CI (e8 Z Z) (CI (aV Z) (CI (sF X (dF Z Z)) (CF (bK Z Z) (CJ (CJ (aa (aB Z (aw ?_)))))))))
  refine aa (ae (ai (CH Z (CJ (aa (av (ch (Γ' := [(0,_),(3,_),(4,_)]) Cz (SubM.refl _) ?_)))))))
  refine bE (σ:=Nat) (Γk := [(0,_),(3,_)]) Cz (fun k => [(4,one (.int .i64 (k:Nat)))]) (fun k M0=>M0) (fun k=>k≤i ∧ ∀ j,j<k→(l.getD j (0,0)).1≠(l.getD i (0,0)).1) (fun k=>i - k) (0) (⟨Nat.zero_le _,fun j h=>absurd h (Nat.not_lt_zero _)⟩) CA (.nil) (fun k hk => ?_)
  refine bR (Γ' := [(4,_),(0,_),(3,_)]) (M' := []) Z Z ?_
  obtain ⟨hk,hne⟩:=hk
  by_cases hkc:k<i
  ·by_cases he:(l.getD k (0,0)).1=(l.getD i (0,0)).1
   ·have hdup : ¬ (l.map (·.1)).Nodup:=fun h=>by
     have h2:=oV (i:=i+1) h
     rw [ki hc] at h2
     exact h2.2 ((rH hi).2 ⟨k,hkc,he⟩)
    rw [decide_eq_false hdup]
    refine ae (ae (ai (CG Z (CG Z (CF (sT X (bq Z Z)) (CJ (aa (aI Z (aw ?_)))))))))
    refine aa (ae (av (ae (bh 11 a8 Y U (CG Z (CG Z (CF (aE Z Z X) (CF (e8 Z Z) (CF (aV Z) ?_)))))))))
    refine CG Z (CG Z (CF (aE Z Z X) (CF (e8 Z Z) (CF (aV Z) (CF (sT X (cq Z Z)) (CJ (CJ (aa (aI Z ?_)))))))))
    refine ae (ai (CH Z (CJ (aa (aG (a9 (aK (aK (a9 ?_)))))))))
    refine a9 (aK (aK (a9 (aK ?_))))
    refine aQ Tryz.results23 (.tmp Z A)
   ·refine ae (ae (ai (CG Z (CG Z (CF (sT X (bq Z Z)) (CJ (aa (aI Z (aw ?_)))))))))
    refine aa (ae (av (ae (bh 11 a8 Y U (CG Z (CG Z (CF (aE Z Z X) (CF (e8 Z Z) (CF (aV Z) ?_)))))))))
    refine CG Z (CG Z (CF (aE Z Z X) (CF (e8 Z Z) (CF (aV Z) (CF (sF X (cq Z Z)) (CJ (CJ (aa (aB Z ?_)))))))))
    refine aw (aL (aa (ai (CG Z (CF (bQ _ 1 Z Z X) (CH Z (CJ ?_)))))))
    refine aR (k+1) (⟨hkc,fun j hj=>by rcases Nat.lt_or_eq_of_le (Nat.lt_succ_iff.1 hj) with h | h;exact hne j h;rw [h]; exact he⟩) X CA (.nil)
  ·have hki:k=i:=by omega
   have hnn:(io l (i+1)).Nodup:=(ki hc).2 ⟨hnd,fun h=>by
    obtain ⟨j,h1,h2⟩:=(rH hi).1 h
    exact hne j X h2⟩
   refine ae (ae (ai (CG Z (CG Z (CF (sF X (bq Z Z)) (CJ (aa (aB Z (a6 ?_)))))))))
   refine ax (ax (aM (aL (aa (ai (CG Z (CF (bQ _ 1 Z Z X) (CH Z (CJ ?_)))))))))
   refine aR (i+1) (⟨hc,hnn⟩) X CA (.nil)
 ·have hl:i=l.length:=by omega
  rw [hl,xG] at hnd
  rw [decide_eq_true hnd]
  refine ae (ae (ai (CG Z (CG Z (CF (aW Z) (CF (sF X (bq Z Z)) (CJ (aa (aB Z ?_)))))))))
  refine a6 (ax (ax (aM (aa (ae (ai (CH Z (CJ (aa ?_)))))))))
  refine aG ?_
  refine aQ Tryz.results23 (.tmp Z A)
theorem xH {l:List Nat} {c:Nat} (h:c<l.length):lv (l.drop c)=lv (l.drop (c+1))*4294967296+l.getD c 0:=by
 rw [eU h,lv]; omega
theorem vI (n:Nat) (hn:n<9223372036854775808):Ok Tryz.prog 53 [aP (n:Int)] (bD [one (.int .i64 (n:Int)),one (.bool true)]):=by
 have hl2:(aC n).length≤2:=cz (Nat.lt_trans hn U)
 have hlv:=bN n
 have hlim:=aX n
 have hneg : ¬ (n:Int)<0:=by omega
 unfold aP
 rw [Int.natAbs_natCast,decide_eq_false hneg]
 refine Ok.enter Tryz.func53 Z Tryz.ntmps53 Z (fun w O => ?_)
 refine ae (ai ?_)
 refine bm Z Z (ltN Z) (fun b1 => ?_)
 refine CH Z (CH Z (CJ (aa (ae (ae (ai (CF (aj Z) (CF (ak 0 Z Z Z) (CF (aW Z) ?_)))))))))
 refine CF (sF X (dh Z Z)) (CJ (aa (aB Z (aw (aa (ae (ai (CH Z (CJ ?_)))))))))
 refine aa (ae (ae (ai (CF (aj Z) (CF (ak 0 Z Z Z) (CF (aW Z) (CF (dx Z Z (aO X X)) (CH Z (CJ ?_)))))))))
 refine aa (av (ch (Γ' := [(1,_),(2,_),(3,_),(4,_),(5,_)]) Cz (SubM.refl _) ?_))
 refine bE (σ:=Nat) (Γk := [(1,_),(2,_),(3,_)]) Cz (fun c => [(5,one (.int .i64 ((c:Nat) - 1:Int))),(4,one (.int .u64 (lv ((aC n).drop c):Nat)))]) (fun c M0=>M0) (fun c=>c≤(aC n).length) (fun c=>c) ((aC n).length) (Nat.le_refl _) (dR.cons Z A (dR.cons Z (ao (by rw [List.drop_length]; rfl)) dR.nil)) (.keep CE (.nil)) (fun c hc => ?_)
 refine bR (Γ' := [(5,_),(4,_),(1,_),(2,_),(3,_)]) (M' := [_]) Z Z ?_
 cases c with
 | zero =>
  rw [List.drop_zero,hlv]
  refine ae (ae (ai (CG Z (CF (sF X (dF Z Z)) (CJ (aa (aB Z (a6 (ax ?_)))))))))
  refine ax (aM (aa (ae (ae (ai (CF (aj Z) (CF (ak 0 Z Z Z) (CJ (aa ?_)))))))))
  refine aB Z (aw (aa (ae (ai (CG Z (CF (db Z X X) (CG Z (CF (sT X (po Z Z)) (CH Z ?_)))))))))
  refine CH Z (CJ (aa (aG ?_)))
  refine cW Tryz.results53 (.tmp Z A) (.tmp Z A)
 | succ c =>
  have hdv:=xH (l:=aC n) (c:=c) hc
  have hg:=aY hlim c
  have hle:lv ((aC n).drop c)≤n:=by
   have:=fj (aC n) c X
   rw [hlv] at this
   have hp:0<4294967296^c:=Nat.pow_pos U
   have:=Nat.le_mul_of_pos_left (lv ((aC n).drop c)) hp
   omega
  have en:((c+1:Nat):Int) - 1=(c:Nat):=by omega
  rw [en]
  generalize lv ((aC n).drop (c+1))=z at *
  refine ae (ae (ai (CG Z (CF (sT X (dF Z Z)) (CJ (aa (aI Z (aw (aa ?_)))))))))
  refine ae (av (ai (CG Z (CF (fc (b:=4294967296) Z Z X) (CF (aj Z) (CF (ak 0 Z Z Z) (CG Z (CF (aE Z Z X) (CF (aV Z) ?_)))))))))
  refine CF (bH Z X) (CF (di Z Z X) (CH Z (CJ (aL (aa (ai (CG Z (CF (dx Z Z (aO X X)) (CH Z ?_)))))))))
  refine CJ ?_
  refine aR (c) (Nat.le_of_succ_le hc) X (dR.cons Z A (dR.cons Z (ao (by rw [hdv])) (dR.cons Z A (dR.cons Z A (dR.cons Z A dR.nil))))) (.keep CE (.nil))
theorem Bh {out:List (Nat × Nat)} (h:(out.map (·.1)).Nodup) (x:Nat × Nat):((out ++ [x]).map (·.1)).Nodup↔x.1 ∉ out.map (·.1):=by
 rw [List.map_append,List.nodup_append]
 constructor
 ·rintro ⟨_,_,h2⟩ hm
  exact h2 _ hm _ (List.mem_singleton.2 Z) Z
 ·intro hn
  exact ⟨h,by simp,fun a ha b hb e=>hn (by simp at hb;rw [← hb, ← e]; exact ha)⟩
theorem oW {l:List (Nat × Nat)} {x:Nat × Nat} {φ:VT} {ψ:Nat→VT} (h:φ=gr x):VT.le (slT (.agg 2) (0+l.length+1) (fun q=>if q<0+l.length then if q<0 then ψ q else gr (l.getD (q - 0) (0,0)) else φ)) (eu (l ++ [x])):=by
 subst h
 refine ci (by simp) (fun q hq => ?_)
 by_cases h:q<0+l.length
 ·rw [if_pos h,if_neg (Nat.not_lt_zero _)]
  simp [List.getD,List.getElem?_append,show q<l.length by omega]
 ·rw [if_neg h]
  have:q=l.length:=by omega
  subst this
  simp [List.getD]
end Tor
end
section
namespace Tor.Lin
def chN:Nat→Nat→Nat
 | _, 0 => 1
 | 0, _ + 1 => 0
 | n + 1, k + 1 => chN n k + chN n (k + 1)
theorem li (n:Nat):chN n 0=1:=by cases n <;> rfl
theorem jI : ∀ {n k:Nat},n<k→chN n k=0
 | 0, _ + 1, _ => rfl
 | n + 1, k + 1, h => by rw [chN, jI (n := n) (k := k) X, jI (n := n) (k := k + 1) X]
theorem rI : ∀ n,chN n n=1
 | 0 => rfl
 | n + 1 => by rw [chN, rI n, jI (Nat.lt_succ_self n)]
theorem iG : ∀ n k,(k+1)*chN (n+1) (k+1)=(n+1)*chN n k
 | 0, 0 => rfl
 | 0, k + 1 => by rw [jI (n := 0 + 1) (k := k + 1 + 1) X, jI (n := 0) (k := k + 1) X]; simp
 | n + 1, 0 => by
  have:=iG n 0
  rw [li] at this ⊢
  rw [chN,li]
  omega
 | n + 1, k + 1 => by
  have h1:=iG n k
  have h2:=iG n (k+1)
  rw [show chN (n+2) (k+2)=chN (n+1) (k+1)+chN (n+1) (k+2) from rfl,Nat.mul_add,h2]
  rw [show (k+1+1)*chN (n+1) (k+1)=(k+1)*chN (n+1) (k+1)+chN (n+1) (k+1) from Nat.succ_mul _ _,h1]
  rw [show (n+1+1)*chN (n+1) (k+1)=(n+1)*chN (n+1) (k+1)+chN (n+1) (k+1) from Nat.succ_mul _ _]
  rw [show chN (n+1) (k+1)=chN n k+chN n (k+1) from rfl,Nat.mul_add]
  omega
def iH (n x:Nat):Nat→Nat
 | 0 => 0
 | m + 1 => iH n x m + chN n m * x ^ m
theorem oX (n x:Nat) : ∀ m,iH (n+1) x (m+1)=x*iH n x m+iH n x (m+1)
 | 0 => by simp [iH, li]
 | m + 1 => by
  have:=oX n x m
  rw [iH,this]
  rw [show iH n x (m+1+1)=iH n x (m+1)+chN n (m+1)*x^(m+1) from rfl,show chN (n+1) (m+1)=chN n m+chN n (m+1) from rfl]
  rw [show x*iH n x (m+1)=x*iH n x m+x*(chN n m*x^m) from Nat.mul_add _ _ _,Nat.add_mul]
  rw [show x*(chN n m*x^m)=chN n m*x^(m+1) by rw [Nat.pow_succ,Nat.mul_left_comm,Nat.mul_comm x]]
  omega
theorem xI (n x:Nat):iH n x (n+2)=iH n x (n+1):=by
 rw [iH,jI X]; simp
theorem rJ (x:Nat) : ∀ n,iH n x (n+1)=(x+1)^n
 | 0 => by simp [iH, chN]
 | n + 1 => by
  rw [oX,xI,rJ x n,Nat.pow_succ,Nat.mul_comm ((x+1)^n),Nat.add_mul,Nat.one_mul]
def Pr (p:Nat):Prop:=2≤p ∧ ∀ d,d∣p→d=1∨d=p
theorem Pr.coprime {p a:Nat} (hp:Pr p) (h : ¬ p∣a):Nat.Coprime p a:=by
 rcases hp.2 _ (Nat.gcd_dvd_left p a) with h1 | h1
 ·exact h1
 ·exact absurd (h1▸Nat.gcd_dvd_right p a) h
theorem Pr.mul {p a b:Nat} (hp:Pr p) (h:p∣a*b):p∣a∨p∣b:=by
 by_cases ha:p∣a
 ·exact .inl ha
 ·exact .inr ((hp.coprime ha).dvd_of_dvd_mul_left h)
theorem Pr.of_trial {p:Nat} (h2:2≤p) (ht:lf p):Pr p:=by
 refine ⟨h2,fun d hd => ?_⟩
 obtain ⟨e,he⟩:=hd
 have hd0:0<d:=Nat.pos_of_ne_zero fun h=>by rw [h,Nat.zero_mul] at he;omega
 have he0:0<e:=Nat.pos_of_ne_zero fun h=>by rw [h,Nat.mul_zero] at he;omega
 by_cases h1:d=1
 ·exact .inl h1
 by_cases h3:e=1
 ·exact .inr (by rw [he,h3,Nat.mul_one])
 exfalso
 rcases Nat.le_total d e with hle | hle
 ·exact ht d X (by rw [he]; exact Nat.mul_le_mul_left d hle) (by rw [he]; exact Nat.mul_mod_right d e)
 ·exact ht e X (by rw [he]; exact Nat.mul_le_mul_right e hle) (by rw [he]; exact Nat.mul_mod_left d e)
theorem Pr.choose {p k:Nat} (hp:Pr p) (h0:0<k) (hk:k<p):p∣chN p k:=by
 obtain ⟨q,rfl⟩ : ∃ q,p=q+1:=⟨p - 1,by have:=hp.1;omega⟩
 obtain ⟨j,rfl⟩ : ∃ j,k=j+1:=⟨k - 1,by omega⟩
 have h:=iG q j
 rcases hp.mul (a:=j+1) (b:=chN (q+1) (j+1)) (h▸Nat.dvd_mul_right _ _) with h1 | h1
 ·exact absurd (Nat.le_of_dvd X h1) X
 ·exact h1
theorem Pr.bin {p:Nat} (hp:Pr p) (x:Nat) : ∀ m,m<p → ∃ t,iH p x (m+1)=1+p*t
 | 0, _ => ⟨0, by simp [iH, li]⟩
 | m + 1, h => by
  obtain ⟨t,ht⟩:=Pr.bin hp x m X
  obtain ⟨c,hc⟩:=hp.choose (k:=m+1) X h
  exact ⟨t+c*x^(m+1),by rw [iH,ht,hc,Nat.mul_add,Nat.mul_assoc]; omega⟩
theorem Pr.frob {p:Nat} (hp:Pr p) (x:Nat) : ∃ t,(x+1)^p=x^p+1+p*t:=by
 obtain ⟨t,ht⟩:=hp.bin x (p - 1) (by have:=hp.1;omega)
 refine ⟨t,?_⟩
 rw [show p - 1+1=p by have:=hp.1;omega] at ht
 rw [← rJ,iH,ht,rI]; omega
theorem Pr.fermat {p:Nat} (hp:Pr p) : ∀ x,x^p % p=x % p
 | 0 => by rw [Nat.zero_pow (by have := hp.1; omega)]
 | x + 1 => by
  obtain ⟨t,ht⟩:=hp.frob x
  rw [ht,Nat.add_mul_mod_self_left,Nat.add_mod,Pr.fermat hp x, ← Nat.add_mod]
theorem Pr.inverse {p a:Nat} (hp:Pr p) (h : ¬ p∣a):a*a^(p - 2) % p=1:=by
 have h2:=hp.1
 have hf:=hp.fermat a
 have e:a^p=a*(a*a^(p - 2)):=by
  rw [← Nat.mul_assoc, ← Nat.pow_two, ← Nat.pow_add]; congr 1;omega
 rw [e] at hf
 have hd:(p:Int)∣(a:Int)*((a*a^(p - 2):Nat) - 1:Int):=by
  rw [Int.mul_sub,Int.mul_one, ← Int.natCast_mul]
  exact Int.dvd_of_emod_eq_zero (Int.emod_eq_emod_iff_emod_sub_eq_zero.1 (by exact_mod_cast hf))
 have hx:1≤a*a^(p - 2):=by
  have ha:0<a:=Nat.pos_of_ne_zero fun e=>h (e▸Nat.dvd_zero p)
  exact Nat.mul_pos ha (Nat.pow_pos ha)
 have hd:p∣a*(a*a^(p - 2) - 1):=by
  rw [show ((a*a^(p - 2):Nat) - 1:Int)=((a*a^(p - 2) - 1:Nat):Int) by omega, ← Int.natCast_mul] at hd
  exact Int.natCast_dvd_natCast.1 hd
 obtain ⟨t,ht⟩:=(hp.coprime h).dvd_of_dvd_mul_left hd
 rw [show a*a^(p - 2)=1+p*t by omega,Nat.add_mul_mod_self_left]
 exact Nat.mod_eq_of_lt X
end Tor.Lin
end
section
namespace Tor
variable [Tor.Co.Kc]
/-! ### Trial division by one gcd -/
def nH:Nat→Nat→Nat
 | 0, d => d
 | k + 1, d => nH k d * nH k (d + 2 ^ k)
theorem lV : ∀ {k d e:Nat},d≤e→e<d+2^k→e∣nH k d
 | 0, d, e, h1, h2 => by
  have:e=d:=by simp at h2;omega
  subst this;exact Nat.dvd_refl _
 | k + 1, d, e, h1, h2 => by
  rw [Nat.pow_succ] at h2
  rcases Nat.lt_or_ge e (d+2^k) with hl | hl
  ·exact Nat.dvd_trans (lV h1 hl) (Nat.dvd_mul_right _ _)
  ·exact Nat.dvd_trans (lV hl X) (Nat.dvd_mul_left _ _)
theorem lW {n:Nat} : ∀ {k d:Nat},(∀ e,d≤e→e<d+2^k→Nat.Coprime n e)→Nat.Coprime n (nH k d)
 | 0, d, h => h d (Nat.le_refl _) (by simp)
 | k + 1, d, h => by
  refine Nat.Coprime.mul_right (lW fun e h1 h2=>h e h1 ?_) (lW fun e h1 h2=>h e ?_ ?_)
  ·rw [Nat.pow_succ]; omega
  ·have:=Nat.two_pow_pos k;omega
  ·rw [Nat.pow_succ]; omega
theorem vJ {n d:Nat} (hT:lf n) (h1:1≤d) (h2:d<n):Nat.Coprime n d:=by
 have hg:=Nat.gcd_dvd_left n d
 have hd:=Nat.gcd_dvd_right n d
 have hp:0<Nat.gcd n d:=Nat.gcd_pos_of_pos_right _ X
 have hle:Nat.gcd n d≤d:=Nat.le_of_dvd X hd
 show Nat.gcd n d=1
 generalize Nat.gcd n d=g at *
 rcases Nat.lt_or_ge g 2 with h | h
 ·omega
 ·exfalso
  obtain ⟨m,hm⟩:=hg
  by_cases hs:g*g≤n
  ·exact hT g h hs (by rw [hm]; exact Nat.mul_mod_right _ _)
  ·have hmg:m<g:=by
    rcases Nat.lt_or_ge m g with h' | h'
    ·exact h'
    ·have:=Nat.mul_le_mul_left g h';omega
   have hm2:2≤m:=by
    rcases Nat.lt_or_ge m 2 with h' | h'
    ·have:m=0∨m=1:=by omega
     rcases this with rfl | rfl
     ·simp at hm;omega
     ·simp at hm;omega
    ·exact h'
   refine hT m hm2 ?_ (by rw [hm,Nat.mul_comm]; exact Nat.mul_mod_right _ _)
   rw [hm]; exact Nat.mul_le_mul (Nat.le_of_lt hmg) (Nat.le_refl _)
theorem vK {n k:Nat} (h1:2+2^k≤n) (h2:n<(2+2^k)*(2+2^k)):Nat.gcd n (nH k 2)=1↔lf n:=by
 constructor
 ·intro h d hd hs hz
  have hlt:d<2+2^k:=by
   rcases Nat.lt_or_ge d (2+2^k) with h' | h'
   ·exact h'
   ·have:=Nat.mul_le_mul h' h';omega
  have:=Nat.dvd_gcd (Nat.dvd_of_mod_eq_zero hz) (lV hd hlt)
  rw [h] at this
  have:=Nat.le_of_dvd U this
  omega
 ·intro hT
  exact lW fun e h3 h4=>vJ hT X X
/-! ### The prime test, for evaluation -/
noncomputable def vL (p:Nat) (f:Nat):Nat→Nat→Nat→Nat := @Nat.rec (fun _=>Nat→Nat→Nat→Nat) (fun r _ _=>r)
 (fun _ ih r a e => @Nat.rec (fun _=>Nat) r (fun e' _ => @Bool.rec (fun _=>Nat) (ih r (Nat.mod (Nat.mul a a) p) (Nat.div (Nat.succ e') 2)) (ih (Nat.mod (Nat.mul r a) p) (Nat.mod (Nat.mul a a) p) (Nat.div (Nat.succ e') 2)) (Nat.beq (Nat.mod (Nat.succ e') 2) 1)) e) f
theorem uF (p:Nat) : ∀ (f r a e:Nat),vL p f r a e=lR f p r a e
 | 0, _, _, _ => rfl
 | f + 1, r, a, 0 => rfl
 | f + 1, r, a, e + 1 => by
  rw [lR,if_neg X, ← uF p f]
  show @Bool.rec (fun _=>Nat) (vL p f r (a*a % p) ((e+1) / 2)) (vL p f (r*a % p) (a*a % p) ((e+1) / 2)) (Nat.beq ((e+1) % 2) 1)=_
  by_cases h:(e+1) % 2=1
  ·rw [if_pos h,h]; rfl
  ·have h0:(e+1) % 2=0:=by omega
   rw [if_neg h,h0]; rfl
noncomputable def Bi (n:Nat) (c:Nat):Nat→Bool := @Nat.rec (fun _=>Nat→Bool) (fun _=>false)
 (fun _ ih x => @Bool.rec (fun _=>Bool) (ih (Nat.mod (Nat.mul x x) n)) true (Nat.beq (Nat.mod (Nat.mul x x) n) (Nat.sub n 1))) c
theorem lj (a b:Nat):Nat.beq a b=decide (a=b):=by
 by_cases h:a=b
 ·rw [decide_eq_true h]; exact Nat.beq_eq.mpr h
 ·rw [decide_eq_false h, ← Bool.not_eq_true]; exact fun e=>h (Nat.eq_of_beq_eq_true e)
theorem uG (n:Nat) : ∀ (c x:Nat),Bi n c x=sqrF n c x
 | 0, _ => rfl
 | c + 1, x => by
  rw [sqrF, ← uG n c]
  show @Bool.rec (fun _=>Bool) (Bi n c (x*x % n)) true (Nat.beq (x*x % n) (n - 1))=_
  rw [lj]
  by_cases h:x*x % n=n - 1
  ·rw [if_pos h,decide_eq_true h]
  ·rw [if_neg h,decide_eq_false h]
noncomputable def jJ (n O T b:Nat):Bool := @Bool.rec (fun _=>Bool) (@Bool.rec (fun _=>Bool) (Bi n (Nat.sub T 1) (vL n 64 (Nat.mod 1 n) b O)) true (Nat.beq (vL n 64 (Nat.mod 1 n) b O) (Nat.sub n 1))) true (Nat.beq (vL n 64 (Nat.mod 1 n) b O) 1)
theorem tf (n O T b:Nat):jJ n O T b=dC n O T b:=by
 unfold jJ dC
 rw [uF,uG,lj,lj]
 show @Bool.rec (fun _=>Bool) (@Bool.rec (fun _=>Bool) (sqrF n (T - 1) (lR 64 n (1 % n) b O)) true (decide (lR 64 n (1 % n) b O=n - 1))) true (decide (lR 64 n (1 % n) b O=1))=_
 cases decide (lR 64 n (1 % n) b O=1) <;> cases decide (lR 64 n (1 % n) b O=n - 1) <;> rfl
noncomputable def Bj (n O T:Nat):Bool := @Bool.rec (fun _=>Bool) false (@Bool.rec (fun _=>Bool) false (@Bool.rec (fun _=>Bool) false (jJ n O T 7) (jJ n O T 5)) (jJ n O T 3)) (jJ n O T 2)
theorem zH {n O T:Nat} (h7:7<n):Bj n O T=oO n O T 4 0:=by
 have hb : ∀ j,n≠dO j:=fun j h=>by have:=(nC j).1;omega
 unfold Bj
 simp only [oO,if_neg (hb _),tf]
 show @Bool.rec (fun _=>Bool) false (@Bool.rec (fun _=>Bool) false (@Bool.rec (fun _=>Bool) false (dC n O T 7) (dC n O T 5)) (dC n O T 3)) (dC n O T 2)=(dC n O T 2 && (dC n O T 3 && (dC n O T 5 && (dC n O T 7 && true))))
 cases dC n O T 2 <;> cases dC n O T 3 <;> cases dC n O T 5 <;> cases dC n O T 7 <;> rfl
noncomputable def tg (k:Nat→Nat→Bool) (f:Nat):Nat→Nat→Bool := @Nat.rec (fun _=>Nat→Nat→Bool) (fun o t=>k o t)
 (fun _ ih o t => @Bool.rec (fun _=>Bool) (k o t) (ih (Nat.div o 2) (Nat.succ t)) (Nat.beq (Nat.mod o 2) 0)) f
theorem oY (k:Nat→Nat→Bool) : ∀ (f o t:Nat),tg k f o t=k (dm f o t).1 (dm f o t).2
 | 0, _, _ => rfl
 | f + 1, o, t => by
  rw [dm]
  show @Bool.rec (fun _=>Bool) (k o t) (tg k f (o / 2) (t+1)) (Nat.beq (o % 2) 0)=_
  rw [lj]
  by_cases h:o % 2=0
  ·rw [if_pos h,decide_eq_true h]; exact oY k f _ _
  ·rw [if_neg h,decide_eq_false h]
noncomputable def kj (n:Nat):Bool:=tg (Bj n) 32 (Nat.sub n 1) 0
theorem vM {n:Nat} (h7:7<n) (h31:n<2147483648) (ho:n % 2=1):kj n=bg n:=by
 rw [nE h7]
 unfold kj nD
 rw [if_neg X,if_neg X,oY]
 exact zH h7
/-! ### Runs of numbers -/
noncomputable def lX (f:Nat→Bool) (k:Nat):Nat→Bool := @Nat.rec (fun _=>Nat→Bool) f (fun k ih d => @Bool.rec (fun _=>Bool) false (ih (Nat.add d (Nat.pow 2 k))) (ih d)) k
theorem fy {f:Nat→Bool} : ∀ {k d:Nat},lX f k d=true → ∀ e,d≤e→e<d+2^k→f e=true
 | 0, d, h, e, h1, h2 => by
  have:e=d:=by simp at h2;omega
  subst this;exact h
 | k + 1, d, h, e, h1, h2 => by
  have h : @Bool.rec (fun _=>Bool) false (lX f k (d+2^k)) (lX f k d)=true:=h
  rw [Nat.pow_succ] at h2
  cases ha:lX f k d with
  | false => rw [ha] at h; cases h
  | true =>
   rw [ha] at h
   rcases Nat.lt_or_ge e (d+2^k) with hl | hl
   ·exact fy ha e h1 hl
   ·exact fy h e hl X
noncomputable def ms (k n:Nat):Bool := @Bool.rec (fun _=>Bool) true (@Bool.rec (fun _=>Bool) (@Bool.rec (fun _=>Bool) true false (kj n)) (kj n) (Nat.beq (Nat.gcd n (nH k 2)) 1)) (Nat.beq (Nat.mod n 2) 1)
theorem uH {n k:Nat} (h1:2+2^k≤n) (h2:n<(2+2^k)*(2+2^k)) (h7:7<n) (h31:n<2147483648) (h:ms k n=true):bg n=lU n:=by
 have hT:=vK h1 h2
 by_cases ho:n % 2=1
 ·rw [← vM h7 h31 ho]
  unfold ms at h
  rw [show Nat.beq (Nat.mod n 2) 1=true from Nat.beq_eq.mpr ho,lj] at h
  by_cases hg:Nat.gcd n (nH k 2)=1
  ·rw [decide_eq_true hg] at h
   have h:kj n=true:=h
   rw [h,iF.2 ⟨by omega,h31,hT.1 hg⟩]
  ·rw [decide_eq_false hg] at h
   have hf:kj n=false:=by
    cases hq:kj n with
    | false => rfl
    | true => rw [hq] at h; cases h
   rw [hf]
   exact (Bool.eq_false_iff.2 fun e=>hg (hT.2 (iF.1 e).2.2)).symm
 ·have hp:bg n=false:=by
   unfold bg
   rw [if_neg X,if_pos X,decide_eq_false X]
  rw [hp]
  exact (Bool.eq_false_iff.2 fun e=>(iF.1 e).2.2 2 (Nat.le_refl _) X X).symm
theorem Cb:lX (ms 8) 8 258=true:=by decide +kernel
theorem Cc:lX (ms 8) 9 512=true:=by decide +kernel
theorem Bk:lX (ms 8) 10 1024=true:=by decide +kernel
theorem Bl:lX (ms 8) 11 2048=true:=by decide +kernel
theorem Bm:lX (ms 8) 12 4096=true:=by decide +kernel
theorem Bn:lX (ms 8) 13 8192=true:=by decide +kernel
theorem Bo:lX (ms 8) 14 16384=true:=by decide +kernel
theorem Bp:lX (ms 8) 15 32768=true:=by decide +kernel
theorem zI:lX (ms 16) 12 2147479552=true:=by decide +kernel
theorem zJ:((List.range 258).all fun n=>bg n == (Nat.ble 2 n && gN n 4 2))=true:=by decide +kernel
theorem vN {n:Nat} (h:n<258):bg n=lU n:=by
 have hl:=List.all_eq_true.1 zJ n (List.mem_range.2 h)
 rw [beq_iff_eq] at hl
 rw [hl,Bool.eq_iff_iff,iF,Bool.and_eq_true,Nat.ble_eq]
 constructor
 ·rintro ⟨h1,h2⟩;exact ⟨h1,by omega,lg h2 (by show n<18*18;omega)⟩
 ·rintro ⟨h1,_,h3⟩
  refine ⟨h1,?_⟩
  cases ht:gN n 4 2 with
  | true => rfl
  | false =>
   exfalso
   have key : ∀ k d,2≤d→gN n k d=false → ∃ e,2≤e∧e*e≤n∧n % e=0:=by
    intro k
    induction k with
    | zero =>
     intro d hd hf
     simp only [gN,Bool.or_eq_false_iff,Bool.not_eq_false'] at hf
     refine ⟨d,hd,?_,Nat.eq_of_beq_eq_true hf.2⟩
     rcases Nat.lt_or_ge n (d*d) with h' | h'
     ·have:=Nat.ble_eq_true_of_le (show n+1≤d*d from h');rw [hf.1] at this;cases this
     ·exact h'
    | succ k ih =>
     intro d hd hf
     rw [gN,Bool.and_eq_false_iff] at hf
     rcases hf with hf | hf
     ·exact ih d hd hf
     ·exact ih _ (Nat.le_trans hd (Nat.le_add_right _ _)) hf
   obtain ⟨e,h4,h5,h6⟩:=key 4 2 (Nat.le_refl _) ht
   exact h3 e h4 h5 h6
theorem rK {n:Nat} (h:n<65536):bg n=lU n:=by
 by_cases h0:n<258
 ·exact vN h0
 ·have hu:ms 8 n=true→bg n=lU n:=uH (by show 258≤n;omega) (by show n<258*258;omega) X X
  refine hu ?_
  by_cases h1:n<512
  ·exact fy Cb n X (by show n<258+256;omega)
  by_cases h2:n<1024
  ·exact fy Cc n X (by show n<512+512;omega)
  by_cases h3:n<2048
  ·exact fy Bk n X (by show n<1024+1024;omega)
  by_cases h4:n<4096
  ·exact fy Bl n X (by show n<2048+2048;omega)
  by_cases h5:n<8192
  ·exact fy Bm n X (by show n<4096+4096;omega)
  by_cases h6:n<16384
  ·exact fy Bn n X (by show n<8192+8192;omega)
  by_cases h7:n<32768
  ·exact fy Bo n X (by show n<16384+16384;omega)
  ·exact fy Bp n X (by show n<32768+32768;omega)
theorem oZ {n:Nat} (h:2147479552≤n) (h':n<2147483648):bg n=lU n :=
 uH (k:=16) (by show 65538≤n;omega) (by show n<65538*65538;omega) X h' (fy zI n h (by show n<2147479552+4096;omega))
end Tor
end
section
namespace Tor.Lin
def sm:Nat→(Nat→Rat)→Rat
 | 0, _ => 0
 | n + 1, f => sm n f + f n
theorem cA {n:Nat} {f g:Nat→Rat} (h : ∀ i,i<n→f i=g i):sm n f=sm n g:=by
 induction n with
 | zero => rfl
 | succ n ih => rw [sm, sm, ih (fun i hi => h i X), h n X]
theorem pY (a b:Rat) (n:Nat) (f g:Nat→Rat):sm n (fun i=>a*f i+b*g i)=a*sm n f+b*sm n g:=by
 induction n with
 | zero => simp only [sm]; grind
 | succ n ih => rw [sm, sm, sm, ih]; grind
theorem pZ (n:Nat):sm n (fun _=>(0:Rat))=0:=by
 induction n with
 | zero => rfl
 | succ n ih => rw [sm, ih]; grind
theorem jl {n p:Nat} {f:Nat→Rat} (hp:p<n) (h : ∀ i,i<n→i≠p→f i=0):sm n f=f p:=by
 induction n with
 | zero => omega
 | succ n ih =>
  rw [sm]
  by_cases c:p=n
  ·subst c
   rw [cA (g:=fun _=>0) (fun i hi=>h i X X),pZ]; grind
  ·rw [ih X (fun i hi=>h i X),h n X X]; grind
theorem Bq {n p q:Nat} {f:Nat→Rat} (hp:p<q) (hq:q<n) (h : ∀ i,i<n→i≠p→i≠q→f i=0):sm n f=f p+f q:=by
 induction n with
 | zero => omega
 | succ n ih =>
  rw [sm]
  by_cases c:q=n
  ·subst c
   rw [jl hp (fun i hi hn=>h i X hn X)]
  ·rw [ih X (fun i hi=>h i X),h n X X X]; grind
def skip (j k:Nat):Nat:=if k<j then k else k+1
def sgn (j:Nat):Rat:=if j % 2=0 then 1 else -1
theorem xJ (j:Nat):sgn  (j+1) = -sgn j:=by
 unfold sgn
 by_cases h:j % 2=0
 ·rw [if_pos h,if_neg X]
 ·rw [if_neg h,if_pos X]; grind
def det:Nat→(Nat→Nat→Rat)→Rat
 | 0, _ => 1
 | n + 1, F => sm (n + 1) (fun j => sgn j * F 0 j * det n (fun i k => F (i + 1) (skip j k)))
theorem cD : ∀ {n:Nat} {F G:Nat→Nat→Rat},(∀ i j,i<n→j<n→F i j=G i j)→det n F=det n G
 | 0, _, _, _ => rfl
 | n + 1, F, G, h => by
  rw [det,det]
  refine cA (fun j hj => ?_)
  rw [h 0 j X hj,cD (G:=fun i k=>G (i+1) (skip j k)) (fun i k hi hk=>h _ _ X (by unfold skip;split <;> omega))]
theorem uI {j p:Nat} (h:j≠p):skip j (if p<j then p else p - 1)=p:=by
 unfold skip
 by_cases c:p<j
 ·rw [if_pos c,if_pos c]
 ·rw [if_neg c,if_neg X]; omega
theorem xK {j p:Nat} (h:j≠p) (h':j≠p+1):skip j ((if p<j then p else p - 1)+1)=p+1:=by
 unfold skip
 by_cases c:p<j
 ·rw [if_pos c,if_pos X]
 ·rw [if_neg c,if_neg X]; omega
theorem mK (a b:Rat) : ∀ {n p:Nat} {F G H:Nat→Nat→Rat},p<n→(∀ i,i<n→F i p=a*G i p+b*H i p)→(∀ i j,i<n→j<n→j≠p→G i j=F i j)→(∀ i j,i<n→j<n→j≠p→H i j=F i j) →
  det n F=a*det n G+b*det n H
 | 0, _, _, _, _, h, _, _, _ => absurd h (Nat.not_lt_zero _)
 | n + 1, p, F, G, H, hp, hF, hG, hH => by
  rw [det,det,det, ← pY]
  refine cA (fun j hj => ?_)
  by_cases c:j=p
  ·subst c
   rw [cD (F:=fun i k=>G (i+1) (skip j k)) (G:=fun i k=>F (i+1) (skip j k)) (fun i k hi hk=>hG _ _ X (by unfold skip;split <;> omega) (by unfold skip;split <;> omega)),
    cD (F:=fun i k=>H (i+1) (skip j k)) (G:=fun i k=>F (i+1) (skip j k)) (fun i k hi hk=>hH _ _ X (by unfold skip;split <;> omega) (by unfold skip;split <;> omega)),hF 0 X]
   grind
  ·have e:=uI c
   rw [mK a b (p:=if p<j then p else p - 1) (F:=fun i k=>F (i+1) (skip j k)) (G:=fun i k=>G (i+1) (skip j k)) (H:=fun i k=>H (i+1) (skip j k)) (by split <;> omega)
    (fun i hi=>by rw [e]; exact hF _ X)
    (fun i k hi hk hne=>hG _ _ X (by unfold skip;split <;> omega) (by revert hne;unfold skip;split <;> split <;> omega))
    (fun i k hi hk hne=>hH _ _ X (by unfold skip;split <;> omega) (by revert hne;unfold skip;split <;> split <;> omega)),
    hG 0 j X hj c,hH 0 j X hj c]
   grind
theorem p6 : ∀ {n p:Nat} {F:Nat→Nat→Rat},p+1<n→(∀ i,i<n→F i p=F i (p+1))→det n F=0
 | 0, _, _, h, _ => absurd h (Nat.not_lt_zero _)
 | n + 1, p, F, hp, h => by
  rw [det,Bq (p:=p) (q:=p+1) X hp (fun j hj h1 h2 => ?_)]
  ·rw [cD (F:=fun i k=>F (i+1) (skip (p+1) k)) (G:=fun i k=>F (i+1) (skip p k)) (fun i k hi hk=>by
    by_cases c:k=p
    ·subst c
     have e1:skip (k+1) k=k:=by unfold skip;rw [if_pos X]
     have e2:skip k k=k+1:=by unfold skip;rw [if_neg X]
     rw [e1,e2]; exact h _ X
    ·have e:skip (p+1) k=skip p k:=by unfold skip;split <;> split <;> omega
     rw [e]), ← h 0 X,xJ]
   grind
  ·rw [p6 (p:=if p<j then p else p - 1) (F:=fun i k=>F (i+1) (skip j k)) (by split <;> omega) (fun i hi=>by
    have e1:=uI h1
    have e2:=xK h1 h2
    rw [e1,e2]; exact h _ X)]
   grind
def idm (i j:Nat):Rat:=if i=j then 1 else 0
theorem p7 : ∀ n:Nat,det n (idm)=1
 | 0 => rfl
 | n + 1 => by
  rw [det,jl (p:=0) X (fun i hi h=>by
   have:idm  0 i=0:=by unfold idm;rw [if_neg X]
   rw [this]; grind)]
  have e:det n (fun i k=>idm  (i+1) (skip 0 k))=1:=by
   rw [← p7 n]
   refine cD (fun i j _ _ => ?_)
   unfold idm skip
   rw [if_neg (Nat.not_lt_zero j)]
   by_cases c:i=j
   ·rw [if_pos c,if_pos X]
   ·rw [if_neg c,if_neg X]
  rw [e]
  unfold sgn idm
  rw [if_pos Z,if_pos Z]; grind
structure Alt (n:Nat) (f:(Nat→Nat→Rat)→Rat):Prop where
 congr : ∀ F G,(∀ i j,i<n→j<n→F i j=G i j)→f F=f G
 lin : ∀ (a b:Rat) p F G H,p<n→(∀ i,i<n→F i p=a*G i p+b*H i p)→(∀ i j,i<n→j<n→j≠p→G i j=F i j)→(∀ i j,i<n→j<n→j≠p→H i j=F i j)→f F=a*f G+b*f H
 adj : ∀ p F,p+1<n→(∀ i,i<n→F i p=F i (p+1))→f F=0
theorem iI (n:Nat):Alt n (det  n) :=
 ⟨fun _ _ h=>cD h,fun a b _ _ _ _ hp h1 h2 h3=>mK a b hp h1 h2 h3,fun _ _ hp h=>p6 hp h⟩
def two (F:Nat→Nat→Rat) (p:Nat) (u v:Nat→Rat):Nat→Nat→Rat:=fun i j=>if j=p then u i else if j=p+1 then v i else F i j
def swp (F:Nat→Nat→Rat) (p:Nat):Nat→Nat→Rat:=two F p (fun i=>F i (p+1)) (fun i=>F i p)
theorem Alt.swap {n:Nat} {f:(Nat→Nat→Rat)→Rat} (h:Alt n f) {p:Nat} (hp:p+1<n) (F:Nat→Nat→Rat):f (swp F p) = - f F:=by
 have l1 : ∀ u u' v:Nat→Rat,f (two F p (fun i=>u i+u' i) v)=f (two F p u v)+f (two F p u' v):=fun u u' v=>by
  rw [h.lin 1 1 p (two F p (fun i=>u i+u' i) v) (two F p u v) (two F p u' v) X (fun i _=>by simp only [two,if_pos]; grind)
   (fun i j _ _ hj=>by simp only [two,if_neg hj]) (fun i j _ _ hj=>by simp only [two,if_neg hj])]
  grind
 have l2 : ∀ u v v':Nat→Rat,f (two F p u (fun i=>v i+v' i))=f (two F p u v)+f (two F p u v'):=fun u v v'=>by
  have hne:p+1≠p:=by omega
  rw [h.lin 1 1 (p+1) (two F p u (fun i=>v i+v' i)) (two F p u v) (two F p u v') X (fun i _=>by simp only [two,if_neg hne,if_pos]; grind)
   (fun i j _ _ hj=>by simp only [two,if_neg hj]) (fun i j _ _ hj=>by simp only [two,if_neg hj])]
  grind
 have z : ∀ u:Nat→Rat,f (two F p u u)=0:=fun u=>h.adj p _ hp (fun i _=>by
  have hne:p+1≠p:=by omega
  simp only [two,if_neg hne,if_pos])
 have e:f F=f (two F p (fun i=>F i p) (fun i=>F i (p+1))):=h.congr _ _ (fun i j _ _=>by
  unfold two
  by_cases c:j=p
  ·rw [if_pos c,c]
  ·rw [if_neg c]
   by_cases c':j=p+1
   ·rw [if_pos c',c']
   ·rw [if_neg c'])
 have k:=z (fun i=>F i p+F i (p+1))
 rw [l1,l2,l2,z,z, ← e] at k
 unfold swp
 grind
theorem Alt.eqcol {n:Nat} {f:(Nat→Nat→Rat)→Rat} (h:Alt n f) : ∀ (q p:Nat) (F:Nat→Nat→Rat),p<q→q<n→(∀ i,i<n→F i p=F i q)→f F=0
 | 0, _, _, hp, _, _ => absurd hp (Nat.not_lt_zero _)
 | q + 1, p, F, hp, hq, he => by
  by_cases c:p=q
  ·subst c;exact h.adj p F hq he
  ·have k:=h.swap (p:=q) hq F
   rw [h.eqcol q p (swp F q) X X (fun i hi=>by
    unfold swp two
    rw [if_neg (show p≠q by omega),if_neg (show p≠q+1 by omega),if_pos Z]
    exact he i hi)] at k
   grind
def d6 (F:Nat→Nat→Rat) (p:Nat) (v:Nat→Rat):Nat→Nat→Rat:=fun i j=>if j=p then v i else F i j
theorem Alt.sum {n:Nat} {f:(Nat→Nat→Rat)→Rat} (h:Alt n f) {p:Nat} (hp:p<n) (F:Nat→Nat→Rat) (c:Nat→Rat) (v:Nat→Nat→Rat) :
  ∀ M:Nat,f (d6 F p (fun i=>sm M (fun m=>c m*v m i)))=sm M (fun m=>c m*f (d6 F p (v m)))
 | 0 => by
  rw [h.lin 0 0 p _ F F hp (fun i _=>by simp only [d6,if_pos,sm]; grind) (fun i j _ _ hj=>by simp only [d6,if_neg hj]) (fun i j _ _ hj=>by simp only [d6,if_neg hj])]
  simp only [sm]; grind
 | M + 1 => by
  rw [sm, ← h.sum hp F c v M,h.lin 1 (c M) p _ (d6 F p (fun i=>sm M (fun m=>c m*v m i))) (d6 F p (v M)) hp (fun i _=>by simp only [d6,if_pos,sm]; grind)
   (fun i j _ _ hj=>by simp only [d6,if_neg hj]) (fun i j _ _ hj=>by simp only [d6,if_neg hj])]
  grind
def em (σ:Nat→Nat) (i j:Nat):Rat:=if i=σ j then 1 else 0
def lk (n:Nat) (σ:Nat→Nat):Nat→Nat
 | 0 => 0
 | k + 1 => lk n σ k + (n - k) * σ k
theorem nI {n:Nat} {σ τ:Nat→Nat} : ∀ k,(∀ j,j<k→σ j=τ j)→lk n σ k=lk n τ k
 | 0, _ => rfl
 | k + 1, h => by rw [lk, lk, nI k (fun j hj => h j X), h k X]
def sw (σ:Nat→Nat) (p:Nat):Nat→Nat:=fun j=>if j=p then σ (p+1) else if j=p+1 then σ p else σ j
theorem uJ {n:Nat} {σ:Nat→Nat} {p:Nat} (hp:p+1<n) (hl:σ (p+1)<σ p) : ∀ k,p+1<k→k≤n→lk n (sw σ p) k<lk n σ k
 | 0, h, _ => absurd h (Nat.not_lt_zero _)
 | k + 1, h, hk => by
  by_cases c:k=p+1
  ·subst c
   rw [lk,lk,lk,lk,nI (σ:=sw σ p) (τ:=σ) p (fun j hj=>by unfold sw;rw [if_neg X,if_neg X])]
   have e1:sw σ p p=σ (p+1):=by unfold sw;rw [if_pos Z]
   have e2:sw σ p (p+1)=σ p:=by unfold sw;rw [if_neg X,if_pos Z]
   rw [e1,e2]
   have e:n - p=(n - (p+1))+1:=by omega
   rw [e,Nat.succ_mul,Nat.succ_mul]
   omega
  ·have ih:=uJ hp hl k X X
   rw [lk,lk]
   have e:sw σ p k=σ k:=by unfold sw;rw [if_neg X,if_neg X]
   rw [e]; omega
theorem Cd (σ:Nat→Nat) (p:Nat):swp (em  σ) p=em (sw σ p):=by
 funext i j
 unfold swp two em sw
 by_cases c:j=p
 ·rw [if_pos c,if_pos c]
 ·rw [if_neg c,if_neg c]
  by_cases c':j=p+1
  ·rw [if_pos c',if_pos c']
  ·rw [if_neg c',if_neg c']
theorem Br {n:Nat} {σ:Nat→Nat} (hn : ∀ j,j<n→σ j<n) (h : ∀ p,p+1<n→σ p<σ (p+1)) : ∀ j,j<n→σ j=j:=by
 have lo : ∀ j,j<n→j≤σ j:=fun j=>by
  induction j with
  | zero => intro _; omega
  | succ j ih => intro hj; have := ih X; have := h j hj; omega
 have hi : ∀ k j,j+k+1=n→σ j≤j:=fun k=>by
  induction k with
  | zero => intro j hj; have := hn j X; omega
  | succ k ih => intro j hj; have := ih (j + 1) X; have := h j X; omega
 intro j hj
 have:=lo j hj
 have:=hi (n - j - 1) j X
 omega
theorem Alt.em {n:Nat} {f:(Nat→Nat→Rat)→Rat} (h:Alt n f) : ∀ (N:Nat) (σ:Nat→Nat),lk n σ n<N→(∀ j,j<n→σ j<n)→f (em σ)=det n (em σ)*f idm
 | 0, _, hN, _ => absurd hN (Nat.not_lt_zero _)
 | N + 1, σ, hN, hσ => by
  by_cases c : ∃ p,p+1<n∧σ (p+1)≤σ p
  ·obtain ⟨p,hp,hle⟩:=c
   by_cases ce:σ (p+1)=σ p
   ·have e : ∀ i,i<n→Tor.Lin.em  σ i p=Tor.Lin.em σ i (p+1):=fun i _=>by unfold Tor.Lin.em;rw [ce]
    rw [h.adj p _ hp e,(iI n).adj p _ hp e]; grind
   ·have ih:=h.em N (sw σ p) (by have:=uJ hp (show σ (p+1)<σ p by omega) n X (Nat.le_refl _);omega) (fun j hj=>by
     unfold sw;split
     ·exact hσ _ hp
     ·split
      ·exact hσ _ X
      ·exact hσ _ hj)
    rw [← Cd,h.swap hp,(iI n).swap hp] at ih
    grind
  ·have hid:=Br hσ (fun p hp=>Nat.lt_of_not_le fun k=>c ⟨p,hp,k⟩)
   have e : ∀ i j,i<n→j<n→Tor.Lin.em  σ i j=idm i j:=fun i j _ hj=>by unfold Tor.Lin.em idm;rw [hid j hj]
   rw [h.congr _ _ e,(iI n).congr _ _ e,p7]; grind
theorem Alt.part {n:Nat} {f:(Nat→Nat→Rat)→Rat} (h:Alt n f) : ∀ (k:Nat) (F:Nat→Nat→Rat) (σ:Nat→Nat),k≤n→(∀ j,j<n→σ j<n)→(∀ i j,i<n→j<n→k≤j→F i j=Tor.Lin.em σ i j)→f F=det n F*f idm
 | 0, F, σ, _, hσ, hF => by
  rw [h.congr _ _ (fun i j hi hj=>hF i j hi hj (Nat.zero_le _)),(iI n).congr _ _ (fun i j hi hj=>hF i j hi hj (Nat.zero_le _))]
  exact h.em _ σ (Nat.lt_succ_self _) hσ
 | k + 1, F, σ, hk, hσ, hF => by
  have e : ∀ i j,i<n→j<n→F i j=d6 F k (fun i=>sm n (fun m=>F m k*(fun m i=>idm  i m) m i)) i j:=fun i j hi hj=>by
   unfold d6
   by_cases c:j=k
   ·subst c
    rw [if_pos Z]
    show F i j=sm n (fun m=>F m j*idm i m)
    rw [jl hi (fun m hm hne=>by unfold idm;rw [if_neg (fun q=>hne q.symm)]; grind)]
    unfold idm;rw [if_pos Z]; grind
   ·rw [if_neg c]
  rw [h.congr _ _ e,(iI n).congr _ _ e,h.sum X,(iI n).sum X]
  have hm : ∀ m,m<n→f (d6 F k (fun i=>idm  i m))=det n (d6 F k (fun i=>idm  i m))*f idm:=fun m hm =>
   h.part k _ (fun j=>if j=k then m else σ j) X (fun j hj=>by split;exact hm;exact hσ j hj) (fun i j hi hj hkj=>by
    unfold d6 Tor.Lin.em idm
    dsimp only
    by_cases c:j=k
    ·simp only [if_pos c]
    ·simp only [if_neg c]; exact hF i j hi hj X)
  rw [cA (fun m hm'=>by rw [hm m hm'])]
  generalize f idm=z
  clear hm
  generalize (fun m=>det n (d6 F k ((fun m i=>idm  i m) m)))=g at *
  have : ∀ N:Nat,sm N (fun m=>F m k*(det n (d6 F k (fun i=>idm  i m))*z))=sm N (fun m=>F m k*det n (d6 F k (fun i=>idm  i m)))*z:=fun N=>by
   induction N with
   | zero => simp only [sm]; grind
   | succ N ih => rw [sm, sm, ih]; grind
  exact this n
theorem Alt.uniq {n:Nat} {f:(Nat→Nat→Rat)→Rat} (h:Alt n f) (F:Nat→Nat→Rat):f F=det n F*f idm :=
 h.part n F id (Nat.le_refl _) (fun j hj=>hj) (fun i j _ hj hk=>by omega)
def nJ (n:Nat) (Cy B:Nat→Nat→Rat) (i j:Nat):Rat:=sm n (fun k=>Cy i k*B k j)
theorem zK (n:Nat) (Cy:Nat→Nat→Rat):Alt n (fun B=>det n (nJ n Cy B)) where
 congr F G h:=cD (fun i j _ hj=>cA (fun k hk=>by rw [h k j hk hj]))
 lin a b p F G H hp h1 h2 h3:=mK a b hp (fun i hi=>by
   unfold nJ
   rw [← pY]
   exact cA (fun k hk=>by rw [h1 k hk]; grind))
  (fun i j _ hj hne=>cA (fun k hk=>by rw [h2 k j hk hj hne])) (fun i j _ hj hne=>cA (fun k hk=>by rw [h3 k j hk hj hne]))
 adj p F hp h:=p6 hp (fun i hi=>cA (fun k hk=>by rw [h k hk]))
theorem p8 (n:Nat) (Cy B:Nat→Nat→Rat):det n (nJ n Cy B)=det n Cy*det n B:=by
 have h:det n (nJ n Cy B)=det n B*det n (nJ n Cy idm):=(zK n Cy).uniq B
 have e:det n (nJ n Cy idm)=det n Cy:=cD (fun i j hi hj=>by
  unfold nJ
  rw [jl hj (fun k hk hne=>by unfold idm;rw [if_neg hne]; grind)]
  unfold idm;rw [if_pos Z]; grind)
 rw [e] at h
 rw [h]; grind
theorem ll (a b:Rat) : ∀ {n p:Nat} {F G H:Nat→Nat→Rat},p<n→(∀ j,j<n→F p j=a*G p j+b*H p j)→(∀ i j,i<n→j<n→i≠p→G i j=F i j)→(∀ i j,i<n→j<n→i≠p→H i j=F i j) →
  det n F=a*det n G+b*det n H
 | 0, _, _, _, _, h, _, _, _ => absurd h (Nat.not_lt_zero _)
 | n + 1, 0, F, G, H, hp, hF, hG, hH => by
  rw [det,det,det, ← pY]
  refine cA (fun j hj => ?_)
  rw [cD (F:=fun i k=>G (i+1) (skip j k)) (G:=fun i k=>F (i+1) (skip j k)) (fun i k hi hk=>hG _ _ X (by unfold skip;split <;> omega) X),
   cD (F:=fun i k=>H (i+1) (skip j k)) (G:=fun i k=>F (i+1) (skip j k)) (fun i k hi hk=>hH _ _ X (by unfold skip;split <;> omega) X),hF j hj]
  grind
 | n + 1, p + 1, F, G, H, hp, hF, hG, hH => by
  rw [det,det,det, ← pY]
  refine cA (fun j hj => ?_)
  rw [ll a b (p:=p) (F:=fun i k=>F (i+1) (skip j k)) (G:=fun i k=>G (i+1) (skip j k)) (H:=fun i k=>H (i+1) (skip j k)) X
   (fun k hk=>hF _ (by unfold skip;split <;> omega))
   (fun i k hi hk hne=>hG _ _ X (by unfold skip;split <;> omega) X)
   (fun i k hi hk hne=>hH _ _ X (by unfold skip;split <;> omega) X),
   hG 0 j X hj X,hH 0 j X hj X]
  grind
theorem rL {n p:Nat} (hp:p+1<n) (F:Nat→Nat→Rat):det n (fun i j=>F (if i=p then p+1 else if i=p+1 then p else i) j) = - det n F:=by
 have h:=p8 n (swp idm p) F
 rw [(iI n).swap hp,p7] at h
 have e:det n (nJ n (swp idm p) F)=det n (fun i j=>F (if i=p then p+1 else if i=p+1 then p else i) j):=cD (fun i j hi hj=>by
  unfold nJ
  rw [jl (p:=if i=p then p+1 else if i=p+1 then p else i) (by split <;> (try split) <;> omega) (fun k hk hne=>by
   have:swp (idm) p i k=0:=by
    unfold swp two idm
    by_cases c:k=p
    ·simp only [if_pos c]
     rw [if_neg]; intro q;apply hne;rw [if_neg X,if_pos q,c]
    ·simp only [if_neg c]
     by_cases c':k=p+1
     ·simp only [if_pos c']
      rw [if_neg]; intro q;apply hne;rw [if_pos q,c']
     ·simp only [if_neg c']
      rw [if_neg]; intro q;apply hne;rw [if_neg X,if_neg X,q]
   rw [this]; grind)]
  have:swp (idm) p i (if i=p then p+1 else if i=p+1 then p else i)=1:=by
   unfold swp two idm
   by_cases c:i=p
   ·have hne : ¬ p+1=p:=by omega
    simp only [if_pos c,if_neg hne,if_pos]
   ·by_cases c':i=p+1
    ·simp only [if_neg c,if_pos c',if_pos]
    ·simp only [if_neg c,if_neg c',if_pos]
  rw [this]; grind)
 rw [← e,h]; grind
theorem xL (n:Nat) (h2 : ∀ x:Rat,x+x=0→x=0):Alt n (fun F:Nat→Nat→Rat=>det n (fun i j=>F j i)) where
 congr F G h:=cD (fun i j hi hj=>h j i hj hi)
 lin a b p F G H hp h1 h2 h3:=ll a b hp (fun j hj=>h1 j hj) (fun i j hi hj hne=>h2 j i hj hi hne) (fun i j hi hj hne=>h3 j i hj hi hne)
 adj p F hp h:=by
  have k:=rL hp (fun i j=>F j i)
  have e:det n (fun i j=>F j (if i=p then p+1 else if i=p+1 then p else i))=det n (fun i j=>F j i):=cD (fun i j hi hj=>by
   by_cases c:i=p
   ·rw [if_pos c,c,h j hj]
   ·rw [if_neg c]
    by_cases c':i=p+1
    ·rw [if_pos c',c',h j hj]
    ·rw [if_neg c'])
  show det n (fun i j=>F j i)=0
  rw [e] at k
  exact h2 _ (by grind)
theorem Bs (n:Nat) (h2 : ∀ x:Rat,x+x=0→x=0) (F:Nat→Nat→Rat):det n (fun i j=>F j i)=det n F:=by
 have h:det n (fun i j=>F j i)=det n F*det n (fun i j=>idm  j i):=(xL n h2).uniq F
 have e:det n (fun i j=>idm  j i)=1:=by
  rw [← p7 n]
  refine cD (fun i j _ _ => ?_)
  unfold idm
  by_cases c:i=j
  ·rw [if_pos c,if_pos c.symm]
  ·rw [if_neg c,if_neg (fun q=>c q.symm)]
 rw [e] at h
 rw [h]; grind
end Tor.Lin
end
section
namespace Tor.Lin
theorem jK {n:Nat} (h2 : ∀ x:Rat,x+x=0→x=0) {p q:Nat} {F:Nat→Nat→Rat} (hp:p<q) (hq:q<n) (h : ∀ j,j<n→F p j=F q j):det n F=0:=by
 have k:det n (fun i j=>(fun i j=>F j i) j i)=0:=(xL n h2).eqcol q p (fun i j=>F j i) hp hq h
 exact k
theorem vO {n:Nat} (h2 : ∀ x:Rat,x+x=0→x=0) {p q:Nat} (hne:p≠q) (hp:p<n) (hq:q<n) (c:Rat) (F:Nat→Nat→Rat):det n (fun i j=>if i=p then F i j+c*F q j else F i j)=det n F:=by
 rw [ll 1 c (p:=p) (F:=fun i j=>if i=p then F i j+c*F q j else F i j) (G:=F) (H:=fun i j=>if i=p then F q j else F i j) hp
  (fun j _=>by simp only [if_pos]; grind) (fun i j _ _ hi=>by simp only [if_neg hi]) (fun i j _ _ hi=>by simp only [if_neg hi])]
 have z:det n (fun i j=>if i=p then F q j else F i j)=0:=by
  have hqp : ¬ q=p:=fun e=>hne e.symm
  rcases Nat.lt_or_ge p q with h | h
  ·exact jK h2 h hq (fun j _=>by simp only [if_pos,if_neg hqp])
  ·exact jK h2 (show q<p by omega) hp (fun j _=>by simp only [if_pos,if_neg hqp])
 rw [z]; grind
theorem xM {n p:Nat} {F:Nat→Nat→Rat} (hp:p<n) (h : ∀ i,i<n→F i p=0):det n F=0:=by
 rw [mK 0 0 (F:=F) (G:=F) (H:=F) hp (fun i hi=>by rw [h i hi]; grind) (fun _ _ _ _ _=>rfl) (fun _ _ _ _ _=>rfl)]
 grind
theorem vP {n:Nat} {F:Nat→Nat→Rat} (h : ∀ i,i<n→F (i+1) 0=0):det (n+1) F=F 0 0*det n (fun i j=>F (i+1) (j+1)):=by
 rw [det,jl (p:=0) X (fun j hj hne=>by
  have:det n (fun i k=>F (i+1) (skip j k))=0:=xM (p:=0) X (fun i hi=>by
   have e:skip j 0=0:=by unfold skip;rw [if_pos X]
   rw [e]; exact h i hi)
  rw [this]; grind)]
 have e:det n (fun i k=>F (i+1) (skip 0 k))=det n (fun i j=>F (i+1) (j+1)):=cD (fun i j _ _=>by
  unfold skip;rw [if_neg (Nat.not_lt_zero j)])
 rw [e]
 unfold sgn;rw [if_pos Z]; grind
def smZ:Nat→(Nat→Int)→Int
 | 0, _ => 0
 | n + 1, f => smZ n f + f n
theorem vQ {n:Nat} {f g:Nat→Int} (h : ∀ i,i<n→f i=g i):smZ n f=smZ n g:=by
 induction n with
 | zero => rfl
 | succ n ih => rw [smZ, smZ, ih (fun i hi => h i X), h n X]
def nK (j:Nat):Int:=if j % 2=0 then 1 else -1
def ct:Nat→(Nat→Nat→Int)→Int
 | 0, _ => 1
 | n + 1, F => smZ (n + 1) (fun j => nK j * F 0 j * ct n (fun i k => F (i + 1) (skip j k)))
theorem xN (n:Nat) (f:Nat→Int):((smZ n f:Int):Rat)=sm n (fun i=>(f i:Rat)):=by
 induction n with
 | zero => rfl
 | succ n ih => rw [smZ, sm, Rat.intCast_add, ih]
theorem vR (j:Nat):((nK j:Int):Rat)=sgn j:=by
 unfold nK sgn;split <;> rfl
theorem eV : ∀ (n:Nat) (F:Nat→Nat→Int),((ct n F:Int):Rat)=det n (fun i j=>(F i j:Rat))
 | 0, _ => rfl
 | n + 1, F => by
  rw [ct,det,xN]
  refine cA (fun j hj => ?_)
  rw [Rat.intCast_mul,Rat.intCast_mul,vR,eV n]
theorem gO : ∀ {n:Nat} {F G:Nat→Nat→Int},(∀ i j,i<n→j<n→F i j=G i j)→ct n F=ct n G
 | 0, _, _, _ => rfl
 | n + 1, F, G, h => by
  rw [ct,ct]
  refine vQ (fun j hj => ?_)
  rw [h 0 j X hj,gO (G:=fun i k=>G (i+1) (skip j k)) (fun i k hi hk=>h _ _ X (by unfold skip;split <;> omega))]
theorem p9 : ∀ x:Rat,x+x=0→x=0:=fun x h=>by grind
def tw (F:Nat→Nat→Rat) (p q:Nat) (u v:Nat→Rat):Nat→Nat→Rat:=fun i j=>if i=p then u j else if i=q then v j else F i j
theorem xO {n:Nat} (h2 : ∀ x:Rat,x+x=0→x=0) {p q:Nat} (hne:p≠q) (hp:p<n) (hq:q<n) (F:Nat→Nat→Rat):det n (tw F p q (F q) (F p)) = - det n F:=by
 have hqp : ¬ q=p:=fun e=>hne e.symm
 have l1 : ∀ u u' v:Nat→Rat,det n (tw F p q (fun i=>u i+u' i) v)=det n (tw F p q u v)+det n (tw F p q u' v):=fun u u' v=>by
  rw [ll 1 1 (p:=p) (F:=tw F p q (fun i=>u i+u' i) v) (G:=tw F p q u v) (H:=tw F p q u' v) hp (fun i _=>by simp only [tw,if_pos]; grind)
   (fun i j _ _ hj=>by simp only [tw,if_neg hj]) (fun i j _ _ hj=>by simp only [tw,if_neg hj])]
  grind
 have l2 : ∀ u v v':Nat→Rat,det n (tw F p q u (fun i=>v i+v' i))=det n (tw F p q u v)+det n (tw F p q u v'):=fun u v v'=>by
  rw [ll 1 1 (p:=q) (F:=tw F p q u (fun i=>v i+v' i)) (G:=tw F p q u v) (H:=tw F p q u v') hq (fun i _=>by simp only [tw,if_neg hqp,if_pos]; grind)
   (fun i j _ _ hj=>by simp only [tw,if_neg hj]) (fun i j _ _ hj=>by simp only [tw,if_neg hj])]
  grind
 have z : ∀ u:Nat→Rat,det n (tw F p q u u)=0:=fun u=>by
  rcases Nat.lt_or_ge p q with h | h
  ·exact jK h2 h hq (fun j _=>by simp only [tw,if_neg hqp,if_pos])
  ·exact jK h2 (show q<p by omega) hp (fun j _=>by simp only [tw,if_neg hqp,if_pos])
 have e:det n (tw F p q (F p) (F q))=det n F:=cD (fun i j _ _=>by
  unfold tw
  by_cases c:i=p
  ·rw [if_pos c,c]
  ·rw [if_neg c]
   by_cases c':i=q
   ·rw [if_pos c',c']
   ·rw [if_neg c'])
 have k:=z (fun i=>F p i+F q i)
 rw [l1,l2,l2,z,z,e] at k
 grind
end Tor.Lin
end
section
namespace Tor
def swp {α:Type} (i k:Nat) (φ:Nat→α):Nat→α:=fun q=>if q=i then φ k else if q=k then φ i else φ q
theorem nL {α:Type} (i:Nat) (φ:Nat→α):swp i i φ=φ:=by
 funext q;unfold swp;by_cases h:q=i
 ·rw [if_pos h,h]
 ·rw [if_neg h,if_neg h]
theorem Bt {α:Type} {i k:Nat} (φ:Nat→α):swp i k φ k=φ i:=by
 unfold swp;by_cases h:k=i
 ·rw [if_pos h,h]
 ·rw [if_neg h,if_pos Z]
end Tor
namespace Tor.Lin
/-! ### Sums -/
theorem Bu (n:Nat) (f g:Nat→Rat):sm n (fun i=>f i+g i)=sm n f+sm n g:=by
 induction n with
 | zero => simp only [sm]; grind
 | succ n ih => rw [sm, sm, sm, ih]; grind
theorem uK (a:Rat) (n:Nat) (f:Nat→Rat):sm n (fun i=>f i*a)=sm n f*a:=by
 induction n with
 | zero => simp only [sm]; grind
 | succ n ih => rw [sm, sm, ih]; grind
theorem Bv (n:Nat) (f g:Nat→Rat):sm n (fun i=>f i - g i)=sm n f - sm n g:=by
 induction n with
 | zero => simp only [sm]; grind
 | succ n ih => rw [sm, sm, sm, ih]; grind
theorem zL (n m:Nat) (f:Nat→Nat→Rat):sm n (fun i=>sm m (fun j=>f i j))=sm m (fun j=>sm n (fun i=>f i j)):=by
 induction n with
 | zero => simp only [sm]; exact (pZ m).symm
 | succ n ih => rw [sm, ih, ← Bu]; exact cA fun j _ => by rw [sm]
theorem uL {n:Nat} {f:Nat→Rat} (h : ∀ i,i<n→f i=0):sm n f=0:=by
 rw [cA (g:=fun _=>0) h,pZ]
/-! ### Determinants with a column that is a combination -/
end Tor.Lin
end
