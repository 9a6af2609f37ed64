/-
  Theorems that the proofs of laws of this seat rest on.
  No condition.
-/
import Derived.Test.YtfaglimgjfhdfaaGreatZN5
import Init
set_option maxHeartbeats 20000000
set_option linter.unusedVariables false
set_option linter.unusedSimpArgs false
set_option linter.unusedSectionVars false
section
namespace Tor
open Go Go.RowKit Go.Proofs
variable [Tor.Co.Kc]
attribute [local irreducible] J PJ aC one slT bL bE bw exT cj eP aT aH slV VT.le Ret bQ
theorem y6 (a:Int) (ha:cf a):Ok Tryz.prog 144 [aU a] (one (.int .i64 (lP a.natAbs:Nat))):=by
 have ha':(aQ a.natAbs).length≤1099511627776:=ha
 have hx:=a6 (a7 a.natAbs) ((aQ a.natAbs).length - 1)
 have hbl:=ju (n:=32) (x:=(aQ a.natAbs).getD ((aQ a.natAbs).length - 1) 0) X U
 have hL:=qE _ hx
 unfold aU lP
 refine Ok.enter Tryz.func144 Z Tryz.ntmps144 Z (fun w O => ?_)
 by_cases h0:a.natAbs=0
 ·have hl:(aQ a.natAbs).length=0:=by rw [h0]; rfl
  rw [if_pos h0]
  refine ae (ai ?_)
  refine bJ Z Z (ltN Z) (fun b1 => ?_)
  refine Cd Z (Cf (aa (ae (ai (Cb (aj Z) (Cb (am 0 Z Z Z) ?_))))))
  refine Cb (ao (cT _) Z ⟨(cB _),Cg⟩) ?_
  refine Cd Z (Cf (aa (ae (ae (ai (Cc Z (Cb (a9 Z) (Cb (sT X (cQ Z Z)) (Cf ?_)))))))))
  refine aa (aM Z (ae (ai (Cd Z (Cf (aa (aG (aJ ?_))))))))
  refine aV Tryz.results144 (.tmp Z A)
 ·have hl:(aQ a.natAbs).length≠0:=fun h=>h0 (gD h)
  rw [if_neg h0]
  refine ae (ai ?_)
  refine bJ Z Z (ltN Z) (fun b1 => ?_)
  refine Cd Z (Cf (aa (ae (ai (Cb (aj Z) (Cb (am 0 Z Z Z) ?_))))))
  refine Cb (ao (cT _) Z ⟨(cB _),Cg⟩) ?_
  refine Cd Z (Cf (aa (ae (ae (ai (Cc Z (Cb (a9 Z) (Cb (sF X (cQ Z Z)) (Cf ?_)))))))))
  refine aa (aD Z (ay (aa (ae (ai (Cc Z (Cb (a9 Z) (Cb (cm _ 1 Z Z X X) (Cb (wo 32 _ Z Z X) ?_)))))))))
  refine Cc Z (Cc Z (Cb (a9 Z) (Cb (cm _ 1 Z Z X X) (Cb (aI Z Z X) (Cb (aY Z) ?_)))))
  refine Cb (ao (hL) Z ⟨A,Cg⟩) ?_
  refine Cb (bU _ _ Z Z X) (Cd Z (Cf (aa (aG ?_))))
  refine aV Tryz.results144 (.tmp Z A)
end Tor
end
section
namespace Tor
variable [Tor.Co.Kc]
theorem BL (s x:Nat):(2*s - x)*x≤s*s:=by
 rcases Nat.le_total x s with h | h
 ·obtain ⟨d,rfl⟩ : ∃ d,s=x+d:=⟨s - x,by omega⟩
  rw [show 2*(x+d) - x=x+2*d by omega,Nat.add_mul,Nat.add_mul,Nat.mul_add,Nat.mul_add,Nat.mul_assoc,Nat.mul_comm d x]
  have:=Nat.zero_le (d*d)
  omega
 ·rcases Nat.le_total x (2*s) with h2 | h2
  ·obtain ⟨d,rfl⟩ : ∃ d,x=s+d:=⟨x - s,by omega⟩
   obtain ⟨e,rfl⟩ : ∃ e,s=d+e:=⟨s - d,by omega⟩
   rw [show 2*(d+e) - (d+e+d)=e by omega]
   simp only [Nat.add_mul,Nat.mul_add]
   have:=Nat.mul_comm d e
   have:=Nat.zero_le (d*d)
   omega
  ·rw [show 2*s - x=0 by omega,Nat.zero_mul]; exact Nat.zero_le _
theorem u1 {a s x:Nat} (h:s*s≤a) (hx:0<x):s≤(x+a / x) / 2:=by
 rcases Nat.lt_or_ge ((x+a / x) / 2) s with h1 | h1
 ·exfalso
  have h2:=Nat.lt_mul_div_succ a hx
  generalize a / x=q at *
  have h3:q+1≤2*s - x:=by omega
  have h4:=BL s x
  have h5:x*(q+1)≤(2*s - x)*x:=by rw [Nat.mul_comm]; exact Nat.mul_le_mul_right _ h3
  omega
 ·exact h1
theorem u3 {a x:Nat} (hx:0<x) (h:x≤(x+a / x) / 2):x*x≤a:=by
 have h1:x≤a / x:=by
  generalize a / x=q at *; omega
 exact (Nat.le_div_iff_mul_le hx).1 h1
theorem u4 {a s x:Nat} (h1:x*x≤a) (h2:a<(s+1)*(s+1)) (h3:s≤x):x=s:=by
 rcases Nat.lt_or_ge s x with h | h
 ·have h4:(s+1)*(s+1)≤x*x:=Nat.mul_le_mul h h
  omega
 ·omega
end Tor
end
section
namespace Tor
open Go Go.RowKit Go.Proofs
variable [Tor.Co.Kc]
theorem y7 (v:Nat):v<2^lP v:=by
 unfold lP
 by_cases h0:v=0
 ·rw [if_pos h0]; subst h0;decide
 ·rw [if_neg h0]
  have hl:(aQ v).length≠0:=fun h=>h0 (gD h)
  obtain ⟨k,hk⟩ : ∃ k,(aQ v).length=k+1:=⟨(aQ v).length - 1,by omega⟩
  rw [hk,Nat.add_sub_cancel]
  have hL:=a7 v
  have h1:=bF (l:=aQ v) (k:=k) X
  rw [List.take_of_length_le X,bR] at h1
  have h2:=jX hL k
  have h3:=o6 (x:=(aQ v).getD k 0) (by have:=a6 hL k;omega)
  generalize fH ((aQ v).getD k 0)=n at *
  generalize (aQ v).getD k 0=d at *
  rw [qF] at h1
  generalize lv ((aQ v).take k)=y at *
  rw [Nat.pow_add]
  have h4:2^(32*k)*(d+1)≤2^(32*k)*2^n:=Nat.mul_le_mul_left _ h3
  rw [Nat.mul_add,Nat.mul_one] at h4
  omega
theorem n6 (n:Nat):bq ((List.replicate (n / 32+1) 0).set (n / 32) (2^(n % 32)))∧lv ((List.replicate (n / 32+1) 0).set (n / 32) (2^(n % 32)))=2^n:=by
 have h1:2^(n % 32)<4294967296:=Nat.lt_of_le_of_lt (Nat.pow_le_pow_right (n:=2) U (show n % 32≤31 by omega)) U
 refine ⟨(bq.replicate _).set h1,?_⟩
 have hs:=fk (l:=List.replicate (n / 32+1) 0) (k:=n / 32) (v:=2^(n % 32)) (by simp)
 rw [co,Nat.mul_zero,Nat.add_zero,dP,Nat.zero_add] at hs
 rw [hs,qF, ← Nat.pow_add,Nat.div_add_mod]
theorem y8 {v m:Nat} (h:(aQ v).length≤m):lP v≤32*m:=by
 unfold lP
 by_cases h0:v=0
 ·rw [if_pos h0]; exact Nat.zero_le _
 ·rw [if_neg h0]
  have hl:(aQ v).length≠0:=fun h=>h0 (gD h)
  have h1:=a6 (a7 v) ((aQ v).length - 1)
  have h2:=ju (n:=32) (x:=(aQ v).getD ((aQ v).length - 1) 0) X U
  omega
end Tor
end
section
namespace Tor
open Go Go.RowKit Go.Proofs
variable [Tor.Co.Kc]
theorem AI {P:Program} {E:Env} {Γ:Ctx} {M:Mem} {d:Option Tmp} {ty:TypeId} {pos:String} {af:Array Edge} {gd:Option (Nat × Bool)} {T T':TypeId} {x y:Operand} {k':IntKind} {s:Nat} (hx:aB Γ x=some (one (.int .u32 1))) (hy:aB Γ y=some (one (.int k' (s:Int)))) (hs:s<32) :
  aC P E Γ M ⟨d, .binOp .shl T x y T',ty,pos,af,gd⟩ (one (.int .u32 ((2^s:Nat):Int))) :=
 z7 hx hy X (by
  have e:min ((s:Int)).toNat IntKind.u32.bits=s:=by show min _ 32=s;omega
  rw [e,mo]
  have h1:2^s<4294967296:=Nat.lt_of_le_of_lt (Nat.pow_le_pow_right (n:=2) U (show s≤31 by omega)) U
  have:((1:Int)*2^s)=((2^s:Nat):Int):=by simp
  rw [this]
  generalize 2^s=x at h1 ⊢
  omega)
theorem ma (i j:Nat) (h:i≤j):2^i≤2^j:=Nat.pow_le_pow_right U h
theorem AJ (n k:Nat) (h:k=n+1):2^k=2^n+2^n:=by rw [h,Nat.pow_succ]; omega
theorem wU (n:Nat):VT.le (slT .one (n / 32+1) (upd (fun _=>one (.int .u32 0)) (n / 32) (one (.int .u32 ((2^(n % 32):Nat):Int))))) (kC (2^n)) :=
 VT.le_trans (cH (m:=((List.replicate (n / 32+1) 0).set (n / 32) (2^(n % 32))).length) (ψ:=f8 ((List.replicate (n / 32+1) 0).set (n / 32) (2^(n % 32)))) (by simp) (fun q hq=>by
  unfold upd f8
  by_cases h:q=n / 32
  ·subst h;rw [if_pos Z]; simp [List.getD]
  ·rw [if_neg h]
   simp only [List.getD,List.getElem?_set,if_neg (Ne.symm h),List.getElem?_replicate,if_pos hq]; rfl)) (e7 (n6 n).1 (n6 n).2)
attribute [local irreducible] J PJ aC one slT bL bE bw exT cj eP aT aH slV VT.le Ret bQ
theorem y9 (a s:Nat) (ha:a<2^800) (h0:a≠0) (h1:s*s≤a) (h2:a<(s+1)*(s+1)):Ok Tryz.prog 121 [aU (a:Int)] (bw [aU (s:Int),one (.int .i64 0)]):=by
 have hsm:cf (a:Int):=dD (Nat.lt_trans ha V)
 have hbi:=y6 (a:Int) hsm
 rw [Int.natAbs_natCast] at hbi
 have hbl:=y7 a
 have hsg:kG (a:Int)=1:=by unfold kG;rw [if_neg X,if_neg X]
 have hsi:=qA (a:Int)
 rw [hsg] at hsi
 have hb8:lP a≤832:=y8 (v:=a) (m:=26) (dm (Nat.lt_trans ha V))
 generalize lP a=bn at *
 refine Ok.enter Tryz.func121 Z Tryz.ntmps121 Z (fun w O => ?_)
 obtain ⟨n,hn⟩ : ∃ n,n=(bn+1) / 2:=⟨_,rfl⟩
 have hn2:a<2^n*2^n:=by
  rw [← Nat.pow_add]
  exact Nat.lt_of_lt_of_le hbl (Nat.pow_le_pow_right U X)
 obtain ⟨e5,he5⟩ : ∃ e,e=500:=⟨_,rfl⟩
 have hn5:2^n<2^e5:=Nat.pow_lt_pow_right U X
 have hsn:s≤2^n:=by
  rcases Nat.lt_or_ge (2^n) s with h | h
  ·have:=Nat.mul_le_mul (Nat.le_of_lt h) (Nat.le_of_lt h);omega
  ·exact h
 have hn0:0<2^n:=Nat.two_pow_pos n
 have hv:=d7 false (2^n)
 rw [if_neg U] at hv
 refine ae (ai ?_)
 refine bJ Z Z (ltN Z) (fun b1 => ?_)
 refine aN (T:=28) Z (ltN Z) (fun b2 => ?_)
 refine Cd Z (Cf (aa (ae (ae (ai (Cb (bI 1 Z Z) ?_))))))
 refine Cb (ao (hsi) Z ⟨A,Cg⟩) ?_
 refine Cf (aa (aw (ae (ai (Cb (sF X (cQ Z Z)) (Cd Z (Cf (aa (aD Z ?_)))))))))
 refine ae (ai (Cb (sF X (cQ Z Z)) (Cd Z (Cf (aa (aD Z (ay (aK (aa ?_)))))))))
 refine ae (ai ?_)
 refine Cb (ao (iH _ X X) Z ⟨A,Cg⟩) ?_
 refine aN (T:=28) Z (ltN Z) (fun b4 => ?_)
 refine az 0 Z Z Z Z Z (leN Z) Z (Cf (aa (ae (ai (Cb (bI 2 Z Z) ?_)))))
 refine Cb (ao (hbi) Z ⟨A,Cg⟩) ?_
 refine Cb (bU _ 1 Z Z X) (Cb (rX 2 Z Z Z U X) (Cd Z (Cf (aa (ae (ai (Cc Z (Cb (rX 32 Z Z Z U X) (Cb (bU _ 1 Z Z X) ?_)))))))))
 rw [← hn]
 refine cA (n / 32+1) (n / 32+1) Z Z Z Z (Nat.le_refl _) Z Z X Z Z (fun bz => ?_)
 refine Cd Z (Cf (aa (ae (ai (Cc Z (Cc Z (Cb (rX 32 Z Z Z U X) (Cc Z (Cb (eh 32 Z Z Z U) ?_)))))))))
 refine Cb (AI (s:=n % 32) Z Z X) (Cb (ar Z Z X) ?_)
 (refine au 0 Z Z Z ?_ Z ?_;omega)
 refine Cf (aa (ae (ai (Cc Z (ij (t:=38) (j:=0) Z Z ?_)))))
 refine Cb (ao (hv) Z ⟨A,(wU _),Cg⟩) ?_
 refine aN (T:=28) Z (ltN Z) (fun b7 => ?_)
 refine az 0 Z Z Z Z Z (leN Z) Z (Cf (aa (aw (cv (Γ' := [(1,_),(2,_),(3,_),(4,_),(7,_)]) BW (SubM.refl _) ?_))))
 refine bO (σ:=Nat) (Γk := [(1,_),(2,_),(4,_),(7,_)]) BW (fun x => []) (fun x M0=>(M0.set 0 (aT b7 28 (Lay.agg 2).sz [(0,Lay.agg 2,aU (x:Int))]))) (fun x=>s≤x∧x<2^e5) (fun x=>x) (2^n) (⟨hsn,hn5⟩) BX (.keep Ca (.keep Ca (.keep Ca (.keep Ca (.nil))))) (fun x hx => ?_)
 refine cg (Γ' := [(1,_),(2,_),(4,_),(7,_)]) (M' := [_,_,_,_]) Z Z ?_
 obtain ⟨g1,g2⟩:=hx
 have g0:0<x:=by
  rcases Nat.eq_zero_or_pos s with h | h
  ·subst h;omega
  ·omega
 have gx:x<2^2048:=Nat.lt_of_lt_of_le g2 (ma e5 2048 X)
 have ga:a<2^2048:=Nat.lt_of_lt_of_le ha (ma 800 2048 U)
 have hxs:cf (x:Int):=dD gx
 have hqa:a / x≤a:=Nat.div_le_self _ _
 have hd:=nY (a:Int) (x:Int) X hsm hxs
 rw [← Int.natCast_ediv, ← Int.natCast_emod] at hd
 have hqs:cf ((a / x:Nat):Int):=dD (Nat.lt_of_le_of_lt hqa ga)
 have had:=fZ (x:Int) ((a / x:Nat):Int) hxs hqs
 rw [← Int.natCast_add] at had
 have hss:x+a / x<2^2048:=by
  have e1:x<2^2047:=Nat.lt_of_lt_of_le g2 (ma e5 2047 X)
  have e2:a<2^2047:=Nat.lt_of_lt_of_le ha (ma 800 2047 U)
  have e3:2^2048=2^2047+2^2047:=AJ 2047 2048 Z
  rw [e3]; generalize 2^2047=z at *; omega
 have hd2:=nY ((x+a / x:Nat):Int) 2 U (dD hss) (dD V)
 rw [show ((x+a / x:Nat):Int) / 2=(((x+a / x) / 2:Nat):Int) from (Int.natCast_ediv _ _).symm,show ((x+a / x:Nat):Int) % 2=(((x+a / x) % 2:Nat):Int) from (Int.natCast_emod _ _).symm] at hd2
 have hcm:=jt (((x+a / x) / 2:Nat):Int) (x:Int)
 have hnx:s≤(x+a / x) / 2:=u1 h1 g0
 by_cases hy:x≤(x+a / x) / 2
 ·have hxe:x=s:=u4 (u3 g0 hy) h2 g1
  have hc : ¬ c4 (((x+a / x) / 2:Nat):Int) (x:Int)<0:=by unfold c4;split <;> (try split) <;> omega
  refine aw (ae (ai (Cb (bI 3 Z Z) (Cb (am 0 Z Z Z) ?_))))
  refine Cb (ao (hd) Z ⟨A,A,Cg⟩) ?_
  refine Cc Z (Cb (aA Z Z) (Cb (aA Z Z) (Cb (aA Z Z) ?_)))
  refine aN (T:=28) Z (ltN Z) (fun b8 => ?_)
  refine aN (T:=28) Z (ltN Z) (fun b9 => ?_)
  refine az 1 Z Z Z Z Z (leN Z) Z (az 0 Z Z Z Z Z (leN Z) Z (Cd Z (Cf (aa (ae ?_)))))
  refine fX bH Y Y ?_
  refine ux (fun B=>am 2 Z Z Z) Z Z ?_
  refine ux (fun B=>am 1 Z Z Z) Z Z ?_
  refine uxk (had) Z ⟨A,A,Cg⟩ Z ?_
  refine ux (fun B=>am 3 Z Z Z) Z Z ?_
  refine uxk (hd2) Z ⟨A,A,Cg⟩ Z ?_
  refine ux (fun B=>ab Z) Z Z ?_
  refine ux (fun B=>aA Z Z) Z Z ?_
  refine ux (fun B=>aA Z Z) Z Z ?_
  refine ux (fun B=>aA Z Z) Z Z ?_
  refine ua Z (ua Z (us Z (us Z ?_)))
  refine ux (fun B=>ah Z) Z Z ?_
  refine RunU.nil (fun γ => ?_)
  refine er (M' := [_,_,_,_,_,_,_,_]) Z (aa (ae (ae (ai (Cb (am 1 Z Z Z) (Cb (am 4 Z Z Z) ?_))))))
  refine Cb (ao (hcm) Z ⟨A,A,Cg⟩) ?_
  refine Cb (sT X (eR Z Z)) (Cf (aa (aM Z (ae (ai (Cb (am 4 Z Z Z) (az 6 Z Z Z Z Z (leN Z) Z (Cd Z (Cf ?_)))))))))
  refine aa (aG (aJ (bp (aJ (bp ?_)))))
  refine db Tryz.results121 (.cellB 6 Z Z Z (cL (by rw [hxe]))) (.tmp Z A)
 ·have hc:c4 (((x+a / x) / 2:Nat):Int) (x:Int)<0:=by unfold c4;rw [if_pos X]; decide
  refine aw (ae (ai (Cb (bI 3 Z Z) (Cb (am 0 Z Z Z) ?_))))
  refine Cb (ao (hd) Z ⟨A,A,Cg⟩) ?_
  refine Cc Z (Cb (aA Z Z) (Cb (aA Z Z) (Cb (aA Z Z) ?_)))
  refine aN (T:=28) Z (ltN Z) (fun b8 => ?_)
  refine aN (T:=28) Z (ltN Z) (fun b9 => ?_)
  refine az 1 Z Z Z Z Z (leN Z) Z (az 0 Z Z Z Z Z (leN Z) Z (Cd Z (Cf (aa (ae ?_)))))
  refine fX bH Y Y ?_
  refine ux (fun B=>am 2 Z Z Z) Z Z ?_
  refine ux (fun B=>am 1 Z Z Z) Z Z ?_
  refine uxk (had) Z ⟨A,A,Cg⟩ Z ?_
  refine ux (fun B=>am 3 Z Z Z) Z Z ?_
  refine uxk (hd2) Z ⟨A,A,Cg⟩ Z ?_
  refine ux (fun B=>ab Z) Z Z ?_
  refine ux (fun B=>aA Z Z) Z Z ?_
  refine ux (fun B=>aA Z Z) Z Z ?_
  refine ux (fun B=>aA Z Z) Z Z ?_
  refine ua Z (ua Z (us Z (us Z ?_)))
  refine ux (fun B=>ah Z) Z Z ?_
  refine RunU.nil (fun γ => ?_)
  refine er (M' := [_,_,_,_,_,_,_,_]) Z (aa (ae (ae (ai (Cb (am 1 Z Z Z) (Cb (am 4 Z Z Z) ?_))))))
  refine Cb (ao (hcm) Z ⟨A,A,Cg⟩) ?_
  refine Cb (sF X (eR Z Z)) (Cf (aa (aD Z (ay (aa (ai (Cb (am 1 Z Z Z) (az 4 Z Z Z Z Z (leN Z) Z (Cf ?_)))))))))
  refine aK ?_
  refine aX ((x+a / x) / 2) (⟨hnx,by omega⟩) X BX (.drop (.drop (.drop (.drop (.keep Ca (.keep Ca (.keep Ca (.keep Ca (.nil)))))))))
end Tor
end
section
namespace Tor
open Go Go.RowKit Go.Proofs
variable [Tor.Co.Kc]
attribute [local irreducible] J PJ aC one slT bL bE bw exT cj eP aT aH slV VT.le Ret bQ
theorem wV:Ok Tryz.prog 121 [aU 0] (bw [aU 0,one (.int .i64 0)]):=by
 have hsi:=qA 0
 rw [show kG 0=0 from rfl] at hsi
 refine Ok.enter Tryz.func121 Z Tryz.ntmps121 Z (fun w O => ?_)
 refine ae (ai ?_)
 refine bJ Z Z (ltN Z) (fun b1 => ?_)
 refine aN (T:=28) Z (ltN Z) (fun b2 => ?_)
 refine Cd Z (Cf (aa (ae (ae (ai (Cb (bI 1 Z Z) ?_))))))
 refine Cb (ao (hsi) Z ⟨A,Cg⟩) ?_
 refine Cf (aa (aw (ae (ai (Cb (sF X (cQ Z Z)) (Cd Z (Cf (aa (aD Z ?_)))))))))
 refine ae (ai (Cb (sT X (cQ Z Z)) (Cd Z (Cf (aa (aM Z (ae (ai (stB Z Z Z ?_)))))))))
 refine BuildK.nil (az 0 Z Z Z Z Z (leN Z) Z (Cd Z (Cf (aa (aG (bp (aJ ?_)))))))
 refine db Tryz.results121 (.cellB 0 Z Z Z (ln)) (.tmp Z A)
theorem qN (u:Nat) (hu:u<18446744073709551616):Ok Tryz.prog 88 [one (.int .u64 (u:Int))] (aU (u:Int)):=by
 have h1:=iH ((u / 4294967296:Nat):Int) X X
 have h2:=iH 4294967296 U U
 have h3:=iH ((u % 4294967296:Nat):Int) X X
 refine Ok.enter Tryz.func88 Z Tryz.ntmps88 Z (fun w O => ?_)
 have s1:cf ((u / 4294967296:Nat):Int):=dD (by rw [Int.natAbs_natCast]; exact Nat.lt_of_le_of_lt (Nat.div_le_self _ _) (Nat.lt_trans hu V))
 have s2:cf 4294967296:=dD V
 have s3:cf ((u % 4294967296:Nat):Int):=dD (by rw [Int.natAbs_natCast]; exact Nat.lt_of_le_of_lt (Nat.mod_le _ _) (Nat.lt_trans hu V))
 have s4:cf (((u / 4294967296:Nat):Int)*4294967296):=dD (by
  rw [show ((u / 4294967296:Nat):Int)*4294967296=((u / 4294967296*4294967296:Nat):Int) from by simp,Int.natAbs_natCast]
  exact Nat.lt_of_le_of_lt (Nat.div_mul_le_self _ _) (Nat.lt_trans hu V))
 refine ae (ai ?_)
 refine aN (T:=28) Z (ltN Z) (fun b2 => ?_)
 refine Cf (aa (ae (ai (Cc Z (Cb (fw Z) (Cb (dc Z X X) ?_))))))
 refine Cb (ao (h1) Z ⟨A,Cg⟩) ?_
 refine Cb (ao (h2) Z ⟨A,Cg⟩) ?_
 refine Cb (ao (f7 _ _ (by assumption) (by assumption)) Z ⟨A,A,Cg⟩) ?_
 refine aN (T:=28) Z (ltN Z) (fun b3 => ?_)
 refine az 0 Z Z Z Z Z (leN Z) Z (Cf (aa (ae (bG 6 bH Y U (Cb (am 0 Z Z Z) (Cc Z (Cb (rY Z X) (Cb (dc Z X X) ?_))))))))
 refine Cb (ao (h3) Z ⟨A,Cg⟩) ?_
 refine Cb (ao (fZ _ _ (by assumption) (by assumption)) Z ⟨A,A,Cg⟩) ?_
 refine Cf (az 1 Z Z Z Z Z (leN Z) Z (Cf (aa (aG ?_))))
 refine aV Tryz.results88 (.cellB 1 Z Z Z (cL X))
end Tor
end
section
namespace Tor
open Go Go.RowKit Go.Proofs
variable [Tor.Co.Kc]
def jD (p:Nat × Nat):VT:=bE 2 [(0, .one,one (.int .u64 (p.1:Int))),(1, .one,one (.int .u64 (p.2:Int)))]
def ia (l:List (Nat × Nat)):VT:=slT (.agg 2) l.length (fun i=>jD (l.getD i (0,0)))
def mV (l:List (Nat × Nat)):Prop := ∀ p∈l,p.1<18446744073709551616∧p.2<18446744073709551616
theorem mV.get {l:List (Nat × Nat)} (h:mV l) (i:Nat):(l.getD i (0,0)).1<18446744073709551616∧(l.getD i (0,0)).2<18446744073709551616:=by
 rw [List.getD]
 cases hx:l[i]? with
 | none => simp
 | some x => simp; exact h x (List.mem_of_getElem? hx)
def dV (seen:List Nat):List (Nat × Nat)→Bool
 | [] => true
 | p :: r => if p.1 ∈ seen then false else if bg p.1 = false then false else if p.1 ≤ p.2 then false else dV (seen ++ [p.1]) r
def kL (l:List (Nat × Nat)) (i:Nat):List Nat:=(l.take i).map (·.1)
theorem sb {α:Type} {l:List α} {k:Nat} (d:α) (h:k<l.length):l.drop k=l.getD k d :: l.drop (k+1):=by
 rw [List.drop_eq_getElem_cons h]; simp [List.getD,h]
theorem mW {α:Type} {l:List α} {k:Nat} (d:α) (h:k<l.length):l.take (k+1)=l.take k ++ [l.getD k d]:=by
 rw [List.take_succ_eq_append_getElem h]; simp [List.getD,h]
theorem lr {l:List (Nat × Nat)} {i:Nat} (h:i<l.length):kL l (i+1)=kL l i ++ [(l.getD i (0,0)).1]:=by
 unfold kL;rw [mW (0,0) h,List.map_append]; rfl
theorem qO {l:List (Nat × Nat)} {i:Nat} (h:i<l.length):dV (kL l i) (l.drop i)=if (l.getD i (0,0)).1∈kL l i then false else if bg (l.getD i (0,0)).1=false then false else if (l.getD i (0,0)).1≤(l.getD i (0,0)).2 then false else dV (kL l (i+1)) (l.drop (i+1)):=by
 rw [sb (0,0) h,dV,lr h]
theorem AK {b:Nat} {ks ks':List Nat} (h:ks'=ks):Own.le (dz b ks) (dz b ks'):=h▸Own.le_refl _
instance:MapOf Tryz.prog 159 47 4 .u64:=⟨by kernel_rfl,by kernel_rfl⟩
attribute [local irreducible] J PJ aC one slT bL bE bw exT cj eP aT aH slV VT.le Ret bQ dz ed
theorem n7 (l:List (Nat × Nat)) (h64:mV l):Ok Tryz.prog 83 [ia l] (one (.bool (dV [] l))):=by
 unfold ia
 refine Ok.enter Tryz.func83 Z Tryz.ntmps83 Z (fun w O => ?_)
 refine iR (t:=0) Z (fun _ _=>fd) (fun hbound => ?_)
 refine ae (ai (Cd Z (Cf (aa (ae (ai ?_))))))
 refine uN Z (ltN Z) (fun b6 => ?_)
 refine Cd Z (Cf (aa (ae (ae (ai (Cc Z (Cb (a9 Z) (Cc Z (Cf ?_)))))))))
 refine aa (aw (cv (Γ' := [(2,_),(3,_),(7,_),(8,_),(9,_)]) BW (SubM.refl _) ?_))
 refine bO (σ:=Nat) (Γk := [(3,_),(7,_),(8,_)]) BW (fun i => [(9,one (.int .i64 (i:Nat)))]) (fun i M0=>(M0.set 0 (dz b6 (kL l i)))) (fun i=>i≤l.length∧dV (kL l i) (l.drop i)=dV [] l) (fun i=>l.length - i) (0) (⟨Nat.zero_le _,rfl⟩) BX (.keep Ca (.nil)) (fun i hi => ?_)
 refine cg (Γ' := [(9,_),(3,_),(7,_),(8,_)]) (M' := [_]) Z Z ?_
 obtain ⟨hi,hv⟩:=hi
 by_cases hc:i<l.length
 ·rw [qO hc] at hv
  obtain ⟨h1,h2⟩:=h64.get i
  unfold jD
  have hpr:=fo _ h1
  by_cases c1:(l.getD i (0,0)).1∈kL l i
  ·rw [if_pos c1] at hv
   rw [← hv]
   refine ae (ai (Cb (sT X (bD Z Z)) (Cf (aa (ae (aM Z (ay (aa (ae ?_)))))))))
   refine aw (ae (ai (Cb (aI Z Z X) (Cb (aY Z) ?_))))
   refine bZ (T:=50) Z Z Z (fun b5 => ?_)
   refine bX 0 Z Z Z Z (Cf (aa (ae (ae (ai (Cc Z (Cb (aj Z) (Cb (am 0 Z Z Z) (Cb (sT (by assumption) (ky 1 Z Z Z)) ?_)))))))))
   refine Cc Z (sg0 Z Z Z Z (sg0 Z Z Z Z (sg0 Z Z Z Z (sg0 Z Z Z Z (Cb (bh Z Z) (Cc Z (sg0 Z Z Z Z (sg0 Z Z Z Z (sg0 Z Z Z Z ?_)))))))))
   refine sg0 Z Z Z Z (sg0 Z Z Z Z (Cb (bh Z Z) (Cf (aa (aM Z (ae (ai (Cd Z (Cf ?_)))))))))
   refine aa (aG (aJ (bp (aJ (aJ (bp (aJ ?_)))))))
   refine aV Tryz.results83 (.tmp Z A)
  ·rw [if_neg c1] at hv
   cases c2:bg (l.getD i (0,0)).1
   ·rw [if_pos c2] at hv
    rw [← hv]
    rw [c2] at hpr
    refine ae (ai (Cb (sT X (bD Z Z)) (Cf (aa (ae (aM Z (ay (aa (ae ?_)))))))))
    refine aw (ae (ai (Cb (aI Z Z X) (Cb (aY Z) ?_))))
    refine bZ (T:=50) Z Z Z (fun b5 => ?_)
    refine bX 0 Z Z Z Z (Cf (aa (ae (ae (ai (Cc Z (Cb (aj Z) (Cb (am 0 Z Z Z) (Cb (sF (by assumption) (ky 1 Z Z Z)) ?_)))))))))
    refine Cc Z (Ce (aj Z) (Ce (am 0 Z Z Z) ?_))
    refine Ce (ao (hpr) Z ⟨A,Cg⟩) ?_
    refine Ce (c8 Z) (Cb (bT Z Z) (Cc Z (sg0 Z Z Z Z (sg0 Z Z Z Z (sg0 Z Z Z Z (sg0 Z Z Z Z (sg0 Z Z Z Z (Cb (bh Z Z) (Cf ?_)))))))))
    refine aa (aM Z (ae (ai (Cd Z (Cf (aa (aG (aJ (bp ?_)))))))))
    refine aJ (aJ (bp (aJ ?_)))
    refine aV Tryz.results83 (.tmp Z A)
   ·rw [if_neg (by rw [c2]; decide)] at hv
    rw [c2] at hpr
    by_cases c3:(l.getD i (0,0)).1≤(l.getD i (0,0)).2
    ·rw [if_pos c3] at hv
     rw [← hv]
     refine ae (ai (Cb (sT X (bD Z Z)) (Cf (aa (ae (aM Z (ay (aa (ae ?_)))))))))
     refine aw (ae (ai (Cb (aI Z Z X) (Cb (aY Z) ?_))))
     refine bZ (T:=50) Z Z Z (fun b5 => ?_)
     refine bX 0 Z Z Z Z (Cf (aa (ae (ae (ai (Cc Z (Cb (aj Z) (Cb (am 0 Z Z Z) (Cb (sF (by assumption) (ky 1 Z Z Z)) ?_)))))))))
     refine Cc Z (Ce (aj Z) (Ce (am 0 Z Z Z) ?_))
     refine Ce (ao (hpr) Z ⟨A,Cg⟩) ?_
     refine Ce (c8 Z) (Cb (bT Z Z) (Cc Z (Ce (aj Z) (Ce (am 0 Z Z Z) (Ce (aj Z) (Ce (am 0 Z Z Z) (Ce (sT X (eR Z Z)) (Cb (bT Z Z) (Cf ?_)))))))))
     refine aa (aM Z (ae (ai (Cd Z (Cf (aa (aG (aJ (bp ?_)))))))))
     refine aJ (aJ (bp (aJ ?_)))
     refine aV Tryz.results83 (.tmp Z A)
    ·rw [if_neg c3] at hv
     refine ae (ai (Cb (sT X (bD Z Z)) (Cf (aa (ae (aM Z (ay (aa (ae ?_)))))))))
     refine aw (ae (ai (Cb (aI Z Z X) (Cb (aY Z) ?_))))
     refine bZ (T:=50) Z Z Z (fun b5 => ?_)
     refine bX 0 Z Z Z Z (Cf (aa (ae (ae (ai (Cc Z (Cb (aj Z) (Cb (am 0 Z Z Z) (Cb (sF (by assumption) (ky 1 Z Z Z)) ?_)))))))))
     refine Cc Z (Ce (aj Z) (Ce (am 0 Z Z Z) ?_))
     refine Ce (ao (hpr) Z ⟨A,Cg⟩) ?_
     refine Ce (c8 Z) (Cb (bT Z Z) (Cc Z (Ce (aj Z) (Ce (am 0 Z Z Z) (Ce (aj Z) (Ce (am 0 Z Z Z) (Ce (sF X (eR Z Z)) (Cb (bT Z Z) (Cf ?_)))))))))
     refine aa (aD Z (ay (aa (ai (Cc Z (Cb (aj Z) (Cb (am 0 Z Z Z) ?_)))))))
     (refine qm 1 Z Z Z Z ?_ Z ?_;assumption)
     refine Cf (aK (aa (ai (Cb (bU _ 1 Z Z X) (Cc Z (Cf ?_))))))
     refine aX (i+1) (⟨by omega,hv⟩) X BX (.drop (.keep (AK (lr hc)) (.nil)))
 ·have hl:i=l.length:=by omega
  rw [hl,List.drop_length] at hv
  rw [← hv]
  refine ae (ai (Cb (sF X (bD Z Z)) (Cf (aa (ae (aD Z (a8 (ax (ax ?_)))))))))
  refine aL (aa (ae (ai (Cd Z (Cf (aa (aG ?_)))))))
  refine aV Tryz.results83 (.tmp Z A)
end Tor
end
section
namespace Tor
open Go Go.RowKit Go.Proofs
variable [Tor.Co.Kc]
def iJ (l:List (Nat × Nat)):Nat:=l.foldl (fun m p=>m*p.1) 1
def nA (p a:Nat):Nat:=if a=0 then 0 else a^(p - 2) % p
def sc (s p:Nat × Nat):Nat:=((p.2+p.1 - s.1 % p.1) % p.1)*nA p.1 (s.2 % p.1) % p.1
def gP (s p:Nat × Nat):Nat × Nat:=(s.1+s.2*sc s p,s.2*p.1)
def cN (l:List (Nat × Nat)):Nat × Nat:=l.foldl gP (0,1)
def mX (l:List (Nat × Nat)):Int:=if (cN l).2<(cN l).1+(cN l).1 then ((cN l).1:Int) - ((cN l).2:Int) else ((cN l).1:Int)
theorem gE {α β:Type} (f:β→α→β) (b:β) {l:List α} (d:α) {i:Nat} (h:i<l.length):(l.take (i+1)).foldl f b=f ((l.take i).foldl f b) (l.getD i d):=by
 rw [mW d h,List.foldl_append]; rfl
theorem wW {m p i k:Nat} (hm:m≤2^(k*i)) (hp:p<2^k):m*p≤2^(k*(i+1)):=by
 rw [Nat.mul_add,Nat.pow_add,Nat.mul_one]
 exact Nat.mul_le_mul hm (Nat.le_of_lt hp)
def Bv (p:Nat × Nat):Prop:=bg p.1=true∧2≤p.1∧p.1<2147483648∧p.2<p.1
theorem u5 {n:Nat} (h:bg n=true):2≤n∧n<2147483648:=by
 unfold bg at h
 by_cases c:n<2∨2147483648≤n
 ·rw [if_pos c] at h;cases h
 ·omega
theorem i9 : ∀ {l:List (Nat × Nat)} {s:List Nat},dV s l=true → ∀ p∈l,Bv p
 | [], _, _, p, hp => by cases hp
 | q :: r, s, h, p, hp => by
  rw [dV] at h
  split at h
  ·cases h
  split at h
  ·cases h
  split at h
  ·cases h
  rename_i h1 h2 h3
  rcases List.mem_cons.1 hp with rfl | hp
  ·have hb:bg p.1=true:=by cases hx:bg p.1 <;> simp_all
   obtain ⟨k1,k2⟩:=u5 hb
   exact ⟨hb,k1,k2,by omega⟩
  ·exact i9 h p hp
theorem n8 {l:List (Nat × Nat)} {i:Nat} (h:i<l.length):l.getD i (0,0)∈l:=by
 rw [show l.getD i (0,0)=l[i] by simp [List.getD,h]]; exact List.getElem_mem h
theorem tX {s p:Nat × Nat} (h:2≤p.1):sc s p<p.1:=Nat.mod_lt _ X
theorem kM {l:List (Nat × Nat)} (h : ∀ p∈l,Bv p) : ∀ i,i≤l.length→(cN (l.take i)).1<(cN (l.take i)).2∧(cN (l.take i)).2≤2^(31*i)
 | 0, _ => ⟨Nat.zero_lt_one, Nat.le_refl _⟩
 | i + 1, hi => by
  unfold cN
  rw [gE _ _ (0,0) hi]
  obtain ⟨k1,k2⟩:=kM h i X
  obtain ⟨_,g1,g2,g3⟩:=h _ (n8 hi)
  have ht:=tX (s:=cN (l.take i)) g1
  unfold cN at *
  generalize (l.take i).foldl gP (0,1)=s at *
  generalize l.getD i (0,0)=p at *
  unfold gP
  refine ⟨?_,wW k2 g2⟩
  show s.1+s.2*sc s p<s.2*p.1
  have:=Nat.mul_le_mul_left s.2 (Nat.succ_le_of_lt ht)
  rw [Nat.mul_succ] at this
  omega
theorem ib {m n:Nat} (h:m≤2^n) (hn:n<2048):cf (m:Int):=dD (by
 rw [Int.natAbs_natCast]
 exact Nat.lt_of_le_of_lt h (Nat.pow_lt_pow_right (a:=2) (m:=n) (n:=2048) U hn))
theorem pg {a b a' b':VT} (h:VT.le a a') (h':VT.le b b'):VT.le (bw [a,b]) (bw [a',b']):=fun v g ⟨vs,e,hp⟩=>⟨vs,e,by
 match vs,hp with
 | [x, y], ⟨h1, h2, _⟩ => exact ⟨h _ _ h1, h' _ _ h2, trivial⟩⟩
theorem ph {b:Nat} {T:TypeId} {m:Nat} {x y:Int} (h:x=y):Own.le (aT b T m [(0, .agg 2,aU x)]) (aT b T m [(0, .agg 2,aU y)]):=h▸Own.le_refl _
attribute [local irreducible] J PJ aC one slT bL bE bw exT cj eP aT aH slV VT.le Ret bQ dz ed
theorem Bw (l:List (Nat × Nat)) (i:Nat) (hi:i<l.length):Ok Tryz.prog 85 [ia l,one (.int .i64 (i:Nat))] (jD (l.getD i (0,0))):=by
 unfold ia
 refine Ok.enter Tryz.func85 Z Tryz.ntmps85 Z (fun w O => ?_)
 refine ae (ai ?_)
 refine bZ (T:=50) Z Z Z (fun b4 => ?_)
 refine Cf (aa (ae (ai (Cc Z (Cc Z (Cb (aI Z Z X) (Cb (aY Z) (bX 0 Z Z Z Z (Cf ?_)))))))))
 refine aa (aG ?_)
 refine aV Tryz.results85 (.cellW 0 Z Z A)
theorem wX (p:Nat):Ok Tryz.prog 75 [one (.int .u64 (p:Int)),one (.int .u64 0)] (bw [one (.int .u64 0),one (.int .i64 30)]):=by
 refine Ok.enter Tryz.func75 Z Tryz.ntmps75 Z (fun w O => ?_)
 refine ae (ai (Cd Z (Cd Z (Cf (aa (ae (ae (ai (Cc Z ?_)))))))))
 refine Cb (sT X (cQ Z Z)) (Cf (aa (aM Z (ae (ai (Cd Z (Cd Z (Cf (aa ?_)))))))))
 refine aG (aJ ?_)
 refine db Tryz.results75 (.tmp Z A) (.tmp Z A)
theorem wY (p a:Nat) (hp2:2≤p) (hp:p<4294967296) (ha:a<p):Ok Tryz.prog 75 [one (.int .u64 p),one (.int .u64 a)] (bw [one (.int .u64 (nA p a:Nat)),bQ]):=by
 unfold nA
 by_cases h:a=0
 ·rw [if_pos h,h]; exact (wX p).le (gl _) (pg A (o5 _))
 ·rw [if_neg h]; exact (tV p a hp2 hp h ha).le (gl _) (pg A (o5 _))
theorem qP (l:List (Nat × Nat)) (h64:mV l) (hv:dV [] l=false):Ok Tryz.prog 58 [ia l] (bw [aU 0,one (.int .i64 40)]):=by
 have hva:=n7 l h64
 rw [hv] at hva
 refine Ok.enter Tryz.func58 Z Tryz.ntmps58 Z (fun w O => ?_)
 refine ae (ai ?_)
 refine aN (T:=28) Z (ltN Z) (fun b2 => ?_)
 refine Cd Z (Cf (aa (ae (ae (ai (Cc Z ?_))))))
 refine Cb (ao (hva) Z ⟨A,Cg⟩) ?_
 refine Cb (c8 Z) (Cf (aa (aM Z (ae (ai (stB Z Z Z (BuildK.nil (az 0 Z Z Z Z Z (leN Z) Z (Cd Z ?_)))))))))
 refine Cf (aa (aG (aJ ?_)))
 refine db Tryz.results58 (.cellB 0 Z Z Z (ln)) (.tmp Z A)
theorem mY (l:List (Nat × Nat)) (h64:mV l) (hl:l.length≤16) (hv:dV [] l=true):Ok Tryz.prog 58 [ia l] (bw [aU (mX l),one (.int .i64 0)]):=by
 have hva:=n7 l h64
 rw [hv] at hva
 have hg:=i9 hv
 have h0:=iH 0 U U
 have h1:=iH 1 U U
 refine Ok.enter Tryz.func58 Z Tryz.ntmps58 Z (fun w O => ?_)
 refine ae (ai ?_)
 refine aN (T:=28) Z (ltN Z) (fun b2 => ?_)
 refine Cd Z (Cf (aa (ae (ae (ai (Cc Z ?_))))))
 refine Cb (ao (hva) Z ⟨A,Cg⟩) ?_
 refine Cb (c8 Z) (Cf (aa (aD Z (ay (aa (ae (ai ?_)))))))
 refine Cb (ao (h0) Z ⟨A,Cg⟩) ?_
 refine Cb (ao (h1) Z ⟨A,Cg⟩) ?_
 refine aN (T:=28) Z (ltN Z) (fun b4 => ?_)
 refine aN (T:=28) Z (ltN Z) (fun b5 => ?_)
 refine az 1 Z Z Z Z Z (leN Z) Z (az 0 Z Z Z Z Z (leN Z) Z (Cf (aa (ae (ai (Cc Z (Cb (r6 Z) (Cd Z (Cf ?_)))))))))
 refine aa (ae (ae (ai (Cc Z (Cb (a9 Z) (Cc Z (Cf (aa (aw ?_)))))))))
 refine cv (Γ' := [(2,_),(3,_),(4,_),(5,_),(6,_),(22,_),(23,_)]) BW (SubM.refl _) ?_
 refine bO (σ:=Nat) (Γk := [(2,_),(3,_),(4,_),(5,_),(6,_),(22,_)]) BW (fun i => [(23,one (.int .i64 (i:Nat)))]) (fun i M0=>((M0.set 0 (aT b5 28 (Lay.agg 2).sz [(0,Lay.agg 2,aU ((cN (l.take i)).2:Nat))])).set 1 (aT b4 28 (Lay.agg 2).sz [(0,Lay.agg 2,aU ((cN (l.take i)).1:Nat))]))) (fun i=>i≤l.length) (fun i=>l.length - i) (0) (Nat.zero_le _) BX (.keep Ca (.keep Ca (.keep Ca (.nil)))) (fun i hi => ?_)
 refine cg (Γ' := [(23,_),(2,_),(3,_),(4,_),(5,_),(6,_),(22,_)]) (M' := [_,_,_]) Z Z ?_
 obtain ⟨k1,k2⟩:=kM hg i hi
 have sm2:=ib k2 X
 have sm1:=ib (m:=(cN (l.take i)).1) (Nat.le_trans (Nat.le_of_lt k1) k2) X
 by_cases hc:i<l.length
 ·obtain ⟨_,g1,g2,g3⟩:=hg _ (n8 hc)
  obtain ⟨k3,k4⟩:=kM hg (i+1) hc
  have hat:=Bw l i hc
  have hstep:cN (l.take (i+1))=gP (cN (l.take i)) (l.getD i (0,0)):=by unfold cN;rw [gE _ _ (0,0) hc]
  have ht:=tX (s:=cN (l.take i)) g1
  have hmT:sc (cN (l.take i)) (l.getD i (0,0))=(((l.getD i (0,0)).2+(l.getD i (0,0)).1 - (cN (l.take i)).1 % (l.getD i (0,0)).1) % (l.getD i (0,0)).1)*nA (l.getD i (0,0)).1 ((cN (l.take i)).2 % (l.getD i (0,0)).1) % (l.getD i (0,0)).1:=rfl
  unfold jD at hat
  rw [hstep] at k3 k4
  unfold gP at k3 k4 hstep
  dsimp only at k3 k4
  generalize (l.getD i (0,0)).1=p at *
  generalize (l.getD i (0,0)).2=v at *
  have hr2:=jY p ((cN (l.take i)).2:Int) X X sm2
  have hr1:=jY p ((cN (l.take i)).1:Int) X X sm1
  rw [← Int.natCast_emod,Int.toNat_natCast] at hr1 hr2
  have l1:=Nat.mod_lt (cN (l.take i)).1 (show 0<p by omega)
  have l2:=Nat.mod_lt (cN (l.take i)).2 (show 0<p by omega)
  have hin:=wY p _ g1 X l2
  have hsb:=pc p v _ X X X (show (cN (l.take i)).1 % p≤v+p by omega)
  have l3:=Nat.mod_lt (v+p - (cN (l.take i)).1 % p) (show 0<p by omega)
  have l4:nA p ((cN (l.take i)).2 % p)<p:=by unfold nA;split;omega;exact Nat.mod_lt _ X
  have hmu:=gb p _ _ X X (show (v+p - (cN (l.take i)).1 % p) % p<4294967296 by omega) (show nA p ((cN (l.take i)).2 % p)<4294967296 by omega)
  rw [← hmT] at hmu
  generalize sc (cN (l.take i)) (l.getD i (0,0))=t at *
  have hwt:=qN t X
  have hwp:=qN p X
  have smt:=ib (m:=t) (n:=64) X U
  have smp:=ib (m:=p) (n:=64) X U
  have hM1:=f7 _ _ sm2 smt
  have hM2:=f7 _ _ sm2 smp
  rw [← Int.natCast_mul] at hM1 hM2
  have k5:(cN (l.take i)).2*t≤2^(31*(i+1)):=by omega
  have hA:=fZ _ _ sm1 (ib k5 X)
  rw [← Int.natCast_add] at hA
  refine ae (ai (Cb (sT X (bD Z Z)) (Cf (aa (ae (aM Z (ay (aa (ae ?_)))))))))
  refine aw (ae (ai (Cc Z (Cd Z (Cf (aa (ae (ai (Cc Z ?_)))))))))
  refine Cc Z ?_
  refine Cb (ql Z (hat) Z ⟨A,A,Cg⟩) ?_
  refine Cb (th Z Z) (Cc Z (Cc Z ?_))
  refine Cb (ql Z (hat) Z ⟨A,A,Cg⟩) ?_
  refine Cb (th Z Z) (Cd Z (Cd Z (Cf (aa (ae (ai (Cc Z (Cc Z (Cb (am 0 Z Z Z) ?_)))))))))
  refine Cb (ao (hr2) Z ⟨A,A,Cg⟩) ?_
  refine Cb (ao (hin) Z ⟨A,A,Cg⟩) ?_
  refine Cc Z (Cb (aA Z Z) (Cb (aA Z Z) (Cd Z (Cd Z (Cf (aa (ae (ai (Cc Z ?_)))))))))
  refine Cc Z (Cc Z (Cc Z (Cb (am 1 Z Z Z) ?_)))
  refine Cb (ao (hr1) Z ⟨A,A,Cg⟩) ?_
  refine Cb (ao (hsb) Z ⟨A,A,A,Cg⟩) ?_
  refine Cc Z ?_
  refine Cb (ao (hmu) Z ⟨A,A,A,Cg⟩) ?_
  refine Cd Z (Cf (aa (ae (bG 6 bH Y U (Cb (am 1 Z Z Z) (Cb (am 0 Z Z Z) (Cc Z ?_)))))))
  refine Cb (ao (hwt) Z ⟨A,Cg⟩) ?_
  refine Cb (ao (hM1) Z ⟨A,A,Cg⟩) ?_
  refine Cb (ao (hA) Z ⟨A,A,Cg⟩) ?_
  refine Cf (az 1 Z Z Z Z Z (leN Z) Z (Cf (aa (bG 4 bH Y U (Cb (am 0 Z Z Z) (Cc Z ?_))))))
  refine Cb (ao (hwp) Z ⟨A,Cg⟩) ?_
  refine Cb (ao (hM2) Z ⟨A,A,Cg⟩) ?_
  refine Cf (az 0 Z Z Z Z Z (leN Z) Z (Cf (aK (aa (ai (Cb (bU _ 1 Z Z X) (Cc Z (Cf ?_))))))))
  refine aX (i+1) (hc) X BX (.keep (ph (by rw [hstep])) (.keep (ph (by rw [hstep])) (.keep Ca (.nil))))
 ·have he:i=l.length:=by omega
  have e0:l.take i=l:=by rw [he,List.take_length]
  rw [e0] at sm1 sm2 ⊢
  rw [he]
  unfold mX
  have hcm:=jt (((cN l).1+(cN l).1:Nat):Int) ((cN l).2:Int)
  have hA:=fZ _ _ sm1 sm1
  rw [← Int.natCast_add] at hA
  have hS:=yM _ _ sm1 sm2
  by_cases c:(cN l).2<(cN l).1+(cN l).1
  ·have hcc:0<c4 (((cN l).1+(cN l).1:Nat):Int) ((cN l).2:Int):=by unfold c4;rw [if_neg X,if_pos X]; decide
   rw [if_pos c]
   refine ae (ai (Cb (sF X (bD Z Z)) (Cf (aa (ae (aD Z (a8 (ax (ax ?_)))))))))
   refine aL (aa (ae (ae (bG 6 bH Y U (Cb (am 1 Z Z Z) (Cb (am 1 Z Z Z) ?_))))))
   refine Cb (ao (hA) Z ⟨A,A,Cg⟩) ?_
   refine Cb (am 0 Z Z Z) ?_
   refine Cb (ao (hcm) Z ⟨A,A,Cg⟩) ?_
   refine Cb (sT (by assumption) (dx Z Z)) (Cf (Cf (aa (aM Z (ai (Cb (am 1 Z Z Z) (Cb (am 0 Z Z Z) ?_)))))))
   refine Cb (ao (hS) Z ⟨A,A,Cg⟩) ?_
   refine az 1 Z Z Z Z Z (leN Z) Z (Cf (aa (ae (ai (Cb (am 1 Z Z Z) (az 2 Z Z Z Z Z (leN Z) Z (Cd Z (Cf (aa ?_)))))))))
   refine aG ?_
   refine db Tryz.results58 (.cellB 2 Z Z Z A) (.tmp Z A)
  ·have hcc : ¬ 0<c4 (((cN l).1+(cN l).1:Nat):Int) ((cN l).2:Int):=by unfold c4;split <;> (try split) <;> omega
   rw [if_neg c]
   refine ae (ai (Cb (sF X (bD Z Z)) (Cf (aa (ae (aD Z (a8 (ax (ax ?_)))))))))
   refine aL (aa (ae (ae (bG 6 bH Y U (Cb (am 1 Z Z Z) (Cb (am 1 Z Z Z) ?_))))))
   refine Cb (ao (hA) Z ⟨A,A,Cg⟩) ?_
   refine Cb (am 0 Z Z Z) ?_
   refine Cb (ao (hcm) Z ⟨A,A,Cg⟩) ?_
   refine Cb (sF (by assumption) (dx Z Z)) (Cf (Cf (aa (aD Z (ay (aa (ae (ai (Cb (am 1 Z Z Z) ?_)))))))))
   refine az 2 Z Z Z Z Z (leN Z) Z (Cd Z (Cf (aa (aG ?_))))
   refine db Tryz.results58 (.cellB 2 Z Z Z A) (.tmp Z A)
end Tor
end
section
namespace Tor
open Go Go.RowKit Go.Proofs
variable [Tor.Co.Kc]
section
variable {P:Program} {E:Env} {Γ:Ctx} {M:Mem} {d:Option Tmp} {ty:TypeId} {pos:String} {af:Array Edge} {gd:Option (Nat × Bool)}
end
attribute [local irreducible] J PJ aC one slT bL bE bw exT cj eP aT aH slV VT.le Ret bQ
theorem u6 {v:Nat} {n:Nat} (h:(aQ v).length=n+1):v=lv ((aQ v).take n)+4294967296^n*(aQ v).getD n 0∧lv ((aQ v).take n)<4294967296^n:=by
 have h1:=bF (l:=aQ v) (k:=n) X
 rw [List.take_of_length_le X,bR] at h1
 exact ⟨h1,by have:=jX (a7 v) n;rwa [← qF] at this⟩
end Tor
end
section
namespace Tor
open Go Go.RowKit Go.Proofs
variable [Tor.Co.Kc]
attribute [local irreducible] J PJ aC one slT bL bE bw exT cj eP aT aH slV VT.le Ret bQ
theorem wZ {b:Nat} (hb:b≠0):0<(aQ b).getD ((aQ b).length - 1) 0:=by
 have hdl:(aQ b).length≠0:=fun k=>hb (gD k)
 obtain ⟨m,hm⟩ : ∃ m,(aQ b).length=m+1:=⟨(aQ b).length - 1,by omega⟩
 obtain ⟨d1,d2⟩:=u6 hm
 rw [hm,Nat.add_sub_cancel]
 rcases Nat.eq_zero_or_pos ((aQ b).getD m 0) with h | h
 ·rw [h,Nat.mul_zero,Nat.add_zero] at d1
  have:=dm (n:=b) (k:=m) (by rw [d1]; exact d2)
  omega
 ·exact h
end Tor
end
section
namespace Tor
open Go Go.RowKit Go.Proofs
variable [Tor.Co.Kc]
attribute [local irreducible] J PJ aC one slT bL bE bw exT cj eP aT aH slV VT.le Ret bQ dz ed
theorem se (x:Int) (hx:cf x):Ok Tryz.prog 46 [aU x] (one (.bool true)):=by
 have hx':(aQ x.natAbs).length≤1099511627776:=hx
 have h:=uR (decide (x<0)) (aQ x.natAbs) X
 have e:fm (decide (x<0)) (aQ x.natAbs)=true:=by
  unfold fm
  by_cases h0:(aQ x.natAbs).length=0
  ·have:=gD h0
   rw [if_pos h0,decide_eq_false X]; rfl
  ·rw [if_neg h0]
   have h1:x.natAbs≠0:=fun k=>h0 (by rw [k]; rfl)
   have:=wZ h1
   exact decide_eq_true X
 rw [e] at h
 exact h
end Tor
end
section
namespace Tor
def n9 (n:Nat):Prop := ∀ d,2≤d→d*d≤n→n % d≠0
def lz (n:Nat):Nat→Nat→Bool
 | 0, d => Nat.ble (n + 1) (d * d) || !(Nat.beq (n % d) 0)
 | k + 1, d => lz n k d && lz n k (d + 2 ^ k)
theorem lA {n:Nat} : ∀ {k d:Nat},lz n k d=true → ∀ e,d≤e→e<d+2^k→e*e≤n→n % e≠0
 | 0, d, h, e, h1, h2, h3 => by
  have:e=d:=by simp at h2;omega
  subst this
  simp only [lz,Bool.or_eq_true,Bool.not_eq_true'] at h
  rcases h with h | h
  ·have:=Nat.le_of_ble_eq_true h;omega
  ·intro hz;rw [hz] at h;cases h
 | k + 1, d, h, e, h1, h2, h3 => by
  simp only [lz,Bool.and_eq_true] at h
  rw [Nat.pow_succ] at h2
  rcases Nat.lt_or_ge e (d+2^k) with hl | hl
  ·exact lA h.1 e h1 hl h3
  ·exact lA h.2 e hl X h3
theorem w5 {n k:Nat} (h:lz n k 2=true) (hn:n<(2+2^k)*(2+2^k)):n9 n:=fun d h1 h2=>by
 rcases Nat.lt_or_ge d (2+2^k) with hl | hl
 ·exact lA h d h1 hl h2
 ·have:=Nat.mul_le_mul hl hl;omega
def iK (p:Nat→Bool):Nat→Nat
 | 0 => 0
 | m + 1 => if p m then m else iK p m
theorem kN (p:Nat→Bool) : ∀ m,iK p m≤m - 1
 | 0 => Nat.le_refl _
 | m + 1 => by
  have:=kN p m
  show (if p m then m else iK p m)≤m
  split <;> omega
noncomputable def sf (m:Nat):Bool := @decide (2≤m∧m<2147483648∧n9 m) (Classical.propDecidable _)
theorem sg {m:Nat} : sf m=true↔2≤m∧m<2147483648∧n9 m := @decide_eq_true_iff _ (Classical.propDecidable _)
abbrev bf (p:Nat→Bool) (n:Nat):Nat:=iK p (min n 2147483648)
def ndL (p:Nat→Bool) (B:Int):Nat→Nat→Nat→Option (List Nat)
 | 0, _, _ => none
 | f + 1, pr, q => if B < (pr : Int) then some [] else if bf p q = 0 then none else (ndL p B f (pr * bf p q) (bf p q)).map (bf p q :: ·)
end Tor
end
section
namespace Tor
open Go Go.RowKit Go.Proofs
variable [Tor.Co.Kc]
theorem u7 {l:List (Nat × Nat)} {i:Nat} (h:i<l.length):l.getD i (0,0)∈l:=by
 rw [show l.getD i (0,0)=l[i] by simp [List.getD,h]]; exact List.getElem_mem h
theorem sh {l:List (Nat × Nat)} {i:Nat} (hi:i<l.length):(kL l (i+1)).Nodup↔(kL l i).Nodup∧(l.getD i (0,0)).1 ∉ kL l i:=by
 rw [lr hi,List.nodup_append]
 constructor
 ·rintro ⟨h1,_,h2⟩
  exact ⟨h1,fun h=>h2 _ h _ (List.mem_singleton.2 Z) Z⟩
 ·rintro ⟨h1,h2⟩
  exact ⟨h1,by simp,fun a ha b hb e=>h2 (by rw [← List.mem_singleton.1 hb, ← e]; exact ha)⟩
theorem u9 {l:List (Nat × Nat)} {i:Nat} (h:(l.map (·.1)).Nodup):(kL l i).Nodup:=by
 unfold kL;rw [List.map_take]; exact List.Sublist.nodup (List.take_sublist _ _) h
attribute [local irreducible] J PJ aC one slT bL bE bw exT cj eP aT aH slV VT.le Ret bQ dz ed
end Tor
end
section
namespace Tor.Lin
def chN:Nat→Nat→Nat
 | _, 0 => 1
 | 0, _ + 1 => 0
 | n + 1, k + 1 => chN n k + chN n (k + 1)
theorem kO (n:Nat):chN n 0=1:=by cases n <;> rfl
theorem jv : ∀ {n k:Nat},n<k→chN n k=0
 | 0, _ + 1, _ => rfl
 | n + 1, k + 1, h => by rw [chN, jv (n := n) (k := k) X, jv (n := n) (k := k + 1) X]
theorem qQ : ∀ n,chN n n=1
 | 0 => rfl
 | n + 1 => by rw [chN, qQ n, jv (Nat.lt_succ_self n)]
theorem iw : ∀ n k,(k+1)*chN (n+1) (k+1)=(n+1)*chN n k
 | 0, 0 => rfl
 | 0, k + 1 => by rw [jv (n := 0 + 1) (k := k + 1 + 1) X, jv (n := 0) (k := k + 1) X]; simp
 | n + 1, 0 => by
  have:=iw n 0
  rw [kO] at this ⊢
  rw [chN,kO]
  omega
 | n + 1, k + 1 => by
  have h1:=iw n k
  have h2:=iw n (k+1)
  rw [show chN (n+2) (k+2)=chN (n+1) (k+1)+chN (n+1) (k+2) from rfl,Nat.mul_add,h2]
  rw [show (k+1+1)*chN (n+1) (k+1)=(k+1)*chN (n+1) (k+1)+chN (n+1) (k+1) from Nat.succ_mul _ _,h1]
  rw [show (n+1+1)*chN (n+1) (k+1)=(n+1)*chN (n+1) (k+1)+chN (n+1) (k+1) from Nat.succ_mul _ _]
  rw [show chN (n+1) (k+1)=chN n k+chN n (k+1) from rfl,Nat.mul_add]
  omega
def ix (n x:Nat):Nat→Nat
 | 0 => 0
 | m + 1 => ix n x m + chN n m * x ^ m
theorem oa (n x:Nat) : ∀ m,ix (n+1) x (m+1)=x*ix n x m+ix n x (m+1)
 | 0 => by simp [ix, kO]
 | m + 1 => by
  have:=oa n x m
  rw [ix,this]
  rw [show ix n x (m+1+1)=ix n x (m+1)+chN n (m+1)*x^(m+1) from rfl,show chN (n+1) (m+1)=chN n m+chN n (m+1) from rfl]
  rw [show x*ix n x (m+1)=x*ix n x m+x*(chN n m*x^m) from Nat.mul_add _ _ _,Nat.add_mul]
  rw [show x*(chN n m*x^m)=chN n m*x^(m+1) by rw [Nat.pow_succ,Nat.mul_left_comm,Nat.mul_comm x]]
  omega
theorem w6 (n x:Nat):ix n x (n+2)=ix n x (n+1):=by
 rw [ix,jv X]; simp
theorem qR (x:Nat) : ∀ n,ix n x (n+1)=(x+1)^n
 | 0 => by simp [ix, chN]
 | n + 1 => by
  rw [oa,w6,qR x n,Nat.pow_succ,Nat.mul_comm ((x+1)^n),Nat.add_mul,Nat.one_mul]
def Pr (p:Nat):Prop:=2≤p ∧ ∀ d,d∣p→d=1∨d=p
theorem Pr.coprime {p a:Nat} (hp:Pr p) (h : ¬ p∣a):Nat.Coprime p a:=by
 rcases hp.2 _ (Nat.gcd_dvd_left p a) with h1 | h1
 ·exact h1
 ·exact absurd (h1▸Nat.gcd_dvd_right p a) h
theorem Pr.mul {p a b:Nat} (hp:Pr p) (h:p∣a*b):p∣a∨p∣b:=by
 by_cases ha:p∣a
 ·exact .inl ha
 ·exact .inr ((hp.coprime ha).dvd_of_dvd_mul_left h)
theorem Pr.of_trial {p:Nat} (h2:2≤p) (ht:n9 p):Pr p:=by
 refine ⟨h2,fun d hd => ?_⟩
 obtain ⟨e,he⟩:=hd
 have hd0:0<d:=Nat.pos_of_ne_zero fun h=>by rw [h,Nat.zero_mul] at he;omega
 have he0:0<e:=Nat.pos_of_ne_zero fun h=>by rw [h,Nat.mul_zero] at he;omega
 by_cases h1:d=1
 ·exact .inl h1
 by_cases h3:e=1
 ·exact .inr (by rw [he,h3,Nat.mul_one])
 exfalso
 rcases Nat.le_total d e with hle | hle
 ·exact ht d X (by rw [he]; exact Nat.mul_le_mul_left d hle) (by rw [he]; exact Nat.mul_mod_right d e)
 ·exact ht e X (by rw [he]; exact Nat.mul_le_mul_right e hle) (by rw [he]; exact Nat.mul_mod_left d e)
theorem Pr.choose {p k:Nat} (hp:Pr p) (h0:0<k) (hk:k<p):p∣chN p k:=by
 obtain ⟨q,rfl⟩ : ∃ q,p=q+1:=⟨p - 1,by have:=hp.1;omega⟩
 obtain ⟨j,rfl⟩ : ∃ j,k=j+1:=⟨k - 1,by omega⟩
 have h:=iw q j
 rcases hp.mul (a:=j+1) (b:=chN (q+1) (j+1)) (h▸Nat.dvd_mul_right _ _) with h1 | h1
 ·exact absurd (Nat.le_of_dvd X h1) X
 ·exact h1
theorem Pr.bin {p:Nat} (hp:Pr p) (x:Nat) : ∀ m,m<p → ∃ t,ix p x (m+1)=1+p*t
 | 0, _ => ⟨0, by simp [ix, kO]⟩
 | m + 1, h => by
  obtain ⟨t,ht⟩:=Pr.bin hp x m X
  obtain ⟨c,hc⟩:=hp.choose (k:=m+1) X h
  exact ⟨t+c*x^(m+1),by rw [ix,ht,hc,Nat.mul_add,Nat.mul_assoc]; omega⟩
theorem Pr.frob {p:Nat} (hp:Pr p) (x:Nat) : ∃ t,(x+1)^p=x^p+1+p*t:=by
 obtain ⟨t,ht⟩:=hp.bin x (p - 1) (by have:=hp.1;omega)
 refine ⟨t,?_⟩
 rw [show p - 1+1=p by have:=hp.1;omega] at ht
 rw [← qR,ix,ht,qQ]; omega
theorem Pr.fermat {p:Nat} (hp:Pr p) : ∀ x,x^p % p=x % p
 | 0 => by rw [Nat.zero_pow (by have := hp.1; omega)]
 | x + 1 => by
  obtain ⟨t,ht⟩:=hp.frob x
  rw [ht,Nat.add_mul_mod_self_left,Nat.add_mod,Pr.fermat hp x, ← Nat.add_mod]
theorem Pr.inverse {p a:Nat} (hp:Pr p) (h : ¬ p∣a):a*a^(p - 2) % p=1:=by
 have h2:=hp.1
 have hf:=hp.fermat a
 have e:a^p=a*(a*a^(p - 2)):=by
  rw [← Nat.mul_assoc, ← Nat.pow_two, ← Nat.pow_add]; congr 1;omega
 rw [e] at hf
 have hd:(p:Int)∣(a:Int)*((a*a^(p - 2):Nat) - 1:Int):=by
  rw [Int.mul_sub,Int.mul_one, ← Int.natCast_mul]
  exact Int.dvd_of_emod_eq_zero (Int.emod_eq_emod_iff_emod_sub_eq_zero.1 (by exact_mod_cast hf))
 have hx:1≤a*a^(p - 2):=by
  have ha:0<a:=Nat.pos_of_ne_zero fun e=>h (e▸Nat.dvd_zero p)
  exact Nat.mul_pos ha (Nat.pow_pos ha)
 have hd:p∣a*(a*a^(p - 2) - 1):=by
  rw [show ((a*a^(p - 2):Nat) - 1:Int)=((a*a^(p - 2) - 1:Nat):Int) by omega, ← Int.natCast_mul] at hd
  exact Int.natCast_dvd_natCast.1 hd
 obtain ⟨t,ht⟩:=(hp.coprime h).dvd_of_dvd_mul_left hd
 rw [show a*a^(p - 2)=1+p*t by omega,Nat.add_mul_mod_self_left]
 exact Nat.mod_eq_of_lt X
end Tor.Lin
end
section
namespace Tor
variable [Tor.Co.Kc]
/-! ### Trial division by one gcd -/
def mZ:Nat→Nat→Nat
 | 0, d => d
 | k + 1, d => mZ k d * mZ k (d + 2 ^ k)
theorem lB : ∀ {k d e:Nat},d≤e→e<d+2^k→e∣mZ k d
 | 0, d, e, h1, h2 => by
  have:e=d:=by simp at h2;omega
  subst this;exact Nat.dvd_refl _
 | k + 1, d, e, h1, h2 => by
  rw [Nat.pow_succ] at h2
  rcases Nat.lt_or_ge e (d+2^k) with hl | hl
  ·exact Nat.dvd_trans (lB h1 hl) (Nat.dvd_mul_right _ _)
  ·exact Nat.dvd_trans (lB hl X) (Nat.dvd_mul_left _ _)
theorem lC {n:Nat} : ∀ {k d:Nat},(∀ e,d≤e→e<d+2^k→Nat.Coprime n e)→Nat.Coprime n (mZ k d)
 | 0, d, h => h d (Nat.le_refl _) (by simp)
 | k + 1, d, h => by
  refine Nat.Coprime.mul_right (lC fun e h1 h2=>h e h1 ?_) (lC fun e h1 h2=>h e ?_ ?_)
  ·rw [Nat.pow_succ]; omega
  ·have:=Nat.two_pow_pos k;omega
  ·rw [Nat.pow_succ]; omega
theorem va {n d:Nat} (hT:n9 n) (h1:1≤d) (h2:d<n):Nat.Coprime n d:=by
 have hg:=Nat.gcd_dvd_left n d
 have hd:=Nat.gcd_dvd_right n d
 have hp:0<Nat.gcd n d:=Nat.gcd_pos_of_pos_right _ X
 have hle:Nat.gcd n d≤d:=Nat.le_of_dvd X hd
 show Nat.gcd n d=1
 generalize Nat.gcd n d=g at *
 rcases Nat.lt_or_ge g 2 with h | h
 ·omega
 ·exfalso
  obtain ⟨m,hm⟩:=hg
  by_cases hs:g*g≤n
  ·exact hT g h hs (by rw [hm]; exact Nat.mul_mod_right _ _)
  ·have hmg:m<g:=by
    rcases Nat.lt_or_ge m g with h' | h'
    ·exact h'
    ·have:=Nat.mul_le_mul_left g h';omega
   have hm2:2≤m:=by
    rcases Nat.lt_or_ge m 2 with h' | h'
    ·have:m=0∨m=1:=by omega
     rcases this with rfl | rfl
     ·simp at hm;omega
     ·simp at hm;omega
    ·exact h'
   refine hT m hm2 ?_ (by rw [hm,Nat.mul_comm]; exact Nat.mul_mod_right _ _)
   rw [hm]; exact Nat.mul_le_mul (Nat.le_of_lt hmg) (Nat.le_refl _)
theorem vb {n k:Nat} (h1:2+2^k≤n) (h2:n<(2+2^k)*(2+2^k)):Nat.gcd n (mZ k 2)=1↔n9 n:=by
 constructor
 ·intro h d hd hs hz
  have hlt:d<2+2^k:=by
   rcases Nat.lt_or_ge d (2+2^k) with h' | h'
   ·exact h'
   ·have:=Nat.mul_le_mul h' h';omega
  have:=Nat.dvd_gcd (Nat.dvd_of_mod_eq_zero hz) (lB hd hlt)
  rw [h] at this
  have:=Nat.le_of_dvd U this
  omega
 ·intro hT
  exact lC fun e h3 h4=>va hT X X
/-! ### The prime test, for evaluation -/
noncomputable def ve (p:Nat) (f:Nat):Nat→Nat→Nat→Nat := @Nat.rec (fun _=>Nat→Nat→Nat→Nat) (fun r _ _=>r)
 (fun _ ih r a e => @Nat.rec (fun _=>Nat) r (fun e' _ => @Bool.rec (fun _=>Nat) (ih r (Nat.mod (Nat.mul a a) p) (Nat.div (Nat.succ e') 2)) (ih (Nat.mod (Nat.mul r a) p) (Nat.mod (Nat.mul a a) p) (Nat.div (Nat.succ e') 2)) (Nat.beq (Nat.mod (Nat.succ e') 2) 1)) e) f
theorem tZ (p:Nat) : ∀ (f r a e:Nat),ve p f r a e=lp f p r a e
 | 0, _, _, _ => rfl
 | f + 1, r, a, 0 => rfl
 | f + 1, r, a, e + 1 => by
  rw [lp,if_neg X, ← tZ p f]
  show @Bool.rec (fun _=>Nat) (ve p f r (a*a % p) ((e+1) / 2)) (ve p f (r*a % p) (a*a % p) ((e+1) / 2)) (Nat.beq ((e+1) % 2) 1)=_
  by_cases h:(e+1) % 2=1
  ·rw [if_pos h,h]; rfl
  ·have h0:(e+1) % 2=0:=by omega
   rw [if_neg h,h0]; rfl
noncomputable def AL (n:Nat) (c:Nat):Nat→Bool := @Nat.rec (fun _=>Nat→Bool) (fun _=>false)
 (fun _ ih x => @Bool.rec (fun _=>Bool) (ih (Nat.mod (Nat.mul x x) n)) true (Nat.beq (Nat.mod (Nat.mul x x) n) (Nat.sub n 1))) c
theorem kP (a b:Nat):Nat.beq a b=decide (a=b):=by
 by_cases h:a=b
 ·rw [decide_eq_true h]; exact Nat.beq_eq.mpr h
 ·rw [decide_eq_false h, ← Bool.not_eq_true]; exact fun e=>h (Nat.eq_of_beq_eq_true e)
theorem t3 (n:Nat) : ∀ (c x:Nat),AL n c x=sqrF n c x
 | 0, _ => rfl
 | c + 1, x => by
  rw [sqrF, ← t3 n c]
  show @Bool.rec (fun _=>Bool) (AL n c (x*x % n)) true (Nat.beq (x*x % n) (n - 1))=_
  rw [kP]
  by_cases h:x*x % n=n - 1
  ·rw [if_pos h,decide_eq_true h]
  ·rw [if_neg h,decide_eq_false h]
noncomputable def jy (n O T b:Nat):Bool := @Bool.rec (fun _=>Bool) (@Bool.rec (fun _=>Bool) (AL n (Nat.sub T 1) (ve n 64 (Nat.mod 1 n) b O)) true (Nat.beq (ve n 64 (Nat.mod 1 n) b O) (Nat.sub n 1))) true (Nat.beq (ve n 64 (Nat.mod 1 n) b O) 1)
theorem si (n O T b:Nat):jy n O T b=dn n O T b:=by
 unfold jy dn
 rw [tZ,t3,kP,kP]
 show @Bool.rec (fun _=>Bool) (@Bool.rec (fun _=>Bool) (sqrF n (T - 1) (lp 64 n (1 % n) b O)) true (decide (lp 64 n (1 % n) b O=n - 1))) true (decide (lp 64 n (1 % n) b O=1))=_
 cases decide (lp 64 n (1 % n) b O=1) <;> cases decide (lp 64 n (1 % n) b O=n - 1) <;> rfl
noncomputable def AM (n O T:Nat):Bool := @Bool.rec (fun _=>Bool) false (@Bool.rec (fun _=>Bool) false (@Bool.rec (fun _=>Bool) false (jy n O T 7) (jy n O T 5)) (jy n O T 3)) (jy n O T 2)
theorem za {n O T:Nat} (h7:7<n):AM n O T=nZ n O T 4 0:=by
 have hb : ∀ j,n≠dL j:=fun j h=>by have:=(mU j).1;omega
 unfold AM
 simp only [nZ,if_neg (hb _),si]
 show @Bool.rec (fun _=>Bool) false (@Bool.rec (fun _=>Bool) false (@Bool.rec (fun _=>Bool) false (dn n O T 7) (dn n O T 5)) (dn n O T 3)) (dn n O T 2)=(dn n O T 2 && (dn n O T 3 && (dn n O T 5 && (dn n O T 7 && true))))
 cases dn n O T 2 <;> cases dn n O T 3 <;> cases dn n O T 5 <;> cases dn n O T 7 <;> rfl
noncomputable def sj (k:Nat→Nat→Bool) (f:Nat):Nat→Nat→Bool := @Nat.rec (fun _=>Nat→Nat→Bool) (fun o t=>k o t)
 (fun _ ih o t => @Bool.rec (fun _=>Bool) (k o t) (ih (Nat.div o 2) (Nat.succ t)) (Nat.beq (Nat.mod o 2) 0)) f
theorem oc (k:Nat→Nat→Bool) : ∀ (f o t:Nat),sj k f o t=k (de f o t).1 (de f o t).2
 | 0, _, _ => rfl
 | f + 1, o, t => by
  rw [de]
  show @Bool.rec (fun _=>Bool) (k o t) (sj k f (o / 2) (t+1)) (Nat.beq (o % 2) 0)=_
  rw [kP]
  by_cases h:o % 2=0
  ·rw [if_pos h,decide_eq_true h]; exact oc k f _ _
  ·rw [if_neg h,decide_eq_false h]
noncomputable def j5 (n:Nat):Bool:=sj (AM n) 32 (Nat.sub n 1) 0
theorem vf {n:Nat} (h7:7<n) (h31:n<2147483648) (ho:n % 2=1):j5 n=bg n:=by
 rw [qM h7]
 unfold j5 pf
 rw [if_neg X,if_neg X,oc]
 exact za h7
/-! ### Runs of numbers -/
noncomputable def w7 (f:Nat→Bool) (k:Nat):Nat→Bool := @Nat.rec (fun _=>Nat→Bool) f (fun k ih d => @Bool.rec (fun _=>Bool) false (ih (Nat.add d (Nat.pow 2 k))) (ih d)) k
theorem pj {f:Nat→Bool} : ∀ {k d:Nat},w7 f k d=true → ∀ e,d≤e→e<d+2^k→f e=true
 | 0, d, h, e, h1, h2 => by
  have:e=d:=by simp at h2;omega
  subst this;exact h
 | k + 1, d, h, e, h1, h2 => by
  have h : @Bool.rec (fun _=>Bool) false (w7 f k (d+2^k)) (w7 f k d)=true:=h
  rw [Nat.pow_succ] at h2
  cases ha:w7 f k d with
  | false => rw [ha] at h; cases h
  | true =>
   rw [ha] at h
   rcases Nat.lt_or_ge e (d+2^k) with hl | hl
   ·exact pj ha e h1 hl
   ·exact pj h e hl X
noncomputable def AN (k n:Nat):Bool := @Bool.rec (fun _=>Bool) true (@Bool.rec (fun _=>Bool) (@Bool.rec (fun _=>Bool) true false (j5 n)) (j5 n) (Nat.beq (Nat.gcd n (mZ k 2)) 1)) (Nat.beq (Nat.mod n 2) 1)
theorem zc {n k:Nat} (h1:2+2^k≤n) (h2:n<(2+2^k)*(2+2^k)) (h7:7<n) (h31:n<2147483648) (h:AN k n=true):bg n=sf n:=by
 have hT:=vb h1 h2
 by_cases ho:n % 2=1
 ·rw [← vf h7 h31 ho]
  unfold AN at h
  rw [show Nat.beq (Nat.mod n 2) 1=true from Nat.beq_eq.mpr ho,kP] at h
  by_cases hg:Nat.gcd n (mZ k 2)=1
  ·rw [decide_eq_true hg] at h
   have h:j5 n=true:=h
   rw [h,sg.2 ⟨by omega,h31,hT.1 hg⟩]
  ·rw [decide_eq_false hg] at h
   have hf:j5 n=false:=by
    cases hq:j5 n with
    | false => rfl
    | true => rw [hq] at h; cases h
   rw [hf]
   exact (Bool.eq_false_iff.2 fun e=>hg (hT.2 (sg.1 e).2.2)).symm
 ·have hp:bg n=false:=by
   unfold bg
   rw [if_neg X,if_pos X,decide_eq_false X]
  rw [hp]
  exact (Bool.eq_false_iff.2 fun e=>(sg.1 e).2.2 2 (Nat.le_refl _) X X).symm
theorem zd:w7 (AN 16) 12 2147479552=true:=by decide +kernel
theorem vg {n:Nat} (h:2147479552≤n) (h':n<2147483648):bg n=sf n :=
 zc (k:=16) (by show 65538≤n;omega) (by show n<65538*65538;omega) X h' (pj zd n h (by show n<2147479552+4096;omega))
end Tor
end
section
namespace Tor.Lin
def sm:Nat→(Nat→Rat)→Rat
 | 0, _ => 0
 | n + 1, f => sm n f + f n
theorem cw {n:Nat} {f g:Nat→Rat} (h : ∀ i,i<n→f i=g i):sm n f=sm n g:=by
 induction n with
 | zero => rfl
 | succ n ih => rw [sm, sm, ih (fun i hi => h i X), h n X]
theorem pn (a b:Rat) (n:Nat) (f g:Nat→Rat):sm n (fun i=>a*f i+b*g i)=a*sm n f+b*sm n g:=by
 induction n with
 | zero => simp only [sm]; grind
 | succ n ih => rw [sm, sm, sm, ih]; grind
theorem po (n:Nat):sm n (fun _=>(0:Rat))=0:=by
 induction n with
 | zero => rfl
 | succ n ih => rw [sm, ih]; grind
theorem ja {n p:Nat} {f:Nat→Rat} (hp:p<n) (h : ∀ i,i<n→i≠p→f i=0):sm n f=f p:=by
 induction n with
 | zero => omega
 | succ n ih =>
  rw [sm]
  by_cases c:p=n
  ·subst c
   rw [cw (g:=fun _=>0) (fun i hi=>h i X X),po]; grind
  ·rw [ih X (fun i hi=>h i X),h n X X]; grind
theorem AO {n p q:Nat} {f:Nat→Rat} (hp:p<q) (hq:q<n) (h : ∀ i,i<n→i≠p→i≠q→f i=0):sm n f=f p+f q:=by
 induction n with
 | zero => omega
 | succ n ih =>
  rw [sm]
  by_cases c:q=n
  ·subst c
   rw [ja hp (fun i hi hn=>h i X hn X)]
  ·rw [ih X (fun i hi=>h i X),h n X X X]; grind
def skip (j k:Nat):Nat:=if k<j then k else k+1
def sgn (j:Nat):Rat:=if j % 2=0 then 1 else -1
theorem w8 (j:Nat):sgn  (j+1) = -sgn j:=by
 unfold sgn
 by_cases h:j % 2=0
 ·rw [if_pos h,if_neg X]
 ·rw [if_neg h,if_pos X]; grind
def det:Nat→(Nat→Nat→Rat)→Rat
 | 0, _ => 1
 | n + 1, F => sm (n + 1) (fun j => sgn j * F 0 j * det n (fun i k => F (i + 1) (skip j k)))
theorem cx : ∀ {n:Nat} {F G:Nat→Nat→Rat},(∀ i j,i<n→j<n→F i j=G i j)→det n F=det n G
 | 0, _, _, _ => rfl
 | n + 1, F, G, h => by
  rw [det,det]
  refine cw (fun j hj => ?_)
  rw [h 0 j X hj,cx (G:=fun i k=>G (i+1) (skip j k)) (fun i k hi hk=>h _ _ X (by unfold skip;split <;> omega))]
theorem t4 {j p:Nat} (h:j≠p):skip j (if p<j then p else p - 1)=p:=by
 unfold skip
 by_cases c:p<j
 ·rw [if_pos c,if_pos c]
 ·rw [if_neg c,if_neg X]; omega
theorem w9 {j p:Nat} (h:j≠p) (h':j≠p+1):skip j ((if p<j then p else p - 1)+1)=p+1:=by
 unfold skip
 by_cases c:p<j
 ·rw [if_pos c,if_pos X]
 ·rw [if_neg c,if_neg X]; omega
theorem mb (a b:Rat) : ∀ {n p:Nat} {F G H:Nat→Nat→Rat},p<n→(∀ i,i<n→F i p=a*G i p+b*H i p)→(∀ i j,i<n→j<n→j≠p→G i j=F i j)→(∀ i j,i<n→j<n→j≠p→H i j=F i j) →
  det n F=a*det n G+b*det n H
 | 0, _, _, _, _, h, _, _, _ => absurd h (Nat.not_lt_zero _)
 | n + 1, p, F, G, H, hp, hF, hG, hH => by
  rw [det,det,det, ← pn]
  refine cw (fun j hj => ?_)
  by_cases c:j=p
  ·subst c
   rw [cx (F:=fun i k=>G (i+1) (skip j k)) (G:=fun i k=>F (i+1) (skip j k)) (fun i k hi hk=>hG _ _ X (by unfold skip;split <;> omega) (by unfold skip;split <;> omega)),
    cx (F:=fun i k=>H (i+1) (skip j k)) (G:=fun i k=>F (i+1) (skip j k)) (fun i k hi hk=>hH _ _ X (by unfold skip;split <;> omega) (by unfold skip;split <;> omega)),hF 0 X]
   grind
  ·have e:=t4 c
   rw [mb a b (p:=if p<j then p else p - 1) (F:=fun i k=>F (i+1) (skip j k)) (G:=fun i k=>G (i+1) (skip j k)) (H:=fun i k=>H (i+1) (skip j k)) (by split <;> omega)
    (fun i hi=>by rw [e]; exact hF _ X)
    (fun i k hi hk hne=>hG _ _ X (by unfold skip;split <;> omega) (by revert hne;unfold skip;split <;> split <;> omega))
    (fun i k hi hk hne=>hH _ _ X (by unfold skip;split <;> omega) (by revert hne;unfold skip;split <;> split <;> omega)),
    hG 0 j X hj c,hH 0 j X hj c]
   grind
theorem pp : ∀ {n p:Nat} {F:Nat→Nat→Rat},p+1<n→(∀ i,i<n→F i p=F i (p+1))→det n F=0
 | 0, _, _, h, _ => absurd h (Nat.not_lt_zero _)
 | n + 1, p, F, hp, h => by
  rw [det,AO (p:=p) (q:=p+1) X hp (fun j hj h1 h2 => ?_)]
  ·rw [cx (F:=fun i k=>F (i+1) (skip (p+1) k)) (G:=fun i k=>F (i+1) (skip p k)) (fun i k hi hk=>by
    by_cases c:k=p
    ·subst c
     have e1:skip (k+1) k=k:=by unfold skip;rw [if_pos X]
     have e2:skip k k=k+1:=by unfold skip;rw [if_neg X]
     rw [e1,e2]; exact h _ X
    ·have e:skip (p+1) k=skip p k:=by unfold skip;split <;> split <;> omega
     rw [e]), ← h 0 X,w8]
   grind
  ·rw [pp (p:=if p<j then p else p - 1) (F:=fun i k=>F (i+1) (skip j k)) (by split <;> omega) (fun i hi=>by
    have e1:=t4 h1
    have e2:=w9 h1 h2
    rw [e1,e2]; exact h _ X)]
   grind
def idm (i j:Nat):Rat:=if i=j then 1 else 0
theorem pq : ∀ n:Nat,det n (idm)=1
 | 0 => rfl
 | n + 1 => by
  rw [det,ja (p:=0) X (fun i hi h=>by
   have:idm  0 i=0:=by unfold idm;rw [if_neg X]
   rw [this]; grind)]
  have e:det n (fun i k=>idm  (i+1) (skip 0 k))=1:=by
   rw [← pq n]
   refine cx (fun i j _ _ => ?_)
   unfold idm skip
   rw [if_neg (Nat.not_lt_zero j)]
   by_cases c:i=j
   ·rw [if_pos c,if_pos X]
   ·rw [if_neg c,if_neg X]
  rw [e]
  unfold sgn idm
  rw [if_pos Z,if_pos Z]; grind
structure Alt (n:Nat) (f:(Nat→Nat→Rat)→Rat):Prop where
 congr : ∀ F G,(∀ i j,i<n→j<n→F i j=G i j)→f F=f G
 lin : ∀ (a b:Rat) p F G H,p<n→(∀ i,i<n→F i p=a*G i p+b*H i p)→(∀ i j,i<n→j<n→j≠p→G i j=F i j)→(∀ i j,i<n→j<n→j≠p→H i j=F i j)→f F=a*f G+b*f H
 adj : ∀ p F,p+1<n→(∀ i,i<n→F i p=F i (p+1))→f F=0
theorem iy (n:Nat):Alt n (det  n) :=
 ⟨fun _ _ h=>cx h,fun a b _ _ _ _ hp h1 h2 h3=>mb a b hp h1 h2 h3,fun _ _ hp h=>pp hp h⟩
def two (F:Nat→Nat→Rat) (p:Nat) (u v:Nat→Rat):Nat→Nat→Rat:=fun i j=>if j=p then u i else if j=p+1 then v i else F i j
def swp (F:Nat→Nat→Rat) (p:Nat):Nat→Nat→Rat:=two F p (fun i=>F i (p+1)) (fun i=>F i p)
theorem Alt.swap {n:Nat} {f:(Nat→Nat→Rat)→Rat} (h:Alt n f) {p:Nat} (hp:p+1<n) (F:Nat→Nat→Rat):f (swp F p) = - f F:=by
 have l1 : ∀ u u' v:Nat→Rat,f (two F p (fun i=>u i+u' i) v)=f (two F p u v)+f (two F p u' v):=fun u u' v=>by
  rw [h.lin 1 1 p (two F p (fun i=>u i+u' i) v) (two F p u v) (two F p u' v) X (fun i _=>by simp only [two,if_pos]; grind)
   (fun i j _ _ hj=>by simp only [two,if_neg hj]) (fun i j _ _ hj=>by simp only [two,if_neg hj])]
  grind
 have l2 : ∀ u v v':Nat→Rat,f (two F p u (fun i=>v i+v' i))=f (two F p u v)+f (two F p u v'):=fun u v v'=>by
  have hne:p+1≠p:=by omega
  rw [h.lin 1 1 (p+1) (two F p u (fun i=>v i+v' i)) (two F p u v) (two F p u v') X (fun i _=>by simp only [two,if_neg hne,if_pos]; grind)
   (fun i j _ _ hj=>by simp only [two,if_neg hj]) (fun i j _ _ hj=>by simp only [two,if_neg hj])]
  grind
 have z : ∀ u:Nat→Rat,f (two F p u u)=0:=fun u=>h.adj p _ hp (fun i _=>by
  have hne:p+1≠p:=by omega
  simp only [two,if_neg hne,if_pos])
 have e:f F=f (two F p (fun i=>F i p) (fun i=>F i (p+1))):=h.congr _ _ (fun i j _ _=>by
  unfold two
  by_cases c:j=p
  ·rw [if_pos c,c]
  ·rw [if_neg c]
   by_cases c':j=p+1
   ·rw [if_pos c',c']
   ·rw [if_neg c'])
 have k:=z (fun i=>F i p+F i (p+1))
 rw [l1,l2,l2,z,z, ← e] at k
 unfold swp
 grind
theorem Alt.eqcol {n:Nat} {f:(Nat→Nat→Rat)→Rat} (h:Alt n f) : ∀ (q p:Nat) (F:Nat→Nat→Rat),p<q→q<n→(∀ i,i<n→F i p=F i q)→f F=0
 | 0, _, _, hp, _, _ => absurd hp (Nat.not_lt_zero _)
 | q + 1, p, F, hp, hq, he => by
  by_cases c:p=q
  ·subst c;exact h.adj p F hq he
  ·have k:=h.swap (p:=q) hq F
   rw [h.eqcol q p (swp F q) X X (fun i hi=>by
    unfold swp two
    rw [if_neg (show p≠q by omega),if_neg (show p≠q+1 by omega),if_pos Z]
    exact he i hi)] at k
   grind
def dW (F:Nat→Nat→Rat) (p:Nat) (v:Nat→Rat):Nat→Nat→Rat:=fun i j=>if j=p then v i else F i j
theorem Alt.sum {n:Nat} {f:(Nat→Nat→Rat)→Rat} (h:Alt n f) {p:Nat} (hp:p<n) (F:Nat→Nat→Rat) (c:Nat→Rat) (v:Nat→Nat→Rat) :
  ∀ M:Nat,f (dW F p (fun i=>sm M (fun m=>c m*v m i)))=sm M (fun m=>c m*f (dW F p (v m)))
 | 0 => by
  rw [h.lin 0 0 p _ F F hp (fun i _=>by simp only [dW,if_pos,sm]; grind) (fun i j _ _ hj=>by simp only [dW,if_neg hj]) (fun i j _ _ hj=>by simp only [dW,if_neg hj])]
  simp only [sm]; grind
 | M + 1 => by
  rw [sm, ← h.sum hp F c v M,h.lin 1 (c M) p _ (dW F p (fun i=>sm M (fun m=>c m*v m i))) (dW F p (v M)) hp (fun i _=>by simp only [dW,if_pos,sm]; grind)
   (fun i j _ _ hj=>by simp only [dW,if_neg hj]) (fun i j _ _ hj=>by simp only [dW,if_neg hj])]
  grind
def em (σ:Nat→Nat) (i j:Nat):Rat:=if i=σ j then 1 else 0
def kQ (n:Nat) (σ:Nat→Nat):Nat→Nat
 | 0 => 0
 | k + 1 => kQ n σ k + (n - k) * σ k
theorem m0 {n:Nat} {σ τ:Nat→Nat} : ∀ k,(∀ j,j<k→σ j=τ j)→kQ n σ k=kQ n τ k
 | 0, _ => rfl
 | k + 1, h => by rw [kQ, kQ, m0 k (fun j hj => h j X), h k X]
def sw (σ:Nat→Nat) (p:Nat):Nat→Nat:=fun j=>if j=p then σ (p+1) else if j=p+1 then σ p else σ j
theorem t5 {n:Nat} {σ:Nat→Nat} {p:Nat} (hp:p+1<n) (hl:σ (p+1)<σ p) : ∀ k,p+1<k→k≤n→kQ n (sw σ p) k<kQ n σ k
 | 0, h, _ => absurd h (Nat.not_lt_zero _)
 | k + 1, h, hk => by
  by_cases c:k=p+1
  ·subst c
   rw [kQ,kQ,kQ,kQ,m0 (σ:=sw σ p) (τ:=σ) p (fun j hj=>by unfold sw;rw [if_neg X,if_neg X])]
   have e1:sw σ p p=σ (p+1):=by unfold sw;rw [if_pos Z]
   have e2:sw σ p (p+1)=σ p:=by unfold sw;rw [if_neg X,if_pos Z]
   rw [e1,e2]
   have e:n - p=(n - (p+1))+1:=by omega
   rw [e,Nat.succ_mul,Nat.succ_mul]
   omega
  ·have ih:=t5 hp hl k X X
   rw [kQ,kQ]
   have e:sw σ p k=σ k:=by unfold sw;rw [if_neg X,if_neg X]
   rw [e]; omega
theorem By (σ:Nat→Nat) (p:Nat):swp (em  σ) p=em (sw σ p):=by
 funext i j
 unfold swp two em sw
 by_cases c:j=p
 ·rw [if_pos c,if_pos c]
 ·rw [if_neg c,if_neg c]
  by_cases c':j=p+1
  ·rw [if_pos c',if_pos c']
  ·rw [if_neg c',if_neg c']
theorem AP {n:Nat} {σ:Nat→Nat} (hn : ∀ j,j<n→σ j<n) (h : ∀ p,p+1<n→σ p<σ (p+1)) : ∀ j,j<n→σ j=j:=by
 have lo : ∀ j,j<n→j≤σ j:=fun j=>by
  induction j with
  | zero => intro _; omega
  | succ j ih => intro hj; have := ih X; have := h j hj; omega
 have hi : ∀ k j,j+k+1=n→σ j≤j:=fun k=>by
  induction k with
  | zero => intro j hj; have := hn j X; omega
  | succ k ih => intro j hj; have := ih (j + 1) X; have := h j X; omega
 intro j hj
 have:=lo j hj
 have:=hi (n - j - 1) j X
 omega
theorem Alt.em {n:Nat} {f:(Nat→Nat→Rat)→Rat} (h:Alt n f) : ∀ (N:Nat) (σ:Nat→Nat),kQ n σ n<N→(∀ j,j<n→σ j<n)→f (em σ)=det n (em σ)*f idm
 | 0, _, hN, _ => absurd hN (Nat.not_lt_zero _)
 | N + 1, σ, hN, hσ => by
  by_cases c : ∃ p,p+1<n∧σ (p+1)≤σ p
  ·obtain ⟨p,hp,hle⟩:=c
   by_cases ce:σ (p+1)=σ p
   ·have e : ∀ i,i<n→Tor.Lin.em  σ i p=Tor.Lin.em σ i (p+1):=fun i _=>by unfold Tor.Lin.em;rw [ce]
    rw [h.adj p _ hp e,(iy n).adj p _ hp e]; grind
   ·have ih:=h.em N (sw σ p) (by have:=t5 hp (show σ (p+1)<σ p by omega) n X (Nat.le_refl _);omega) (fun j hj=>by
     unfold sw;split
     ·exact hσ _ hp
     ·split
      ·exact hσ _ X
      ·exact hσ _ hj)
    rw [← By,h.swap hp,(iy n).swap hp] at ih
    grind
  ·have hid:=AP hσ (fun p hp=>Nat.lt_of_not_le fun k=>c ⟨p,hp,k⟩)
   have e : ∀ i j,i<n→j<n→Tor.Lin.em  σ i j=idm i j:=fun i j _ hj=>by unfold Tor.Lin.em idm;rw [hid j hj]
   rw [h.congr _ _ e,(iy n).congr _ _ e,pq]; grind
theorem Alt.part {n:Nat} {f:(Nat→Nat→Rat)→Rat} (h:Alt n f) : ∀ (k:Nat) (F:Nat→Nat→Rat) (σ:Nat→Nat),k≤n→(∀ j,j<n→σ j<n)→(∀ i j,i<n→j<n→k≤j→F i j=Tor.Lin.em σ i j)→f F=det n F*f idm
 | 0, F, σ, _, hσ, hF => by
  rw [h.congr _ _ (fun i j hi hj=>hF i j hi hj (Nat.zero_le _)),(iy n).congr _ _ (fun i j hi hj=>hF i j hi hj (Nat.zero_le _))]
  exact h.em _ σ (Nat.lt_succ_self _) hσ
 | k + 1, F, σ, hk, hσ, hF => by
  have e : ∀ i j,i<n→j<n→F i j=dW F k (fun i=>sm n (fun m=>F m k*(fun m i=>idm  i m) m i)) i j:=fun i j hi hj=>by
   unfold dW
   by_cases c:j=k
   ·subst c
    rw [if_pos Z]
    show F i j=sm n (fun m=>F m j*idm i m)
    rw [ja hi (fun m hm hne=>by unfold idm;rw [if_neg (fun q=>hne q.symm)]; grind)]
    unfold idm;rw [if_pos Z]; grind
   ·rw [if_neg c]
  rw [h.congr _ _ e,(iy n).congr _ _ e,h.sum X,(iy n).sum X]
  have hm : ∀ m,m<n→f (dW F k (fun i=>idm  i m))=det n (dW F k (fun i=>idm  i m))*f idm:=fun m hm =>
   h.part k _ (fun j=>if j=k then m else σ j) X (fun j hj=>by split;exact hm;exact hσ j hj) (fun i j hi hj hkj=>by
    unfold dW Tor.Lin.em idm
    dsimp only
    by_cases c:j=k
    ·simp only [if_pos c]
    ·simp only [if_neg c]; exact hF i j hi hj X)
  rw [cw (fun m hm'=>by rw [hm m hm'])]
  generalize f idm=z
  clear hm
  generalize (fun m=>det n (dW F k ((fun m i=>idm  i m) m)))=g at *
  have : ∀ N:Nat,sm N (fun m=>F m k*(det n (dW F k (fun i=>idm  i m))*z))=sm N (fun m=>F m k*det n (dW F k (fun i=>idm  i m)))*z:=fun N=>by
   induction N with
   | zero => simp only [sm]; grind
   | succ N ih => rw [sm, sm, ih]; grind
  exact this n
theorem Alt.uniq {n:Nat} {f:(Nat→Nat→Rat)→Rat} (h:Alt n f) (F:Nat→Nat→Rat):f F=det n F*f idm :=
 h.part n F id (Nat.le_refl _) (fun j hj=>hj) (fun i j _ hj hk=>by omega)
def m1 (n:Nat) (BV B:Nat→Nat→Rat) (i j:Nat):Rat:=sm n (fun k=>BV i k*B k j)
theorem ze (n:Nat) (BV:Nat→Nat→Rat):Alt n (fun B=>det n (m1 n BV B)) where
 congr F G h:=cx (fun i j _ hj=>cw (fun k hk=>by rw [h k j hk hj]))
 lin a b p F G H hp h1 h2 h3:=mb a b hp (fun i hi=>by
   unfold m1
   rw [← pn]
   exact cw (fun k hk=>by rw [h1 k hk]; grind))
  (fun i j _ hj hne=>cw (fun k hk=>by rw [h2 k j hk hj hne])) (fun i j _ hj hne=>cw (fun k hk=>by rw [h3 k j hk hj hne]))
 adj p F hp h:=pp hp (fun i hi=>cw (fun k hk=>by rw [h k hk]))
theorem pt (n:Nat) (BV B:Nat→Nat→Rat):det n (m1 n BV B)=det n BV*det n B:=by
 have h:det n (m1 n BV B)=det n B*det n (m1 n BV idm):=(ze n BV).uniq B
 have e:det n (m1 n BV idm)=det n BV:=cx (fun i j hi hj=>by
  unfold m1
  rw [ja hj (fun k hk hne=>by unfold idm;rw [if_neg hne]; grind)]
  unfold idm;rw [if_pos Z]; grind)
 rw [e] at h
 rw [h]; grind
theorem jz (a b:Rat) : ∀ {n p:Nat} {F G H:Nat→Nat→Rat},p<n→(∀ j,j<n→F p j=a*G p j+b*H p j)→(∀ i j,i<n→j<n→i≠p→G i j=F i j)→(∀ i j,i<n→j<n→i≠p→H i j=F i j) →
  det n F=a*det n G+b*det n H
 | 0, _, _, _, _, h, _, _, _ => absurd h (Nat.not_lt_zero _)
 | n + 1, 0, F, G, H, hp, hF, hG, hH => by
  rw [det,det,det, ← pn]
  refine cw (fun j hj => ?_)
  rw [cx (F:=fun i k=>G (i+1) (skip j k)) (G:=fun i k=>F (i+1) (skip j k)) (fun i k hi hk=>hG _ _ X (by unfold skip;split <;> omega) X),
   cx (F:=fun i k=>H (i+1) (skip j k)) (G:=fun i k=>F (i+1) (skip j k)) (fun i k hi hk=>hH _ _ X (by unfold skip;split <;> omega) X),hF j hj]
  grind
 | n + 1, p + 1, F, G, H, hp, hF, hG, hH => by
  rw [det,det,det, ← pn]
  refine cw (fun j hj => ?_)
  rw [jz a b (p:=p) (F:=fun i k=>F (i+1) (skip j k)) (G:=fun i k=>G (i+1) (skip j k)) (H:=fun i k=>H (i+1) (skip j k)) X
   (fun k hk=>hF _ (by unfold skip;split <;> omega))
   (fun i k hi hk hne=>hG _ _ X (by unfold skip;split <;> omega) X)
   (fun i k hi hk hne=>hH _ _ X (by unfold skip;split <;> omega) X),
   hG 0 j X hj X,hH 0 j X hj X]
  grind
theorem qS {n p:Nat} (hp:p+1<n) (F:Nat→Nat→Rat):det n (fun i j=>F (if i=p then p+1 else if i=p+1 then p else i) j) = - det n F:=by
 have h:=pt n (swp idm p) F
 rw [(iy n).swap hp,pq] at h
 have e:det n (m1 n (swp idm p) F)=det n (fun i j=>F (if i=p then p+1 else if i=p+1 then p else i) j):=cx (fun i j hi hj=>by
  unfold m1
  rw [ja (p:=if i=p then p+1 else if i=p+1 then p else i) (by split <;> (try split) <;> omega) (fun k hk hne=>by
   have:swp (idm) p i k=0:=by
    unfold swp two idm
    by_cases c:k=p
    ·simp only [if_pos c]
     rw [if_neg]; intro q;apply hne;rw [if_neg X,if_pos q,c]
    ·simp only [if_neg c]
     by_cases c':k=p+1
     ·simp only [if_pos c']
      rw [if_neg]; intro q;apply hne;rw [if_pos q,c']
     ·simp only [if_neg c']
      rw [if_neg]; intro q;apply hne;rw [if_neg X,if_neg X,q]
   rw [this]; grind)]
  have:swp (idm) p i (if i=p then p+1 else if i=p+1 then p else i)=1:=by
   unfold swp two idm
   by_cases c:i=p
   ·have hne : ¬ p+1=p:=by omega
    simp only [if_pos c,if_neg hne,if_pos]
   ·by_cases c':i=p+1
    ·simp only [if_neg c,if_pos c',if_pos]
    ·simp only [if_neg c,if_neg c',if_pos]
  rw [this]; grind)
 rw [← e,h]; grind
theorem xa (n:Nat) (h2 : ∀ x:Rat,x+x=0→x=0):Alt n (fun F:Nat→Nat→Rat=>det n (fun i j=>F j i)) where
 congr F G h:=cx (fun i j hi hj=>h j i hj hi)
 lin a b p F G H hp h1 h2 h3:=jz a b hp (fun j hj=>h1 j hj) (fun i j hi hj hne=>h2 j i hj hi hne) (fun i j hi hj hne=>h3 j i hj hi hne)
 adj p F hp h:=by
  have k:=qS hp (fun i j=>F j i)
  have e:det n (fun i j=>F j (if i=p then p+1 else if i=p+1 then p else i))=det n (fun i j=>F j i):=cx (fun i j hi hj=>by
   by_cases c:i=p
   ·rw [if_pos c,c,h j hj]
   ·rw [if_neg c]
    by_cases c':i=p+1
    ·rw [if_pos c',c',h j hj]
    ·rw [if_neg c'])
  show det n (fun i j=>F j i)=0
  rw [e] at k
  exact h2 _ (by grind)
theorem AQ (n:Nat) (h2 : ∀ x:Rat,x+x=0→x=0) (F:Nat→Nat→Rat):det n (fun i j=>F j i)=det n F:=by
 have h:det n (fun i j=>F j i)=det n F*det n (fun i j=>idm  j i):=(xa n h2).uniq F
 have e:det n (fun i j=>idm  j i)=1:=by
  rw [← pq n]
  refine cx (fun i j _ _ => ?_)
  unfold idm
  by_cases c:i=j
  ·rw [if_pos c,if_pos c.symm]
  ·rw [if_neg c,if_neg (fun q=>c q.symm)]
 rw [e] at h
 rw [h]; grind
end Tor.Lin
end
section
namespace Tor.Lin
theorem jA {n:Nat} (h2 : ∀ x:Rat,x+x=0→x=0) {p q:Nat} {F:Nat→Nat→Rat} (hp:p<q) (hq:q<n) (h : ∀ j,j<n→F p j=F q j):det n F=0:=by
 have k:det n (fun i j=>(fun i j=>F j i) j i)=0:=(xa n h2).eqcol q p (fun i j=>F j i) hp hq h
 exact k
theorem vh {n:Nat} (h2 : ∀ x:Rat,x+x=0→x=0) {p q:Nat} (hne:p≠q) (hp:p<n) (hq:q<n) (c:Rat) (F:Nat→Nat→Rat):det n (fun i j=>if i=p then F i j+c*F q j else F i j)=det n F:=by
 rw [jz 1 c (p:=p) (F:=fun i j=>if i=p then F i j+c*F q j else F i j) (G:=F) (H:=fun i j=>if i=p then F q j else F i j) hp
  (fun j _=>by simp only [if_pos]; grind) (fun i j _ _ hi=>by simp only [if_neg hi]) (fun i j _ _ hi=>by simp only [if_neg hi])]
 have z:det n (fun i j=>if i=p then F q j else F i j)=0:=by
  have hqp : ¬ q=p:=fun e=>hne e.symm
  rcases Nat.lt_or_ge p q with h | h
  ·exact jA h2 h hq (fun j _=>by simp only [if_pos,if_neg hqp])
  ·exact jA h2 (show q<p by omega) hp (fun j _=>by simp only [if_pos,if_neg hqp])
 rw [z]; grind
theorem xb {n p:Nat} {F:Nat→Nat→Rat} (hp:p<n) (h : ∀ i,i<n→F i p=0):det n F=0:=by
 rw [mb 0 0 (F:=F) (G:=F) (H:=F) hp (fun i hi=>by rw [h i hi]; grind) (fun _ _ _ _ _=>rfl) (fun _ _ _ _ _=>rfl)]
 grind
theorem vi {n:Nat} {F:Nat→Nat→Rat} (h : ∀ i,i<n→F (i+1) 0=0):det (n+1) F=F 0 0*det n (fun i j=>F (i+1) (j+1)):=by
 rw [det,ja (p:=0) X (fun j hj hne=>by
  have:det n (fun i k=>F (i+1) (skip j k))=0:=xb (p:=0) X (fun i hi=>by
   have e:skip j 0=0:=by unfold skip;rw [if_pos X]
   rw [e]; exact h i hi)
  rw [this]; grind)]
 have e:det n (fun i k=>F (i+1) (skip 0 k))=det n (fun i j=>F (i+1) (j+1)):=cx (fun i j _ _=>by
  unfold skip;rw [if_neg (Nat.not_lt_zero j)])
 rw [e]
 unfold sgn;rw [if_pos Z]; grind
def smZ:Nat→(Nat→Int)→Int
 | 0, _ => 0
 | n + 1, f => smZ n f + f n
theorem vj {n:Nat} {f g:Nat→Int} (h : ∀ i,i<n→f i=g i):smZ n f=smZ n g:=by
 induction n with
 | zero => rfl
 | succ n ih => rw [smZ, smZ, ih (fun i hi => h i X), h n X]
def m3 (j:Nat):Int:=if j % 2=0 then 1 else -1
def bY:Nat→(Nat→Nat→Int)→Int
 | 0, _ => 1
 | n + 1, F => smZ (n + 1) (fun j => m3 j * F 0 j * bY n (fun i k => F (i + 1) (skip j k)))
theorem xc (n:Nat) (f:Nat→Int):((smZ n f:Int):Rat)=sm n (fun i=>(f i:Rat)):=by
 induction n with
 | zero => rfl
 | succ n ih => rw [smZ, sm, Rat.intCast_add, ih]
theorem vk (j:Nat):((m3 j:Int):Rat)=sgn j:=by
 unfold m3 sgn;split <;> rfl
theorem dE : ∀ (n:Nat) (F:Nat→Nat→Int),((bY n F:Int):Rat)=det n (fun i j=>(F i j:Rat))
 | 0, _ => rfl
 | n + 1, F => by
  rw [bY,det,xc]
  refine cw (fun j hj => ?_)
  rw [Rat.intCast_mul,Rat.intCast_mul,vk,dE n]
theorem fp : ∀ {n:Nat} {F G:Nat→Nat→Int},(∀ i j,i<n→j<n→F i j=G i j)→bY n F=bY n G
 | 0, _, _, _ => rfl
 | n + 1, F, G, h => by
  rw [bY,bY]
  refine vj (fun j hj => ?_)
  rw [h 0 j X hj,fp (G:=fun i k=>G (i+1) (skip j k)) (fun i k hi hk=>h _ _ X (by unfold skip;split <;> omega))]
theorem pu : ∀ x:Rat,x+x=0→x=0:=fun x h=>by grind
def tw (F:Nat→Nat→Rat) (p q:Nat) (u v:Nat→Rat):Nat→Nat→Rat:=fun i j=>if i=p then u j else if i=q then v j else F i j
theorem xd {n:Nat} (h2 : ∀ x:Rat,x+x=0→x=0) {p q:Nat} (hne:p≠q) (hp:p<n) (hq:q<n) (F:Nat→Nat→Rat):det n (tw F p q (F q) (F p)) = - det n F:=by
 have hqp : ¬ q=p:=fun e=>hne e.symm
 have l1 : ∀ u u' v:Nat→Rat,det n (tw F p q (fun i=>u i+u' i) v)=det n (tw F p q u v)+det n (tw F p q u' v):=fun u u' v=>by
  rw [jz 1 1 (p:=p) (F:=tw F p q (fun i=>u i+u' i) v) (G:=tw F p q u v) (H:=tw F p q u' v) hp (fun i _=>by simp only [tw,if_pos]; grind)
   (fun i j _ _ hj=>by simp only [tw,if_neg hj]) (fun i j _ _ hj=>by simp only [tw,if_neg hj])]
  grind
 have l2 : ∀ u v v':Nat→Rat,det n (tw F p q u (fun i=>v i+v' i))=det n (tw F p q u v)+det n (tw F p q u v'):=fun u v v'=>by
  rw [jz 1 1 (p:=q) (F:=tw F p q u (fun i=>v i+v' i)) (G:=tw F p q u v) (H:=tw F p q u v') hq (fun i _=>by simp only [tw,if_neg hqp,if_pos]; grind)
   (fun i j _ _ hj=>by simp only [tw,if_neg hj]) (fun i j _ _ hj=>by simp only [tw,if_neg hj])]
  grind
 have z : ∀ u:Nat→Rat,det n (tw F p q u u)=0:=fun u=>by
  rcases Nat.lt_or_ge p q with h | h
  ·exact jA h2 h hq (fun j _=>by simp only [tw,if_neg hqp,if_pos])
  ·exact jA h2 (show q<p by omega) hp (fun j _=>by simp only [tw,if_neg hqp,if_pos])
 have e:det n (tw F p q (F p) (F q))=det n F:=cx (fun i j _ _=>by
  unfold tw
  by_cases c:i=p
  ·rw [if_pos c,c]
  ·rw [if_neg c]
   by_cases c':i=q
   ·rw [if_pos c',c']
   ·rw [if_neg c'])
 have k:=z (fun i=>F p i+F q i)
 rw [l1,l2,l2,z,z,e] at k
 grind
end Tor.Lin
end
section
namespace Tor
def swp {α:Type} (i k:Nat) (φ:Nat→α):Nat→α:=fun q=>if q=i then φ k else if q=k then φ i else φ q
theorem kR {α:Type} (i:Nat) (φ:Nat→α):swp i i φ=φ:=by
 funext q;unfold swp;by_cases h:q=i
 ·rw [if_pos h,h]
 ·rw [if_neg h,if_neg h]
theorem AR {α:Type} {i k:Nat} (φ:Nat→α):swp i k φ k=φ i:=by
 unfold swp;by_cases h:k=i
 ·rw [if_pos h,h]
 ·rw [if_neg h,if_pos Z]
end Tor
namespace Tor.Lin
/-! ### Sums -/
theorem AS (n:Nat) (f g:Nat→Rat):sm n (fun i=>f i+g i)=sm n f+sm n g:=by
 induction n with
 | zero => simp only [sm]; grind
 | succ n ih => rw [sm, sm, sm, ih]; grind
theorem t6 (a:Rat) (n:Nat) (f:Nat→Rat):sm n (fun i=>f i*a)=sm n f*a:=by
 induction n with
 | zero => simp only [sm]; grind
 | succ n ih => rw [sm, sm, ih]; grind
theorem AT (n:Nat) (f g:Nat→Rat):sm n (fun i=>f i - g i)=sm n f - sm n g:=by
 induction n with
 | zero => simp only [sm]; grind
 | succ n ih => rw [sm, sm, sm, ih]; grind
theorem zf (n m:Nat) (f:Nat→Nat→Rat):sm n (fun i=>sm m (fun j=>f i j))=sm m (fun j=>sm n (fun i=>f i j)):=by
 induction n with
 | zero => simp only [sm]; exact (po m).symm
 | succ n ih => rw [sm, ih, ← AS]; exact cw fun j _ => by rw [sm]
theorem t7 {n:Nat} {f:Nat→Rat} (h : ∀ i,i<n→f i=0):sm n f=0:=by
 rw [cw (g:=fun _=>0) h,po]
/-! ### Determinants with a column that is a combination -/
end Tor.Lin
end
