/-
  Theorems that the proofs of laws of this seat rest on.
  No condition.
-/
import Derived.Test.YtpnkmoojhbjdfaaGreatLA5
set_option maxHeartbeats 8000000
set_option linter.unusedVariables false
set_option linter.unusedSimpArgs false
section
namespace Tor
open Go Go.RowKit Go.Proofs
theorem yJ:VT.le (one (.slice none 0 0)) (me 0):=VT.le_trans gi (fN (l := []) (fun _ h=>by cases h) Z)
theorem ui {a b:Nat} : (mc a b<0)=(a<b):=by unfold mc;split <;> simp_all <;> (try split) <;> omega
theorem rQ {b:Nat} (h:(aF b).length=1):(aF b).getD 0 0=b:=by
 have h1:=bF (l:=aF b) (k:=0) Y
 rw [List.take_of_length_le Y,bQ] at h1
 simpa [lv] using h1.symm
theorem yK {v:Nat} (h:v<4294967296):VT.le (slT .one 1 fun _=>one (.int .u32 (v:Nat))) (me v) :=
 VT.le_trans (cX (m := [v].length) (ψ:=fun i=>one (.int .u32 ([v].getD i 0:Nat))) Z (fun q hq=>by
  have hq:q<1:=hq
  have:q=0:=by omega
  subst this;rfl)) (fN (l := [v]) (fun d hd=>by simp at hd;omega) (by simp [lv]))
def mP:Nat→Nat→List Nat
 | 0, _ => []
 | n + 1, v => v % 4294967296 :: mP n (v / 4294967296)
theorem oc : ∀ n v,(mP n v).length=n
 | 0, _ => rfl
 | n + 1, v => by rw [mP, List.length_cons, oc n]
theorem od : ∀ n v,bA (mP n v)
 | 0, _ => fun d hd => by cases hd
 | n + 1, v => fun d hd => by
  rw [mP] at hd
  rcases List.mem_cons.1 hd with rfl | hd
  ·exact Nat.mod_lt _ W
  ·exact od n _ d hd
theorem oe : ∀ n v,v<4294967296^n→lv (mP n v)=v
 | 0, v, h => by simp at h; subst h; rfl
 | n + 1, v, h => by
  have:v / 4294967296<4294967296^n:=Nat.div_lt_of_lt_mul (by rw [Nat.mul_comm, ← Nat.pow_succ]; exact h)
  rw [mP,lv,oe n _ this]; omega
theorem rR : ∀ {z:List Nat},bA z→z=mP z.length (lv z)
 | [], _ => rfl
 | d :: z, h => by
  have hd:=h.head
  have ih:=rR h.tail
  rw [List.length_cons,mP,lv]
  rw [show (d+4294967296*lv z) % 4294967296=d by omega,show (d+4294967296*lv z) / 4294967296=lv z by omega, ← ih]
theorem w5 {l:List Nat} {s:Nat} (hl:bA l) (hs:s<32):lv l*2^s<4294967296^(l.length+1):=by
 rw [Nat.pow_succ]
 have h1:2^s≤4294967296:=Nat.pow_le_pow_right (n:=2) W (show s≤32 by omega)
 exact Nat.lt_of_lt_of_le (Nat.mul_lt_mul_of_pos_right (gJ hl) (Nat.two_pow_pos s)) (Nat.mul_le_mul_left _ h1)
def AD (l:List Nat) (s:Nat) (hl:bA l) (hs:s<32):qx l s:=⟨(0,mP (l.length+1) (lv l*2^s)),oc _ _,od _ _,oe _ _ (w5 hl hs)⟩
theorem vu (l:List Nat) (s:Nat) (hl:bA l) (h1:l.length≤1099511627776) (hs:s<32):Ok Tryz.prog 137 [ci l,one (.int .i64 (s:Nat))] (slT .one (l.length+1) (f8 (mP (l.length+1) (lv l*2^s)))) :=
 (rO l s hl h1 hs).ok fun p=>by
  have h:=rR p.2.2.1
  rw [p.2.1,p.2.2.2] at h
  rw [← h]
  exact Ent.sl List.mem_cons_self
theorem vv {z:List Nat} {q m:Nat} (h:q<m):f8 z (Int.toNat 0+q)=f8 (z.take m) q:=by
 have e:Int.toNat 0+q=q:=Nat.zero_add q
 rw [e]
 unfold f8
 rw [show (z.take m).getD q 0=z.getD q 0 by simp [List.getD,List.getElem?_take,h]]
theorem yL {br:Option Nat} {T:TypeId} {n i s:Nat} {U:List Nat} (hi:i<n):Own.le (aN br T .one n n (upd (fun q=>one (.int .u32 ((if q<i then (fa U s n).getD q 0 else 0:Nat):Int))) i (one (.int .u32 (((U.getD (i+1) 0*4294967296+U.getD i 0) / 2^s % 4294967296:Nat):Int)))))
  (aN br T .one n n (fun q=>one (.int .u32 ((if q<i+1 then (fa U s n).getD q 0 else 0:Nat):Int)))):=bJ (fun q hq=>by
 unfold upd
 by_cases h:q=i
 ·subst h;rw [if_pos Z,if_pos (Nat.lt_succ_self q),yG U s hi]; rfl
 ·rw [if_neg h]
  dsimp only
  by_cases h2:q<i
  ·rw [if_pos h2,if_pos (Nat.lt_succ_of_lt h2)]
  ·rw [if_neg h2,if_neg Y])
attribute [local irreducible] J PJ aJ one slT cv bB bL exT cp eP aW aN slV VT.le Ret bK
set_option maxRecDepth 20000 in
theorem pw (a b:Nat) (hb:b≠0) (ha:(aF a).length≤1099511627776):Ok Tryz.prog 128 [ci (aF a),ci (aF b)] (bL [me (a / b),me (a % b)]):=by
 have hcl:=jx (aF a) ha
 have hcm:=ky a b
 refine Ok.enter Tryz.func128 Z Tryz.ntmps128 Z (fun w O => ?_)
 by_cases h1:a<b
 ·rw [Nat.div_eq_of_lt h1,Nat.mod_eq_of_lt h1]
  have hlt:mc a b<0:=by rw [ui]; exact h1
  refine ae (aj (Cn Z (Cn Z (Cp (aa (ae (av (ae (aj ?_)))))))))
  refine Cm Z (Cm Z ?_)
  refine Cl (am (hcm) Z ⟨H,H,Cq⟩) ?_
  refine Cl (sT (by assumption) (a9 Z Z)) (Cn Z (Cp (aa (aI Z (ae (aj (Cm Z ?_)))))))
  refine Cl (am (hcl) Z ⟨H,Cq⟩) ?_
  refine Cn Z (Cn Z (Cp (aa (aD (be (aE ?_))))))
  refine eX Tryz.results128 (.tmp Z (yJ)) (.tmp Z (cE _))
 ·have hlt : ¬ mc a b<0:=by rw [ui]; exact h1
  have hlen:=bT (Nat.le_of_not_lt h1)
  by_cases h2:(aF a).length≤2
  ·have hw1:=m9 (aF a) (a7 a) h2
   have hw2:=m9 (aF b) (a7 b) Y
   rw [bQ] at hw1 hw2
   have a64:a<18446744073709551616:=Nat.lt_of_lt_of_le (cR a) (Nat.pow_le_pow_right (n:=4294967296) W h2)
   have b64:b<18446744073709551616:=by omega
   have q64:a / b<18446744073709551616:=Nat.lt_of_le_of_lt (Nat.div_le_self _ _) a64
   have r64:a % b<18446744073709551616:=Nat.lt_of_le_of_lt (Nat.mod_le _ _) a64
   have hk1:=ju (a / b) q64
   have hk2:=ju (a % b) r64
   refine ae (aj (Cn Z (Cn Z (Cp (aa (ae (av (ae (aj ?_)))))))))
   refine Cm Z (Cm Z ?_)
   refine Cl (am (hcm) Z ⟨H,H,Cq⟩) ?_
   refine Cl (sF (by assumption) (a9 Z Z)) (Cn Z (Cp (aa (az Z (ae (aj (Cm Z (Cl (aV Z) (Cl (sT Y (q6 Z Z)) ?_)))))))))
   refine Cn Z (Cp (aa (aI Z (ae (aj (Cm Z ?_))))))
   refine Cl (am (hw1) Z ⟨H,Cq⟩) ?_
   refine Cm Z ?_
   refine Cl (am (hw2) Z ⟨H,Cq⟩) ?_
   refine Cn Z (Cn Z (Cp (aa (ae (a4 9 aU X W (Cm Z (Cm Z (Cl (ku Z Z Y Y) ?_))))))))
   refine Cl (am (hk1) Z ⟨H,Cq⟩) ?_
   refine Cm Z (Cm Z (Cl (nH _ Z Z Z Y) ?_))
   refine Cl (am (hk2) Z ⟨H,Cq⟩) ?_
   refine Cn Z (Cp (Cn Z (Cp (aa (aD (be (aE ?_)))))))
   refine eX Tryz.results128 (.tmp Z H) (.tmp Z H)
  ·by_cases h3:(aF b).length=1
   ·have hb1:=rQ h3
    have hd:=bg (a7 b) 0
    have hsh:=wZ (aF a) b (a7 a) ha Y Y
    rw [bQ] at hsh
    have hr:=Nat.mod_lt a (show 0<b by omega)
    refine ae (aj (Cn Z (Cn Z (Cp (aa (ae (av (ae (aj ?_)))))))))
    refine Cm Z (Cm Z ?_)
    refine Cl (am (hcm) Z ⟨H,H,Cq⟩) ?_
    refine Cl (sF (by assumption) (a9 Z Z)) (Cn Z (Cp (aa (az Z (ae (aj (Cm Z (Cl (aV Z) (Cl (sF Y (q6 Z Z)) ?_)))))))))
    refine Cn Z (Cp (aa (az Z (ae (aj (Cm Z (Cl (aV Z) (Cl (sT Y (cN Z Z)) (Cn Z ?_)))))))))
    refine Cp (aa (aI Z (ae (aj (Cm Z (Cm Z (Cl (ev Z Z Y Y) (Cl (aG Z) ?_))))))))
    refine Cl (am (hsh) Z ⟨H,(ao (by rw [show (aF b).getD (Int.toNat 0) 0=b from hb1])),Cq⟩) ?_
    refine Cm Z (Cl (ar Z Z) (Cl (ar Z Z) (Cn Z (Cn Z (Cp (aa (ae (aj (Cm Z ?_)))))))))
    refine Cm Z (iX Z Z Z Z (Cn Z (Cn Z (Cp (aa (aD (be (aE ?_))))))))
    refine eX Tryz.results128 (.tmp Z H) (.tmp Z (yK Y))
   ·have hdb:aF b ≠ []:=fun h=>hb (by rw [← bQ b,h]; rfl)
    obtain ⟨k,hk⟩ : ∃ k,(aF b).length=k+2:=⟨(aF b).length - 2,by have:=List.length_pos_iff.2 hdb;omega⟩
    obtain ⟨e,he⟩ : ∃ e,(aF a).length=k+2+e:=⟨(aF a).length - (k+2),by omega⟩
    have hx:=bg (a7 b) ((aF b).length - 1)
    have S0:=AC hk
    rw [show k+1=(aF b).length - 1 by omega] at S0
    have hlz:=yA ((aF b).getD ((aF b).length - 1) 0) hx
    generalize 32 - iw ((aF b).getD ((aF b).length - 1) 0)=s at S0 hlz
    have s32:=S0.s32
    have hsv:=vu (aF b) s (a7 b) Y s32
    have hsu:=rO (aF a) s (a7 a) ha s32
    refine ae (aj (Cn Z (Cn Z (Cp (aa (ae (av (ae (aj ?_)))))))))
    refine Cm Z (Cm Z ?_)
    refine Cl (am (hcm) Z ⟨H,H,Cq⟩) ?_
    refine Cl (sF (by assumption) (a9 Z Z)) (Cn Z (Cp (aa (az Z (ae (aj (Cm Z (Cl (aV Z) (Cl (sF Y (q6 Z Z)) ?_)))))))))
    refine Cn Z (Cp (aa (az Z (ae (aj (Cm Z (Cl (aV Z) (Cl (sF Y (cN Z Z)) (Cn Z ?_)))))))))
    refine Cp (aa (az Z (aw (aA (aa (ae (aj (Cm Z (Cm Z ?_)))))))))
    refine Cl (aV Z) (Cl (ct _ 1 Z Z Y Y) (Cl (ax Z Z Y) (Cl (aG Z) ?_)))
    refine Cl (am (hlz) Z ⟨H,Cq⟩) ?_
    refine Cm Z (Cl (aV Z) (Cn Z (Cn Z (Cp (aa (ae (cx (Γ' := [(0,_),(1,_),(4,_),(5,_),(10,_),(11,_)]) Cg (SubM.refl _) ?_)))))))
    refine An (σ:=qx (aF a) s) 2 (AD (aF a) s (a7 a) s32) (fun p=>one (slV (some p.1.1) ((aF a).length+1) ((aF a).length+1))) (fun p => [aN (some p.1.1) 116 .one ((aF a).length+1) ((aF a).length+1) (f8 p.1.2)]) aU X W ?_
    refine vx Z (fun s B=>ab Z) Z ?_
    refine vx Z (fun s B=>ab Z) Z ?_
    refine vc Z hsu (fun s=>rfl) ⟨H,H,Cq⟩ Z ?_
    refine vx Z (fun s B=>ab Z) Z ?_
    refine vx Z (fun s B=>ab Z) Z ?_
    refine vx Z (fun s B=>am hsv Z ⟨H,H,Cq⟩) Z ?_
    refine vx Z (fun s B=>ab Z) Z ?_
    refine vx Z (fun s B=>ab Z) Z ?_
    refine vx Z (fun s B=>kM Z Z Z Z (fun _=>rfl) Y Y Y Y) Z ?_
    refine vd Z X (fun s B=>ah Z) Z ?_
    refine vx Z (fun s B=>ah Z) Z ?_
    refine .nil (fun p => ?_)
    obtain ⟨⟨bu,U⟩,hu1,hu2,hu3⟩:=p
    dsimp only at hu1 hu2 hu3 ⊢
    rw [bQ] at hu3
    rw [he] at hu1
    rw [bQ,hk,he]
    obtain ⟨z,hz⟩ : ∃ z,z=mP (k+2+1) (b*2^s):=⟨_,rfl⟩
    have z1:=oc (k+2+1) (b*2^s)
    have z2:=od (k+2+1) (b*2^s)
    have z3:=oe (k+2+1) (b*2^s) (Nat.lt_of_lt_of_le S0.hi (Nat.pow_le_pow_right W Y))
    rw [← hz] at z1 z2 z3 ⊢
    obtain ⟨v1,v2,v3,v4⟩:=S0.v z2 z1 z3
    refine sJ (Γ' := [(0,slT .one (k+2+e) (f8 (aF a))),(4,_),(5,_),(10,_),(11,one (.int .i64 ((k+2:Nat):Int))),(12,one (slV (some bu) (k+2+e+1) (k+2+e+1))),(13,ci (z.take (k+2)))]) (.cons Z (cX he (fun _ _=>rfl)) (.cons Z H (.cons Z H (.cons Z H (.cons Z H (.cons Z H (.cons Z ?_ .nil))))))) (SubM.refl _) ?_
    ·exact cX (by rw [v2]; omega) (fun q hq=>vv Y)
    generalize z.take (k+2)=v at *
    have hV0:0<b*2^s:=Nat.mul_pos Y (Nat.two_pow_pos s)
    have hVn:=S0.hi
    have hA:=S0.u he
    refine aa (ae (aj (Cm Z (Cl (aV Z) (Cm Z (Cl (ct _ _ Z Z Y Y) (Cl (bC _ 1 Z Z Y) ?_)))))))
    refine bX (e+1) (e+1) Z Z Y Y (Nat.le_refl _) Z Z Y Z Z (fun bz => ?_)
    refine Cn Z (Cp (aa (ae (ae (aj (Cm Z (Cl (aV Z) (Cm Z (Cl (ct _ _ Z Z Y Y) ?_)))))))))
    refine Cn Z (Cp (aa (av (cx (Γ' := [(4,_),(5,_),(10,_),(11,_),(12,_),(13,_),(14,_),(15,_)]) Cg (SubM.refl _) ?_))))
    refine bE (σ:=List Nat × List Nat × Nat) (Γk := [(4,_),(5,_),(10,_),(11,_),(12,_),(13,_),(14,_)]) Cg (fun p => [(15,one (.int .i64 ((p.2.2:Nat) - 1:Int)))]) (fun p M0=>((M0.set 0 (aN (some bz) 116 .one (e+1) (e+1) (f8 p.2.1))).set 1 (aN (some bu) 116 .one (k+2+e+1) (k+2+e+1) (f8 p.1)))) (fun p=>DivR (b*2^s) (a*2^s) (k+2) e p) (fun p=>p.2.2) ((U,List.replicate (e+1) 0,e+1)) (DivR.start hu2 hu1 hu3 hA) Ch (.keep (bJ (fun q _=>by unfold f8;rw [cD]; rfl)) (.keep Ck (.nil))) (fun p hp => ?_)
    refine bY (Γ' := [(15,_),(4,_),(5,_),(10,_),(11,_),(12,_),(13,_),(14,_)]) (M' := [_,_]) Z Z ?_
    obtain ⟨U1,Q,c⟩:=p
    dsimp only at hp ⊢
    have hu1:U1.length=k+2+e+1:=hp.lu
    have hq1:Q.length=e+1:=hp.lq
    have hcl:c≤e+1:=hp.le
    refine ae (ae (aj (Cm Z (Cl (jo Z Z) (Cp (aa ?_))))))
    cases c with
    | zero =>
     refine mT Z Y (aX (au (au (aC (aa (ae (aj (Cm Z ?_))))))))
     obtain ⟨f1,f2⟩:=hp.finish Y
     refine bX (k+2) (k+2) Z Z Z Z (Nat.le_refl _) Z Z Y Z Z (fun br => ?_)
     refine Cn Z (Cp (aa (ae (ae (aj (Cm Z (Cm Z (Cp (aa ?_)))))))))
     refine av (cx (Γ' := [(4,_),(5,_),(10,_),(12,_),(14,_),(16,_),(102,_),(103,_)]) Cg (SubM.refl _) ?_)
     refine bE (σ:=Nat) (Γk := [(4,_),(5,_),(10,_),(12,_),(14,_),(16,_),(102,_)]) Cg (fun i => [(103,one (.int .i64 (i:Nat)))]) (fun i M0=>(M0.set 0 (aN (some br) 116 .one (k+2) (k+2) (fun q=>one (.int .u32 ((if q<i then (fa U1 s (k+2)).getD q 0 else 0:Nat):Int)))))) (fun i=>i≤k+2) (fun i=>k+2 - i) (0) (Nat.zero_le _) Ch (.keep Ck (.keep Ck (.keep Ck (.nil)))) (fun i hi => ?_)
     refine bY (Γ' := [(103,_),(4,_),(5,_),(10,_),(12,_),(14,_),(16,_),(102,_)]) (M' := [_,_,_]) Z Z (ae (aj (Cl (a9 Z Z) (Cp (aa (ae ?_))))))
     refine pX Z (fun hc => ?_) (fun hc => ?_)
     ·have hik:i<k+2:=by omega
      have g0:=bg (show bA U1 from hp.limU) i
      have g1:=bg (show bA U1 from hp.limU) (i+1)
      refine aw (aa (ae (av (ae (aj (Cm Z (Cn Z (Cp (aa ?_)))))))))
      refine a4 18 aU X W (Cm Z (Cm Z (Cm Z (Cm Z (Cl (bC _ 1 Z Z Y) (Cl (an Z Z Y) (Cl (bn 2 Z Z Y) (Cl (bM Z Y) (Cl (kw (s:=32) Z Z Y Y) ?_)))))))))
      refine Cm Z (Cm Z (Cl (an Z Z Y) (Cl (bn 2 Z Z Y) (Cl (bM Z Y) (Cl (l9 Z Z Y Y) (Cm Z ?_))))))
      refine Cl (nK Z Z (by (show _<64;omega))) ?_
      refine Cl (cG Z) (Cp (Cl (an Z Z Y) ?_))
      (refine ay 0 Z Z Z ?_ Z ?_;omega)
      refine Cp (aA (aa (aj (Cl (bC _ 1 Z Z Y) (Cm Z (Cp ?_))))))
      refine aS (i+1) (by assumption) Y Ch (.keep (yL hik) (.keep Ck (.keep Ck (.nil))))
     ·have hik:i=k+2:=by omega
      subst hik
      refine aX (au (au (aC (aa (ae (aj (Cm Z (Cm Z (Cn Z ?_)))))))))
      refine Cn Z (Cp (aa (aD ?_)))
      have hlU:lv U1<4294967296^(k+2):=Nat.lt_trans (show lv (U1.drop 0)<_ from hp.lt) hVn
      have hrv:lv (fa U1 s (k+2))=a % b:=by rw [yE hp.limU s32 (by dsimp only;omega) hlU,f2,Nat.mul_div_cancel _ (Nat.two_pow_pos s)]
      refine cJ (t:=5) (i:=0) Z Z (cJ (t:=4) (i:=0) Z Z ?_)
      refine eX Tryz.results128 (.tmp Z (VT.le_trans (cX (m:=Q.length) (ψ:=f8 Q) hq1.symm (fun _ _=>rfl)) (fN hp.limQ f1))) (.tmp Z (VT.le_trans (cX (m:=(fa U1 s (k+2)).length) (ψ:=f8 (fa U1 s (k+2))) (yH _ _ _).symm (fun q hq=>by rw [if_pos hq])) (fN (yF _ _ _) hrv)))
    | succ j =>
     obtain ⟨p1,p2,p3,p4⟩:=hp.pre hVn
     have en:((j+1:Nat):Int) - 1=(j:Nat):=by omega
     rw [en]
     refine mS Z Y (aw (aa (ae (av (aj (Cm Z (Cm Z (Cm Z (Cm Z ?_)))))))))
     refine Cm Z (Cm Z (Cl (bC _ _ Z Z Y) (Cl (bC _ 1 Z Z Y) (Cl (wq Z Z Z Y Y Y) (Cm Z ?_)))))
     refine hP (Min := [aN (some bu) 116 .one (k+2+e+1) (k+2+e+1) (f8 U1)]) (Kp := [aN (some bz) 116 .one (e+1) (e+1) (f8 Q)]) (w3 bu (k+2+e+1) j (k+2+e+1 - j) k U1 v hp.limU v1 hu1 Y v2 Y v4 (by rw [v3]; exact p4)) Z ⟨ao (by rw [show j+(k+2)+1 - j=k+3 by omega]; rfl),H,Cq⟩ (List.Perm.swap _ _ _) Z Z (fun r => ?_)
     obtain ⟨U2,o1,o2,o3⟩:=r
     dsimp only
     refine v6 (List.Perm.swap _ _ _) (Cl (an Z Z Y) ?_)
     (refine ay 0 Z Z Z ?_ Z ?_;omega)
     refine Cp (aA (aa (aj (Cm Z (Cl (eG Z Z (aM Y Y)) (Cn Z (Cp ?_)))))))
     refine aS ((U2,Q.set j (lv (win U1 j (k+3)) / lv v),j)) (hp.step hV0 hVn o1 o2 (by rw [o3,v3]) (by rw [v3])) (by (simp only []; omega)) Ch (.keep (fV Y Z) (.keep Ck (.nil)))
end Tor
end
section
namespace Tor
open Go Go.RowKit Go.Proofs
theorem yM {A B:Nat} (hB:0<B) (h:A % B=0):(-(A:Int)) / B = -((A / B:Nat):Int)∧(-(A:Int)) % B=0:=by
 have hm:=Nat.div_add_mod A B
 refine (Int.ediv_emod_unique Y).2 ⟨?_,by omega,by omega⟩
 have e:((B*(A / B)+A % B:Nat):Int)=(A:Int):=by rw [hm]
 rw [h] at e
 rw [Int.natCast_add,Int.natCast_mul] at e
 rw [Int.mul_neg]; omega
theorem yN {A B:Nat} (hB:0<B) (h:A % B≠0):(-(A:Int)) / B = -((A / B+1:Nat):Int)∧(-(A:Int)) % B=((B - A % B:Nat):Int):=by
 have hm:=Nat.div_add_mod A B
 have hl:=Nat.mod_lt A hB
 refine (Int.ediv_emod_unique Y).2 ⟨?_,by omega,by omega⟩
 have e:((B*(A / B)+A % B:Nat):Int)=(A:Int):=by rw [hm]
 rw [Int.natCast_add,Int.natCast_mul] at e
 rw [Int.mul_neg,Int.natCast_add,Int.mul_add]
 omega
theorem uj {a b:Int} (hb:b≠0):(0≤a→a / b=(if b<0 then -((a.natAbs / b.natAbs:Nat):Int) else ((a.natAbs / b.natAbs:Nat):Int))∧a % b=((a.natAbs % b.natAbs:Nat):Int)) ∧
  (a<0→a.natAbs % b.natAbs=0→a / b=(if b<0 then ((a.natAbs / b.natAbs:Nat):Int) else -((a.natAbs / b.natAbs:Nat):Int))∧a % b=0) ∧
  (a<0→a.natAbs % b.natAbs≠0→a / b=(if b<0 then ((a.natAbs / b.natAbs+1:Nat):Int) else -((a.natAbs / b.natAbs+1:Nat):Int))∧a % b=((b.natAbs - a.natAbs % b.natAbs:Nat):Int)):=by
 have hB:0<b.natAbs:=by omega
 generalize hA:a.natAbs=A
 generalize hBb:b.natAbs=B at *
 have key:(0≤a→a / (B:Int)=((A / B:Nat):Int)∧a % (B:Int)=((A % B:Nat):Int)) ∧
   (a<0→A % B=0→a / (B:Int) = -((A / B:Nat):Int)∧a % (B:Int)=0) ∧
   (a<0→A % B≠0→a / (B:Int) = -((A / B+1:Nat):Int)∧a % (B:Int)=((B - A % B:Nat):Int)):=by
  refine ⟨fun h => ?_,fun h h0 => ?_,fun h h0 => ?_⟩
  ·have:a=(A:Int):=by omega
   rw [this]; exact ⟨(Int.natCast_ediv A B).symm,(Int.natCast_emod A B).symm⟩
  ·have:a = -(A:Int):=by omega
   rw [this]; exact yM hB h0
  ·have:a = -(A:Int):=by omega
   rw [this]; exact yN hB h0
 by_cases hn:b<0
 ·have e:b = -(B:Int):=by omega
  simp only [if_pos hn]
  rw [e,Int.ediv_neg,Int.emod_neg]
  refine ⟨fun h => ?_,fun h h0 => ?_,fun h h0 => ?_⟩
  ·obtain ⟨k1,k2⟩:=key.1 h;exact ⟨by rw [k1],k2⟩
  ·obtain ⟨k1,k2⟩:=key.2.1 h h0;exact ⟨by rw [k1,Int.neg_neg],k2⟩
  ·obtain ⟨k1,k2⟩:=key.2.2 h h0;exact ⟨by rw [k1,Int.neg_neg],k2⟩
 ·have e:b=(B:Int):=by omega
  simp only [if_neg hn]
  rw [e]; exact key
theorem gR {v:Nat} (h:(aF v).length=0):v=0:=by
 rw [← bQ v,List.length_eq_zero_iff.1 h]; rfl
theorem rS:aF 1 = [1]:=by rw [gI W]; rfl
theorem w6:VT.le (slT .one 1 fun _=>one (.int .u32 1)) (ci (aF 1)):=by
 rw [rS]
 exact cX Z (fun q hq=>by
  have hq:q=0:=by omega
  subst hq;rfl)
theorem uk (p:Prop) [Decidable p] (x:Int):(if (!(true == decide p))=true then -x else x)=(if p then x else -x):=by by_cases h:p <;> simp [h]
theorem yO (p:Prop) [Decidable p] (x:Int):(if (!(false == decide p))=true then -x else x)=(if p then -x else x):=by by_cases h:p <;> simp [h]
attribute [local irreducible] J PJ aJ one slT cv bB bL exT cp eP aW aN slV VT.le Ret bK
set_option maxRecDepth 20000 in
theorem gy (a b:Int) (hb:b≠0) (ha:bI a) (hbs:bI b):Ok Tryz.prog 98 [aK a,aK b] (bL [aK (a / b),aK (a % b),one (.int .i64 0)]):=by
 obtain ⟨g1,g2,g3⟩:=uj (a:=a) hb
 have hb0:(aF b.natAbs).length≠0:=fun h=>hb (by have:=gR h;omega)
 have hB:b.natAbs≠0:=by omega
 have hdiv:=pw a.natAbs b.natAbs hB ha
 have ha':(aF a.natAbs).length≤1099511627776:=ha
 have hb':(aF b.natAbs).length≤1099511627776:=hbs
 have hlt:=Nat.mod_lt a.natAbs (Nat.pos_of_ne_zero hB)
 have hr0:(aF (a.natAbs % b.natAbs)).length=0↔a.natAbs % b.natAbs=0:=⟨gR,fun h=>by rw [h]; rfl⟩
 have hql:(aF (a.natAbs / b.natAbs)).length≤1099511627776:=Nat.le_trans (bT (Nat.div_le_self _ _)) ha'
 have hmin:=nQ b.natAbs (a.natAbs % b.natAbs) (Nat.le_of_lt hlt) hb'
 have hplus:=t7 (a.natAbs / b.natAbs) 1 hql (by rw [rS]; decide)
 have hv1:=fun n=>dW n (a.natAbs / b.natAbs)
 have hv2:=fun n=>dW n (a.natAbs % b.natAbs)
 have hv3:=fun n=>dW n (a.natAbs / b.natAbs+1)
 have hv4:=fun n=>dW n (b.natAbs - a.natAbs % b.natAbs)
 unfold aK at *
 refine Ok.enter Tryz.func98 Z Tryz.ntmps98 Z (fun w O => ?_)
 by_cases hn:a<0
 ·by_cases hr:a.natAbs % b.natAbs=0
  ·have hr1:=hr0.2 hr
   refine ae (aj ?_)
   refine aQ Z Z (ltN Z) (fun b2 => ?_)
   refine aQ Z Z (ltN Z) (fun b3 => ?_)
   refine aP (T:=43) Z (ltN Z) (fun b4 => ?_)
   refine aP (T:=43) Z (ltN Z) (fun b5 => ?_)
   refine Cn Z (Cp (aa (ae (a4 7 aU X W (Cl (ai Z) (Cl (ak 3 Z Z Z) ?_))))))
   refine Cl (am (di _) Z ⟨(cE _),Cq⟩) ?_
   refine Cl (ai Z) (Cl (ak 2 Z Z Z) ?_)
   refine Cl (am (di _) Z ⟨(cE _),Cq⟩) ?_
   refine Cn Z (Cp (Cn Z (Cp (aa (ae (ae (aj (Cm Z (Cl (aV Z) ?_)))))))))
   refine Cl (sF Y (cN Z Z)) (Cp (aa (az Z (aw (aa (ae (aj (Cm Z (Cm Z ?_)))))))))
   refine Cl (am (hdiv) Z ⟨H,H,Cq⟩) ?_
   refine Cm Z (Cl (ar Z Z) (Cl (ar Z Z) (Cn Z (Cn Z (Cp (aa (ae (aj (Cm Z ?_)))))))))
   refine Cl (am (di _) Z ⟨H,Cq⟩) ?_
   refine Cn Z (Cp (aa (ae (ae (aj (Cl (ai Z) (Cl (sT (by assumption) (ak 3 Z Z Z)) (Cm Z (Co (ab Z) ?_)))))))))
   refine Co (aV Z) (Co (sF Y (ek Z Z)) (Cl (a6 Z Z) (Cp (aa (az Z (aw (aa (ae (aj ?_)))))))))
   refine Cl (ai Z) (Cl (sT (by assumption) (ak 3 Z Z Z)) (Cl (ai Z) (Cl (ak 2 Z Z Z) (Cl (jp Z Z) (Cm Z ?_)))))
   refine Cl (am (hv1 _) Z ⟨H,H,Cq⟩) ?_
   refine Cm Z ?_
   refine Cl (am (hv2 _) Z ⟨H,(cE _),Cq⟩) ?_
   refine aB 1 Z Z Z Z Z (leN Z) Z (aB 0 Z Z Z Z Z (leN Z) Z (Cn Z (Cp (aa (aD ?_)))))
   refine iy Tryz.results98 (.cellB 1 Z Z Z (bZ (by rw [(g2 hn hr).1]; exact uk _ _))) (.cellB 0 Z Z Z (bZ (by rw [(g2 hn hr).2,hr]; rfl))) (.tmp Z H)
  ·have hr1:(aF (a.natAbs % b.natAbs)).length≠0:=fun h=>hr (hr0.1 h)
   refine ae (aj ?_)
   refine aQ Z Z (ltN Z) (fun b2 => ?_)
   refine aQ Z Z (ltN Z) (fun b3 => ?_)
   refine aP (T:=43) Z (ltN Z) (fun b4 => ?_)
   refine aP (T:=43) Z (ltN Z) (fun b5 => ?_)
   refine Cn Z (Cp (aa (ae (a4 7 aU X W (Cl (ai Z) (Cl (ak 3 Z Z Z) ?_))))))
   refine Cl (am (di _) Z ⟨(cE _),Cq⟩) ?_
   refine Cl (ai Z) (Cl (ak 2 Z Z Z) ?_)
   refine Cl (am (di _) Z ⟨(cE _),Cq⟩) ?_
   refine Cn Z (Cp (Cn Z (Cp (aa (ae (ae (aj (Cm Z (Cl (aV Z) ?_)))))))))
   refine Cl (sF Y (cN Z Z)) (Cp (aa (az Z (aw (aa (ae (aj (Cm Z (Cm Z ?_)))))))))
   refine Cl (am (hdiv) Z ⟨H,H,Cq⟩) ?_
   refine Cm Z (Cl (ar Z Z) (Cl (ar Z Z) (Cn Z (Cn Z (Cp (aa (ae (aj (Cm Z ?_)))))))))
   refine Cl (am (di _) Z ⟨H,Cq⟩) ?_
   refine Cn Z (Cp (aa (ae (ae (aj (Cl (ai Z) (Cl (sT (by assumption) (ak 3 Z Z Z)) (Cm Z (Co (ab Z) ?_)))))))))
   refine Co (aV Z) (Co (sT Y (ek Z Z)) (Cl (a6 Z Z) (Cp (aa (aI Z (aj (Cm Z ?_)))))))
   refine Cl (am (di _) Z ⟨H,Cq⟩) ?_
   refine iX Z Z Z Z ?_
   refine Cl (am (hplus) Z ⟨H,(w6),Cq⟩) ?_
   refine Cm Z (Cm Z ?_)
   refine Cl (am (hmin) Z ⟨H,H,Cq⟩) ?_
   refine Cn Z (Cn Z (Cp (aa (ae (aj (Cl (ai Z) (Cl (sT (by assumption) (ak 3 Z Z Z)) (Cl (ai Z) (Cl (ak 2 Z Z Z) ?_)))))))))
   refine Cl (jp Z Z) (Cm Z ?_)
   refine Cl (am (hv3 _) Z ⟨H,H,Cq⟩) ?_
   refine Cm Z ?_
   refine Cl (am (hv4 _) Z ⟨H,H,Cq⟩) ?_
   refine aB 1 Z Z Z Z Z (leN Z) Z (aB 0 Z Z Z Z Z (leN Z) Z (Cn Z (Cp (aa (aD ?_)))))
   refine iy Tryz.results98 (.cellB 1 Z Z Z (bZ (by rw [(g3 hn hr).1]; exact uk _ _))) (.cellB 0 Z Z Z (bZ (by rw [(g3 hn hr).2]; rfl))) (.tmp Z H)
 ·refine ae (aj ?_)
  refine aQ Z Z (ltN Z) (fun b2 => ?_)
  refine aQ Z Z (ltN Z) (fun b3 => ?_)
  refine aP (T:=43) Z (ltN Z) (fun b4 => ?_)
  refine aP (T:=43) Z (ltN Z) (fun b5 => ?_)
  refine Cn Z (Cp (aa (ae (a4 7 aU X W (Cl (ai Z) (Cl (ak 3 Z Z Z) ?_))))))
  refine Cl (am (di _) Z ⟨(cE _),Cq⟩) ?_
  refine Cl (ai Z) (Cl (ak 2 Z Z Z) ?_)
  refine Cl (am (di _) Z ⟨(cE _),Cq⟩) ?_
  refine Cn Z (Cp (Cn Z (Cp (aa (ae (ae (aj (Cm Z (Cl (aV Z) ?_)))))))))
  refine Cl (sF Y (cN Z Z)) (Cp (aa (az Z (aw (aa (ae (aj (Cm Z (Cm Z ?_)))))))))
  refine Cl (am (hdiv) Z ⟨H,H,Cq⟩) ?_
  refine Cm Z (Cl (ar Z Z) (Cl (ar Z Z) (Cn Z (Cn Z (Cp (aa (ae (aj (Cm Z ?_)))))))))
  refine Cl (am (di _) Z ⟨H,Cq⟩) ?_
  refine Cn Z (Cp (aa (ae (ae (aj (Cl (ai Z) (Cl (sF (by assumption) (ak 3 Z Z Z)) (Cm Z (sg0 Z Z Z Z ?_)))))))))
  refine sg0 Z Z Z Z (sg0 Z Z Z Z (Cl (bj Z Z) (Cp (aa (az Z (aw (aa (ae (aj ?_)))))))))
  refine Cl (ai Z) (Cl (sF (by assumption) (ak 3 Z Z Z)) (Cl (ai Z) (Cl (ak 2 Z Z Z) (Cl (jp Z Z) (Cm Z ?_)))))
  refine Cl (am (hv1 _) Z ⟨H,H,Cq⟩) ?_
  refine Cm Z ?_
  refine Cl (am (hv2 _) Z ⟨H,(cE _),Cq⟩) ?_
  refine aB 1 Z Z Z Z Z (leN Z) Z (aB 0 Z Z Z Z Z (leN Z) Z (Cn Z (Cp (aa (aD ?_)))))
  refine iy Tryz.results98 (.cellB 1 Z Z Z (bZ (by rw [(g1 Y).1]; exact yO _ _))) (.cellB 0 Z Z Z (bZ (by rw [(g1 Y).2]; rfl))) (.tmp Z H)
end Tor
end
section
namespace Tor
open Go Go.RowKit Go.Proofs
attribute [local irreducible] J PJ aJ one slT cv bB bL exT cp eP aW aN slV VT.le Ret bK
theorem AE (a b:Int) (ha:bI a) (hb:bI b):Ok Tryz.prog 120 [aK a,aK b] (aK (Nat.gcd a.natAbs b.natAbs)):=by
 have ha':(aF a.natAbs).length≤1099511627776:=ha
 have hb':(aF b.natAbs).length≤1099511627776:=hb
 unfold aK
 refine Ok.enter Tryz.func120 Z Tryz.ntmps120 Z (fun w O => ?_)
 refine ae (aj ?_)
 refine aQ Z Z (ltN Z) (fun b2 => ?_)
 refine aQ Z Z (ltN Z) (fun b3 => ?_)
 refine aP (T:=43) Z (ltN Z) (fun b4 => ?_)
 refine Cp (aa (ae (a4 7 aU X W (Cl (ai Z) (Cl (ak 2 Z Z Z) ?_)))))
 refine Cl (am (di _) Z ⟨(cE _),Cq⟩) ?_
 refine Cl (ai Z) (Cl (ak 1 Z Z Z) ?_)
 refine Cl (am (di _) Z ⟨(cE _),Cq⟩) ?_
 refine Cn Z (Cp (Cn Z (Cp (aa (ae (av (cx (Γ' := [(4,_),(5,_),(6,_)]) Cg (SubM.refl _) ?_)))))))
 refine bE (σ:=Nat × Nat) (Γk := [(4,_)]) Cg (fun p => [(5,ci (aF p.1)),(6,ci (aF p.2))]) (fun p M0=>M0) (fun p=>Nat.gcd p.1 p.2=Nat.gcd a.natAbs b.natAbs∧(aF p.1).length≤1099511627776∧(aF p.2).length≤1099511627776) (fun p=>p.2) ((a.natAbs,b.natAbs)) (⟨rfl,ha',hb'⟩) Ch (.keep Ck (.keep Ck (.keep Ck (.nil)))) (fun p hp => ?_)
 refine bY (Γ' := [(5,_),(6,_),(4,_)]) (M' := [_,_,_]) Z Z ?_
 obtain ⟨x,y⟩:=p
 dsimp only at hp ⊢
 obtain ⟨p1,p2,p3⟩:=hp
 by_cases hy:y=0
 ·subst hy
  have hl:(aF 0).length=0:=rfl
  have hcl:=jx (aF x) p2
  have hv:=dW false x
  rw [Nat.gcd_zero_right] at p1
  rw [← p1]
  unfold aK at hv
  refine ae (ae (aj (Cm Z (Cl (aV Z) (Cl (sF Y (ek Z Z)) (Cm Z (sg0 Z Z Z Z (sg0 Z Z Z Z (sg0 Z Z Z Z ?_)))))))))
  refine sg0 Z Z Z Z (sg0 Z Z Z Z (sg0 Z Z Z Z (Cl (bj Z Z) (Cp (aa (az Z (aX (au (au ?_)))))))))
  refine aC (aa (ae (ae (aj (Cm Z (Cl (aV Z) (Cl (sT Y (cN Z Z)) (Cp (aa ?_)))))))))
  refine aI Z (ae (aj (Cm Z ?_)))
  refine Cl (am (hcl) Z ⟨H,Cq⟩) ?_
  refine Cl (am (hv) Z ⟨H,(cE _),Cq⟩) ?_
  refine aB 0 Z Z Z Z Z (leN Z) Z (Cp (aa (aD (aE ?_))))
  refine aO Tryz.results120 (.cellB 0 Z Z Z H)
 ·have hl:(aF y).length≠0:=fun h=>hy (gR h)
  have hd:=pw x y hy p2
  have hm:=Nat.mod_lt x (Nat.pos_of_ne_zero hy)
  have hg:Nat.gcd y (x % y)=Nat.gcd a.natAbs b.natAbs:=by rw [← p1,Nat.gcd_comm y, ← Nat.gcd_rec,Nat.gcd_comm]
  have hml:=bT (Nat.le_of_lt hm)
  refine ae (ae (aj (Cm Z (Cl (aV Z) (Cl (sT Y (ek Z Z)) (Cm Z (Co (ab Z) (Co (aV Z) (Co (ab Z) ?_)))))))))
  refine Co (aV Z) (Co (nl Z Z) (Co (ek Z Z) (Cl (a6 Z Z) (Cp (aa ?_)))))
  refine pX Z (fun hc => ?_) (fun hc => ?_)
  ·refine aw (aa (av (ae (aj (Cm Z (Cm Z ?_))))))
   refine Cl (am (hd) Z ⟨H,H,Cq⟩) ?_
   refine Cm Z (Cl (ar Z Z) (Cl (ar Z Z) (Cn Z (Cn Z (Cp (aa (aj (Cm Z (Cm Z ?_)))))))))
   refine Cl (am (di _) Z ⟨H,Cq⟩) ?_
   refine Cn Z (Cn Z (Cp (aA ?_)))
   refine aS ((y,x % y)) (⟨hg,p3,by dsimp only;omega⟩) (by assumption) Ch (.keep Ck (.keep Ck (.keep Ck (.nil))))
  ·have hx2:(aF x).length≤2:=by omega
   have hy2:(aF y).length≤2:=by omega
   have hw1:=m9 (aF x) (a7 x) hx2
   have hw2:=m9 (aF y) (a7 y) hy2
   rw [bQ] at hw1 hw2
   have x64:x<18446744073709551616:=Nat.lt_of_lt_of_le (cR x) (Nat.pow_le_pow_right (n:=4294967296) W hx2)
   have y64:y<18446744073709551616:=Nat.lt_of_lt_of_le (cR y) (Nat.pow_le_pow_right (n:=4294967296) W hy2)
   refine aX (au (au (aC (aa (ae (ae (aj (Cm Z (Cl (aV Z) ?_)))))))))
   refine Cl (sF Y (cN Z Z)) (Cp (aa (az Z (aw (aa (ae (aj (Cm Z ?_))))))))
   refine Cl (am (hw1) Z ⟨H,Cq⟩) ?_
   refine Cm Z ?_
   refine Cl (am (hw2) Z ⟨H,Cq⟩) ?_
   refine Cn Z (Cn Z (Cp (aa (ae (av (cx (Γ' := [(4,_),(9,_),(10,_)]) Cg (SubM.refl _) ?_))))))
   refine bE (σ:=Nat × Nat) (Γk := [(4,_)]) Cg (fun q => [(9,one (.int .u64 (q.1:Nat))),(10,one (.int .u64 (q.2:Nat)))]) (fun q M0=>M0) (fun q=>Nat.gcd q.1 q.2=Nat.gcd a.natAbs b.natAbs∧q.1<18446744073709551616∧q.2<18446744073709551616) (fun q=>q.2) ((x,y)) (⟨p1,x64,y64⟩) Ch (.keep Ck (.keep Ck (.keep Ck (.nil)))) (fun q hq => ?_)
   refine bY (Γ' := [(9,_),(10,_),(4,_)]) (M' := [_,_,_]) Z Z ?_
   obtain ⟨u,v⟩:=q
   dsimp only at hq ⊢
   obtain ⟨q1,q2,q3⟩:=hq
   by_cases hv0:v=0
   ·subst hv0
    rw [Nat.gcd_zero_right] at q1
    have hlu:=ju u q2
    have hv:=dW false u
    rw [← q1]
    unfold aK at hv
    refine ae (ae (aj (Cm Z (Cl (sF Y (ek Z Z)) (Cp (aa (az Z (aX (au ?_)))))))))
    refine au (aC (aa (ae (aj (Cm Z ?_)))))
    refine Cl (am (hlu) Z ⟨H,Cq⟩) ?_
    refine Cl (am (hv) Z ⟨H,H,Cq⟩) ?_
    refine aB 0 Z Z Z Z Z (leN Z) Z (Cp (aa (aD ?_)))
    refine aO Tryz.results120 (.cellB 0 Z Z Z H)
   ·have hvm:=Nat.mod_lt u (Nat.pos_of_ne_zero hv0)
    have hvg:Nat.gcd v (u % v)=Nat.gcd a.natAbs b.natAbs:=by rw [← q1,Nat.gcd_comm v, ← Nat.gcd_rec,Nat.gcd_comm]
    refine ae (ae (aj (Cm Z (Cl (sT Y (ek Z Z)) (Cp (aa (aI Z (aw (aa ?_)))))))))
    refine av (a4 5 aU X W (Cm Z (Cm Z (Cm Z (Cl (nH _ Z Z Z Y) (Cn Z (Cp (Cn Z (Cp ?_)))))))))
    refine aA ?_
    refine aS ((v,u % v)) (⟨hvg,q3,by dsimp only;omega⟩) (by assumption) Ch (.keep Ck (.keep Ck (.keep Ck (.nil))))
end Tor
end
section
namespace Tor
open Go Go.RowKit Go.Proofs
def fA (n d:Int):VT:=bB 4 [(0, .agg 2,aK n),(2, .agg 2,aK d)]
def bD (q:Rat):VT:=fA q.num q.den
theorem iL {n n' d d':Int} (h:n=n') (h':d=d'):VT.le (bB 4 [(0, .agg 2,aK n),(2, .agg 2,aK d)]) (fA n' d'):=h▸h'▸VT.le_refl _
instance {n d:Int} : Flat (fA n d) (.agg 4):=by unfold fA;infer_instance
instance {q:Rat} : Flat (bD q) (.agg 4):=by unfold bD;infer_instance
theorem ul {n d:Int} (h:0<d):n / ((Nat.gcd n.natAbs d.natAbs:Nat):Int)=(Rat.divInt n d).num∧d / ((Nat.gcd n.natAbs d.natAbs:Nat):Int)=((Rat.divInt n d).den:Int):=by
 have e:Int.gcd d n=Nat.gcd n.natAbs d.natAbs:=Nat.gcd_comm _ _
 rw [Rat.num_divInt,Rat.den_divInt,if_neg Y,e,Int.sign_eq_one_of_pos h,Int.one_mul]
 refine ⟨rfl,?_⟩
 rw [Int.natCast_ediv,Int.natAbs_of_nonneg (Int.le_of_lt h)]
theorem um {n d:Int} (h:d<0):n / -((Nat.gcd n.natAbs d.natAbs:Nat):Int)=(Rat.divInt n d).num∧d / -((Nat.gcd n.natAbs d.natAbs:Nat):Int)=((Rat.divInt n d).den:Int):=by
 have e:Int.gcd d n=Nat.gcd n.natAbs d.natAbs:=Nat.gcd_comm _ _
 have h1:((Nat.gcd n.natAbs d.natAbs:Nat):Int)∣n:=Int.gcd_dvd_left ..
 have h2:((Nat.gcd n.natAbs d.natAbs:Nat):Int)∣d:=Int.gcd_dvd_right ..
 rw [Rat.num_divInt,Rat.den_divInt,if_neg Y,e,Int.sign_eq_neg_one_of_neg h,Int.ediv_neg,Int.ediv_neg]
 refine ⟨?_,?_⟩
 ·rw [Int.neg_mul,Int.one_mul,Int.neg_ediv_of_dvd h1]
 ·rw [Int.natCast_ediv, ← Int.neg_ediv_of_dvd h2]; congr 1;omega
theorem vy {n d:Int} (h:d≠0) (hs:bI d):bI ((Nat.gcd n.natAbs d.natAbs:Nat):Int):=by
 have h1:Nat.gcd n.natAbs d.natAbs≤d.natAbs:=Nat.le_of_dvd Y (Nat.gcd_dvd_right _ _)
 unfold bI at *
 rw [Int.natAbs_natCast]
 exact Nat.le_trans (bT h1) hs
theorem w7 {n d:Int} (h:d≠0):((Nat.gcd n.natAbs d.natAbs:Nat):Int)≠0:=by
 have:=Nat.gcd_pos_of_pos_right n.natAbs (show 0<d.natAbs by omega)
 omega
attribute [local irreducible] J PJ aJ one slT cv bB bL exT cp eP aW aN slV VT.le Ret bK
theorem vz (n d:Int) (hd:d≠0) (hn:bI n) (hds:bI d):Ok Tryz.prog 84 [fA n d] (bD (Rat.divInt n d)):=by
 have hg:=AE n d hn hds
 have hgs:=vy (n:=n) hd hds
 have hg0:=w7 (n:=n) hd
 have hsi:=gM d
 unfold bD fA
 refine Ok.enter Tryz.func84 Z Tryz.ntmps84 Z (fun w O => ?_)
 by_cases h:d<0
 ·obtain ⟨l1,l2⟩:=um (n:=n) h
  have hs:dQ d = -1:=by unfold dQ;rw [if_neg hd,if_pos h]
  rw [hs] at hsi
  refine ae (aj ?_)
  refine aQ Z Z (ltN Z) (fun b1 => ?_)
  refine aT (T:=45) Z Z Z (fun b2 => ?_)
  refine Cp (aa (ae (ae (aj (Cl (ai Z) (Cl (ak 1 Z Z Z) ?_))))))
  refine Cl (am (hsi) Z ⟨H,Cq⟩) ?_
  refine Cl (sF Y (cN Z Z)) (Cp (aa (az Z (aw (aa (ae (aj (Cl (ai Z) (Cl (ak 1 Z Z Z) ?_)))))))))
  refine Cl (ai Z) (Cl (ak 1 Z Z Z) ?_)
  refine Cl (am (hg) Z ⟨H,H,Cq⟩) ?_
  refine aP (T:=43) Z (ltN Z) (fun b3 => ?_)
  refine aB 0 Z Z Z Z Z (leN Z) Z (Cp (aa (ae (ae (aj (Cl (ai Z) (Cl (ak 2 Z Z Z) ?_)))))))
  refine Cl (am (hsi) Z ⟨H,Cq⟩) ?_
  refine Cl (sT Y (a9 Z Z)) (Cp (aa (aI Z (aj (Cl (ak 0 Z Z Z) ?_)))))
  refine Cl (am (ub _ (by assumption)) Z ⟨H,Cq⟩) ?_
  refine aB 0 Z Z Z Z Z (leN Z) Z (Cp (aa (ae (aj (Cl (ai Z) (Cl (ak 2 Z Z Z) (Cl (ak 0 Z Z Z) ?_)))))))
  refine Cl (am (gy _ _ Y (by assumption) (jV ‹_›)) Z ⟨H,H,Cq⟩) ?_
  refine Cm Z (Cl (ar Z Z) (Cl (ar Z Z) (Cl (ar Z Z) ?_)))
  refine aP (T:=43) Z (ltN Z) (fun b4 => ?_)
  refine aP (T:=43) Z (ltN Z) (fun b5 => ?_)
  refine aB 1 Z Z Z Z Z (leN Z) Z (aB 0 Z Z Z Z Z (leN Z) Z (Cn Z (Cp (aa (ae (aj (Cl (ai Z) (Cl (ak 4 Z Z Z) (Cl (ak 2 Z Z Z) ?_)))))))))
  refine Cl (am (gy _ _ Y (by assumption) (jV ‹_›)) Z ⟨H,H,Cq⟩) ?_
  refine Cm Z (Cl (ar Z Z) (Cl (ar Z Z) (Cl (ar Z Z) ?_)))
  refine aP (T:=43) Z (ltN Z) (fun b7 => ?_)
  refine aP (T:=43) Z (ltN Z) (fun b8 => ?_)
  refine aB 1 Z Z Z Z Z (leN Z) Z (aB 0 Z Z Z Z Z (leN Z) Z (Cn Z (Cp (aa (ae (aj (Cl (ak 3 Z Z Z) (Cl (ak 1 Z Z Z) (stB Z Z Z ?_)))))))))
  refine BuildK.cons Z Z Z (BuildK.cons Z Z Z (BuildK.nil (aR 5 Z Z Z Z (Cp (aa (aD ?_))))))
  refine aO Tryz.results84 (.cellW 5 Z Z (iL l1 l2))
 ·obtain ⟨l1,l2⟩:=ul (n:=n) (show 0<d by omega)
  have hs:dQ d=1:=by unfold dQ;rw [if_neg hd,if_neg h]
  rw [hs] at hsi
  refine ae (aj ?_)
  refine aQ Z Z (ltN Z) (fun b1 => ?_)
  refine aT (T:=45) Z Z Z (fun b2 => ?_)
  refine Cp (aa (ae (ae (aj (Cl (ai Z) (Cl (ak 1 Z Z Z) ?_))))))
  refine Cl (am (hsi) Z ⟨H,Cq⟩) ?_
  refine Cl (sF Y (cN Z Z)) (Cp (aa (az Z (aw (aa (ae (aj (Cl (ai Z) (Cl (ak 1 Z Z Z) ?_)))))))))
  refine Cl (ai Z) (Cl (ak 1 Z Z Z) ?_)
  refine Cl (am (hg) Z ⟨H,H,Cq⟩) ?_
  refine aP (T:=43) Z (ltN Z) (fun b3 => ?_)
  refine aB 0 Z Z Z Z Z (leN Z) Z (Cp (aa (ae (ae (aj (Cl (ai Z) (Cl (ak 2 Z Z Z) ?_)))))))
  refine Cl (am (hsi) Z ⟨H,Cq⟩) ?_
  refine Cl (sF Y (a9 Z Z)) (Cp (aa (az Z (aw (aa (ae (aj (Cl (ai Z) (Cl (ak 2 Z Z Z) ?_)))))))))
  refine Cl (ak 0 Z Z Z) ?_
  refine Cl (am (gy _ _ (by assumption) (by assumption) (by assumption)) Z ⟨H,H,Cq⟩) ?_
  refine Cm Z (Cl (ar Z Z) (Cl (ar Z Z) (Cl (ar Z Z) ?_)))
  refine aP (T:=43) Z (ltN Z) (fun b4 => ?_)
  refine aP (T:=43) Z (ltN Z) (fun b5 => ?_)
  refine aB 1 Z Z Z Z Z (leN Z) Z (aB 0 Z Z Z Z Z (leN Z) Z (Cn Z (Cp (aa (ae (aj (Cl (ai Z) (Cl (ak 4 Z Z Z) (Cl (ak 2 Z Z Z) ?_)))))))))
  refine Cl (am (gy _ _ (by assumption) (by assumption) (by assumption)) Z ⟨H,H,Cq⟩) ?_
  refine Cm Z (Cl (ar Z Z) (Cl (ar Z Z) (Cl (ar Z Z) ?_)))
  refine aP (T:=43) Z (ltN Z) (fun b7 => ?_)
  refine aP (T:=43) Z (ltN Z) (fun b8 => ?_)
  refine aB 1 Z Z Z Z Z (leN Z) Z (aB 0 Z Z Z Z Z (leN Z) Z (Cn Z (Cp (aa (ae (aj (Cl (ak 3 Z Z Z) (Cl (ak 1 Z Z Z) (stB Z Z Z ?_)))))))))
  refine BuildK.cons Z Z Z (BuildK.cons Z Z Z (BuildK.nil (aR 5 Z Z Z Z (Cp (aa (aD ?_))))))
  refine aO Tryz.results84 (.cellW 5 Z Z (iL l1 l2))
theorem w8 (n d:Int) (hd:d≠0) (hn:bI n) (hds:bI d):Ok Tryz.prog 46 [aK n,aK d] (bL [bD (Rat.divInt n d),one (.int .i64 0)]):=by
 have hlow:=vz n d hd hn hds
 have hs:dQ d≠0:=by unfold dQ;rw [if_neg hd]; split <;> decide
 unfold bD fA at *
 refine Ok.enter Tryz.func46 Z Tryz.ntmps46 Z (fun w O => ?_)
 refine ae (aj ?_)
 refine aQ Z Z (ltN Z) (fun b2 => ?_)
 refine aQ Z Z (ltN Z) (fun b3 => ?_)
 refine aT (T:=45) Z Z Z (fun b4 => ?_)
 refine Cn Z (Cp (aa (ae (ae (aj (Cl (aL 1 Z Z) ?_))))))
 refine Cl (am (gM _) Z ⟨H,Cq⟩) ?_
 refine Cl (sF (by assumption) (cN Z Z)) (Cp (aa (az Z (aw (aa (ae (aj (Cl (aL 2 Z Z) (Cl (aL 1 Z Z) ?_)))))))))
 refine stB Z Z Z (BuildK.cons Z Z Z (BuildK.cons Z Z Z (BuildK.nil ?_)))
 refine Cl (am (hlow) Z ⟨H,Cq⟩) ?_
 refine aR 0 Z Z Z Z (Cn Z (Cp (aa (aD ?_))))
 refine eX Tryz.results46 (.cellW 0 Z Z H) (.tmp Z H)
end Tor
end
section
namespace Tor
open Go Go.RowKit Go.Proofs
section
variable {P:Program} {E:Env} {Γ:Ctx} {M:Mem} {d:Option Tmp} {ty:TypeId} {pos:String} {af:Array Edge} {gd:Option (Nat × Bool)}
theorem AF {T T':TypeId} {x y:Operand} {a b:Nat} (hx:aH Γ x=some (one (.int .u32 (a:Int)))) (hy:aH Γ y=some (one (.int .u32 (b:Int)))) (h:a*b<4294967296) :
  aJ P E Γ M ⟨d, .binOp .mul T x y T',ty,pos,af,gd⟩ (one (.int .u32 ((a*b:Nat):Int))) :=
 mz hx hy (by
  rw [nt, ← Int.natCast_mul]
  generalize a*b=z at *
  omega)
theorem vA {L:Lay} {k m j:Nat} {c c':Array Value} {x:Value} (h:bN (.agg m) c k=some (.agg c')) (hx:bN L c' j=some x):bN L c (k+j)=some x:=by
 simp only [bN] at h
 split at h
 ·rename_i hk
  cases h
  cases L with
  | one =>
   simp only [bN] at hx ⊢
   rw [cI] at hx
   split at hx
   ·exact hx
   ·cases hx
  | agg n =>
   simp only [bN] at hx ⊢
   have hs:(c.extract k (k+m)).size=m:=by simp;omega
   rw [hs] at hx
   split at hx
   ·rename_i hj
    rw [if_pos Y]
    rw [← hx]
    congr 2
    apply Array.ext_getElem?
    intro i
    rw [cI,cI,cI]
    by_cases hi:i<n
    ·rw [if_pos hi,if_pos hi,if_pos Y,Nat.add_assoc]
    ·rw [if_neg hi,if_neg hi]
   ·cases hx
 ·cases h
theorem bt {T T':TypeId} {L:Lay} [LayOf P T L] {x:Operand} {b o m m':Nat} {cs cs':cw} {φ:VT} (i k j:Nat) (hx:aH Γ x=some (one (.pointer (some ⟨b,o,none⟩)))) (hM:M[i]? = some (aW b T' m cs))
  (hl:gb cs k=some (.agg m',bB m' cs')) (ho:o=k+j) (hl2:gb cs' j=some (L, φ)):aJ P E Γ M ⟨d, .load T x,ty,pos,af,gd⟩ φ :=
 aJ.ofRun fun a w hb hf=>by
  have h1:a.eval x = .pointer (some ⟨b,o,none⟩):=hf x _ (by simp [Op.operands]) hx
  obtain ⟨c,hc,_,_,hcs⟩:=dU hb hM
  obtain ⟨v,hx',c',rfl,hs',_,hcs'⟩:=hcs _ (fe hl)
  obtain ⟨y,hy,hp⟩:=hcs' _ (fe hl2)
  refine ⟨y,?_,hp⟩
  have h2:=vA hx' hy
  subst ho
  simp only [execOp,h1,Instr.loadAt,Instr.sureAddr,Sem.run_bind,Sem.run_pure,Result.andThen_ok,dg hc h2]
theorem qB {b:Nat} {T:TypeId} {m:Nat} {cs:cw} {φ:VT} (h:VT.le (bB m cs) φ):Own.le (aW b T m cs) (aW b T m [(0, .agg m, φ)]) :=
 ⟨rfl,fun g h' ⟨c,hb,hs,ha,hc⟩=>⟨c,hb,hs,ha,fun q hq=>by
  rw [List.mem_singleton.1 hq]
  exact ⟨.agg c,by subst hs;simp [bN],h _ _ ⟨c,rfl,hs,ha,hc⟩⟩⟩⟩
theorem kC {ops:Array Oper} {i:Nat} {os:List Oper} {K:List Deferred→Ctx→Mem→Prop} {D:List Deferred} {t:Nat} {φ ψ:VT} (ht:bH Γ t=some φ) (hle:VT.le φ ψ) (h:Run P E ops false i D ((t, ψ) :: Γ) M os K):Run P E ops false i D Γ M os K :=
 .conv (fun a w hS=>hS.sub (fun s χ hs=>by
  rw [bp] at hs
  split at hs
  ·rename_i e;subst e;cases hs;exact ⟨φ,ht,hle⟩
  ·exact ⟨χ,hs,H⟩) (SubM.refl _)) h
end
attribute [local irreducible] J PJ aJ one slT cv bB bL exT cp eP aW aN slV VT.le Ret bK
theorem px (l:List Nat) (d:Nat) (hl:bA l) (h1:l.length≤1099511627776) (hd0:0<d) (hd:d<4294967296):Ok Tryz.prog 140 [ci l,one (.int .u32 (d:Nat))] (bL [oR (lv l / d),one (.int .u32 ((lv l % d:Nat):Int))]):=by
 refine Ok.enter Tryz.func140 Z Tryz.ntmps140 Z (fun w O => ?_)
 refine ae (aj (Cn Z (Cn Z (Cp (aa (ae (aj (Cm Z (Cl (aV Z) ?_)))))))))
 refine bX l.length l.length Z Z Z Z (Nat.le_refl _) Z Z Y Z Z (fun bz => ?_)
 refine Cn Z (Cn Z (Cp (aa (ae (ae (aj (Cm Z (Cl (aV Z) (Cl (eG Z Z (aM Y Y)) ?_)))))))))
 refine Cn Z (Cp (aa (av (cx (Γ' := [(0,_),(1,_),(4,_),(5,_),(6,_),(7,_),(8,_)]) Cg (SubM.refl _) ?_))))
 refine bE (σ:=List Nat × Nat × Nat) (Γk := [(0,_),(1,_),(4,_),(5,_),(6,_)]) Cg (fun s => [(8,one (.int .i64 ((s.2.1:Nat) - 1:Int))),(7,one (.int .u64 (s.2.2:Nat)))]) (fun s M0=>(M0.set 0 (aN (some bz) 116 .one l.length l.length (fun q=>one (.int .u32 (s.1.getD q 0:Nat)))))) (fun s=>ShortR l d s) (fun s=>s.2.1) ((List.replicate l.length 0,l.length,0)) (ShortR.start hd0) Ch (.keep (bJ (fun q _=>by rw [cD]; rfl)) (.nil)) (fun s hs => ?_)
 refine bY (Γ' := [(8,_),(7,_),(0,_),(1,_),(4,_),(5,_),(6,_)]) (M' := [_]) Z Z ?_
 obtain ⟨z,n,r⟩:=s
 dsimp only at hs ⊢
 refine ae (ae (aj (Cm Z (Cl (jo Z Z) (Cp (aa ?_))))))
 cases n with
 | zero =>
  obtain ⟨f1,f2⟩:=hs.finish
  have hlen:z.length=l.length:=hs.len
  have hr:r<d:=hs.r
  rw [← f1, ← f2]
  refine mT Z Y (aX (au (au (aC (aa (ae (aj (Cm Z (Cm Z ?_)))))))))
  refine Cl (cG Z) (Cn Z (Cn Z (Cp (aa (aD (cJ (t:=4) (i:=0) Z Z ?_))))))
  refine eX Tryz.results140 (.tmp Z (VT.le_trans (cX (m:=z.length) (ψ:=fun i=>one (.int .u32 (z.getD i 0:Nat))) hlen.symm (fun q hq=>rfl)) (ib (l:=z) hs.lim Z Y))) (.tmp Z (ao (by congr 1;omega)))
 | succ n =>
  have hx:=bg hl n
  have hr:r<d:=hs.r
  have hb:=ShortR.bound hx hr hd
  have hst:=hs.step hl hd
  have hn:n<l.length:=hs.le
  have hzn:n<z.length:=by have:=hs.len;dsimp only at this;omega
  have en:((n+1:Nat):Int) - 1=(n:Nat):=by omega
  rw [en]
  refine mS Z Y (aw (aa (ae (av (ae (aj (Cm Z (Cl (io (b:=4294967296) Z Z Y) (Cm Z ?_)))))))))
  refine Cm Z (Cl (ax Z Z Y) (Cl (aG Z) (Cl (bM Z Y) (Cl (ep Z Z Y) (Cn Z (Cp (aa (ae (aj ?_)))))))))
  refine Cm Z (Cm Z (Cm Z (Cm Z (Cl (bM Z Y) (Cl (ku Z Z Y Y) (Cl (cG Z) (Cl (an Z Z Y) ?_)))))))
  (refine ay 0 Z Z Z ?_ Z ?_;omega)
  refine Cp (aa (aj (Cm Z (Cm Z (Cl (bM Z Y) (Cl (nH _ Z Z Z Y) (Cn Z (Cp (aA ?_)))))))))
  refine aa (aj (Cm Z (Cl (eG Z Z (aM Y Y)) (Cn Z (Cp ?_)))))
  refine aS ((z.set n ((r*4294967296+l.getD n 0) / d),n,(r*4294967296+l.getD n 0) % d)) (hst) (by (simp only []; omega)) Ch (.keep (qw hzn (Nat.mod_eq_of_lt hb.2)) (.nil))
def vB (r d:Nat):Nat :=
 if (aF r).length=(aF d).length then max 1 ((aF r).getD ((aF r).length - 1) 0 / ((aF d).getD ((aF d).length - 1) 0+1))
 else (((aF r).getD ((aF r).length - 1) 0*4294967296+(aF r).getD ((aF r).length - 2) 0) / ((aF d).getD ((aF d).length - 1) 0+1))*4294967296^((aF r).length - (aF d).length - 1)
theorem jX {v:Nat} {n:Nat} (h:(aF v).length=n+1):v=lv ((aF v).take n)+4294967296^n*(aF v).getD n 0∧lv ((aF v).take n)<4294967296^n:=by
 have h1:=bF (l:=aF v) (k:=n) Y
 rw [List.take_of_length_le Y,bQ] at h1
 exact ⟨h1,by have:=ob (a7 v) n;rwa [← wY] at this⟩
theorem w9 {r d:Nat} (hd:d≠0) (h:d≤r):0<vB r d∧vB r d*d≤r:=by
 have hlen:=bT h
 have hdl:(aF d).length≠0:=fun k=>hd (gR k)
 obtain ⟨m,hm⟩ : ∃ m,(aF d).length=m+1:=⟨(aF d).length - 1,by omega⟩
 obtain ⟨e,he⟩ : ∃ e,(aF r).length=m+1+e:=⟨(aF r).length - (m+1),by omega⟩
 have hdt:=bg (a7 d) m
 obtain ⟨d1,d2⟩:=jX hm
 unfold vB
 rw [hm,he]
 simp only [Nat.add_sub_cancel] at *
 generalize hx:(aF d).getD m 0=x at *
 generalize lv ((aF d).take m)=dl at *
 have hdlt:d<4294967296^m*(x+1):=by rw [Nat.mul_add]; omega
 cases e with
 | zero =>
  rw [if_pos Z]
  obtain ⟨r1,r2⟩:=jX he
  simp only [Nat.add_zero,Nat.add_sub_cancel] at *
  generalize (aF r).getD m 0=y at *
  generalize lv ((aF r).take m)=rl at *
  refine ⟨by omega,?_⟩
  rcases Nat.eq_zero_or_pos (y / (x+1)) with hq | hq
  ·rw [hq]; simpa using h
  ·rw [Nat.max_eq_right hq]
   have h1:y / (x+1)*d≤y / (x+1)*(4294967296^m*(x+1)):=Nat.mul_le_mul_left _ (Nat.le_of_lt hdlt)
   have h2:y / (x+1)*(4294967296^m*(x+1))=4294967296^m*(y / (x+1)*(x+1)):=by rw [Nat.mul_left_comm]
   have h3:4294967296^m*(y / (x+1)*(x+1))≤4294967296^m*y:=Nat.mul_le_mul_left _ (Nat.div_mul_le_self _ _)
   omega
 | succ e =>
  rw [if_neg Y]
  rw [show m+1+(e+1) - 1=m+e+1 by omega,show m+1+(e+1) - 2=m+e by omega,show m+1+(e+1) - (m+1) - 1=e by omega]
  obtain ⟨r1,r2⟩:=jX (show (aF r).length=(m+e+1)+1 by omega)
  have r3:=bF (l:=aF r) (k:=m+e) Y
  have hy0:(aF r).getD (m+e+1) 0≠0:=by
   intro hy
   have:=cy (n:=r) (k:=m+e+1) (by rw [hy,Nat.mul_zero,Nat.add_zero] at r1;rw [r1]; exact r2)
   omega
  generalize (aF r).getD (m+e+1) 0=y at *
  generalize (aF r).getD (m+e) 0=y2 at *
  rw [r3] at r1
  generalize lv ((aF r).take (m+e))=rl at *
  have hqp:0<(y*4294967296+y2) / (x+1):=Nat.div_pos Y Y
  have hle:=Nat.div_mul_le_self (y*4294967296+y2) (x+1)
  generalize (y*4294967296+y2) / (x+1)=q at *
  refine ⟨Nat.mul_pos hqp (Nat.pow_pos W),?_⟩
  have h1:q*4294967296^e*d≤q*4294967296^e*(4294967296^m*(x+1)):=Nat.mul_le_mul_left _ (Nat.le_of_lt hdlt)
  have h2:q*4294967296^e*(4294967296^m*(x+1))=4294967296^(m+e)*(q*(x+1)):=by
   rw [Nat.pow_add]; ac_rfl
  have h3:4294967296^(m+e)*(q*(x+1))≤4294967296^(m+e)*(y*4294967296+y2):=Nat.mul_le_mul_left _ hle
  have h4:4294967296^(m+e+1)*y=4294967296^(m+e)*(y*4294967296):=by rw [Nat.pow_succ]; ac_rfl
  rw [Nat.mul_add (4294967296^(m+e)) (y*4294967296) y2] at h3
  rw [h4] at r1
  rw [h2] at h1
  generalize 4294967296^(m+e)*(y*4294967296)=z1 at *
  generalize 4294967296^(m+e)*y2=z2 at *
  refine Nat.le_trans h1 (Nat.le_trans h3 ?_)
  rw [r1]
  exact Nat.le_trans (Nat.add_comm z1 z2▸Nat.le_refl _) (Nat.add_le_add_right (Nat.le_add_left _ _) _)
end Tor
end
section
namespace Tor
open Go Go.RowKit Go.Proofs
theorem yP (a b:Nat):VT.le (slT .one 2 (fun q => [one (.int .u32 (b:Int)),one (.int .u32 (a:Int))].reverse.getD q bK)) (slT .one 2 (fun q=>one (.int .u32 (([a,b].getD q 0:Nat):Int)))) :=
 cX Z (fun q hq=>by
  match q,hq with
  | 0, _ => rfl
  | 1, _ => rfl)
theorem AG {k q:Nat} (hq:q<18446744073709551616) (hk:k≤1099511627776):VT.le (slT .one (k+2) (fun p=>if p<k then one (.int .u32 0) else (fun j=>one (.int .u32 (([q % 4294967296,q / 4294967296 % 4294967296].getD j 0:Nat):Int))) (p - k))) (oR (q*4294967296^k)) :=
 VT.le_trans (cX (m:=(List.replicate k 0 ++ [q % 4294967296,q / 4294967296 % 4294967296]).length) (ψ:=f8 (List.replicate k 0 ++ [q % 4294967296,q / 4294967296 % 4294967296])) (by simp) (fun p hp=>by
  unfold f8
  by_cases h:p<k
  ·rw [if_pos h]; simp [List.getD,List.getElem?_append,h]
  ·rw [if_neg h]; simp only [List.getD,List.getElem?_append,List.length_replicate,if_neg h])) (ib (fun d hd=>by
   rcases List.mem_append.1 hd with h | h
   ·rw [(List.mem_replicate.1 h).2]; decide
   ·rcases List.mem_cons.1 h with rfl | h
    ·exact Nat.mod_lt _ W
    ·rw [List.mem_singleton.1 h]; exact Nat.mod_lt _ W) (by
   rw [fG,er,List.length_replicate,Nat.zero_add,Nat.mul_comm]
   congr 1
   simp only [lv]
   omega) (by simp;omega))
attribute [local irreducible] J PJ aJ one slT cv bB bL exT cp eP aW aN slV VT.le Ret bK
theorem rT (r d:Nat) (hd:d≠0) (h:d≤r) (hl:(aF r).length≤1099511627776):Ok Tryz.prog 141 [ci (aF r),ci (aF d)] (aK ((vB r d:Nat):Int)):=by
 have hlen:=bT h
 have hdl:(aF d).length≠0:=fun k=>hd (gR k)
 have hx:=bg (a7 d) ((aF d).length - 1)
 have hy:=bg (a7 r) ((aF r).length - 1)
 have hz:=bg (a7 r) ((aF r).length - 2)
 unfold vB
 refine Ok.enter Tryz.func141 Z Tryz.ntmps141 Z (fun w O => ?_)
 by_cases hk:(aF r).length=(aF d).length
 ·rw [if_pos hk]
  refine ae (aj ?_)
  refine aP (T:=43) Z (ltN Z) (fun b4 => ?_)
  refine Cp (aa (ae (a4 17 aU X W (Cm Z (Cl (aV Z) (Cm Z (Cl (aV Z) (Cl (ct _ _ Z Z Y Y) (Cm Z ?_)))))))))
  refine Cl (aV Z) (Cm Z (Cm Z (Cl (aV Z) (Cl (ct _ 1 Z Z Y Y) (Cl (ax Z Z Y) (Cl (aG Z) (Cl (bM Z Y) (Cl (ep (b:=1) Z Z Y) (Cn Z ?_)))))))))
  refine Cn Z (Cp (Cn Z (Cp (aa (ae (ae (aj (Cm Z (Cl (sT Y (cN Z Z)) ?_)))))))))
  refine Cp (aa (aI Z (ae (aj (Cm Z (Cm Z (Cl (ct _ 1 Z Z Y Y) (Cl (ax Z Z Y) (Cl (aG Z) ?_)))))))))
  refine Cl (bM Z Y) (Cm Z (Cl (ku Z Z Y Y) (Cl (nl Z Z) ?_)))
  have hq:=Nat.div_le_self ((aF r).getD ((aF r).length - 1) 0) ((aF d).getD ((aF d).length - 1) 0+1)
  generalize (aF r).getD ((aF r).length - 1) 0 / ((aF d).getD ((aF d).length - 1) 0+1)=q at *
  refine Cl (fL Z Y Y) ?_
  refine Cl (am (it _ Y Y) Z ⟨H,Cq⟩) ?_
  refine aB 0 Z Z Z Z Z (leN Z) Z (Cp (aa (aD (aE ?_))))
  refine aO Tryz.results141 (.cellB 0 Z Z Z (bZ Y))
 ·rw [if_neg hk]
  refine ae (aj ?_)
  refine aP (T:=43) Z (ltN Z) (fun b4 => ?_)
  refine Cp (aa (ae (a4 17 aU X W (Cm Z (Cl (aV Z) (Cm Z (Cl (aV Z) (Cl (ct _ _ Z Z Y Y) (Cm Z ?_)))))))))
  refine Cl (aV Z) (Cm Z (Cm Z (Cl (aV Z) (Cl (ct _ 1 Z Z Y Y) (Cl (ax Z Z Y) (Cl (aG Z) (Cl (bM Z Y) (Cl (ep (b:=1) Z Z Y) (Cn Z ?_)))))))))
  refine Cn Z (Cp (Cn Z (Cp (aa (ae (ae (aj (Cm Z (Cl (sF Y (cN Z Z)) ?_)))))))))
  refine Cp (aa (az Z (aw (aa (ae (a4 16 aU X W (Cm Z (Cm Z (Cl (ct _ 1 Z Z Y Y) ?_)))))))))
  refine Cl (ax Z Z Y) (Cl (aG Z) (Cl (bM Z Y) (Cl (io (b:=4294967296) Z Z Y) (Cm Z (Cm Z (Cl (ct _ 2 Z Z Y Y) (Cl (ax Z Z Y) (Cl (aG Z) (Cl (bM Z Y) ?_)))))))))
  refine Cl (ep Z Z Y) (Cm Z (Cl (ku Z Z Y Y) (Cp (Cn Z (Cp (aa (ae (aj (Cm Z ?_)))))))))
  refine Cl (ct _ 1 Z Z Y Y) ?_
  have hq:=Nat.div_le_self ((aF r).getD ((aF r).length - 1) 0*4294967296+(aF r).getD ((aF r).length - 2) 0) ((aF d).getD ((aF d).length - 1) 0+1)
  generalize ((aF r).getD ((aF r).length - 1) 0*4294967296+(aF r).getD ((aF r).length - 2) 0) / ((aF d).getD ((aF d).length - 1) 0+1)=q at *
  obtain ⟨k,hkk⟩ : ∃ k,k=(aF r).length - (aF d).length - 1:=⟨_,rfl⟩
  rw [← hkk]
  refine bX k k Z Z Z Z (Nat.le_refl _) Z Z Y Z Z (fun bz => ?_)
  refine Cn Z (Cp (aa (ae (aj (Cm Z (Cm Z (Cl (cG Z) (Cm Z (Cl (gl Z) ?_)))))))))
  refine Cl (cG Z) (stS Z Z Z Z (PartsK.cons Z (PartsK.cons Z (PartsK.nil (kC (t:=63) Z (yP _ _) ?_)))))
  (refine cV 0 Z Z Z (leN Z) ?_ ?_ Z (ltN Z) (fun sv64 cap64 => ?_);omega;omega)
  refine iT (t:=64) (j:=0) Z Z ?_
  have hq64:q<18446744073709551616:=by omega
  have hmd:=dt false (q*4294967296^k)
  rw [if_neg W] at hmd
  refine Cl (am (hmd) Z ⟨(AG hq64 Y),H,Cq⟩) ?_
  refine aB 0 Z Z Z Z Z (leN Z) Z (Cp (aa (aD ?_)))
  refine aO Tryz.results141 (.cellB 0 Z Z Z (bZ (by rw [hkk])))
theorem rU {d:Nat} (hd:d<4294967296):VT.le (slT .one 1 fun _=>one (.int .u32 (d:Int))) (oR d) :=
 VT.le_trans (cX (m := [d].length) (ψ:=f8 [d]) Z (fun q hq=>by
  have hq:q=0:=by omega
  subst hq;rfl)) (ib (fun x hx=>by rw [List.mem_singleton.1 hx]; exact hd) (by simp [lv]) (by simp))
theorem xa {b:Nat} (hb:b≠0):0<(aF b).getD ((aF b).length - 1) 0:=by
 have hdl:(aF b).length≠0:=fun k=>hb (gR k)
 obtain ⟨m,hm⟩ : ∃ m,(aF b).length=m+1:=⟨(aF b).length - 1,by omega⟩
 obtain ⟨d1,d2⟩:=jX hm
 rw [hm,Nat.add_sub_cancel]
 rcases Nat.eq_zero_or_pos ((aF b).getD m 0) with h | h
 ·rw [h,Nat.mul_zero,Nat.add_zero] at d1
  have:=cy (n:=b) (k:=m) (by rw [d1]; exact d2)
  omega
 ·exact h
theorem og {a s:Nat} (hs:s<4294967296):(aF (a*s)).length≤(aF a).length+1:=cy (by
 rw [Nat.pow_succ]
 have h1:=cR a
 rcases Nat.eq_zero_or_pos s with h | h
 ·subst h;rw [Nat.mul_zero]; exact Nat.mul_pos (Nat.pow_pos W) W
 ·exact Nat.mul_lt_mul'' h1 hs)
theorem AH {a b s q r:Nat} (hs:0<s) (hb:0<b) (h:q*(b*s)+r=a*s) (hr:r<b*s):q=a / b∧r / s=a % b:=by
 have h1:(a*s) / (b*s)=q:=by rw [← h,Nat.mul_comm q,Nat.mul_add_div Y,Nat.div_eq_of_lt hr,Nat.add_zero]
 have h2:(a*s) % (b*s)=r:=by rw [← h,Nat.mul_comm q,Nat.mul_add_mod,Nat.mod_eq_of_lt hr]
 rw [Nat.mul_div_mul_right _ _ hs] at h1
 rw [Nat.mul_mod_mul_right] at h2
 exact ⟨h1.symm,by rw [← h2,Nat.mul_div_cancel _ hs]⟩
theorem tp (a b:Nat) (hb:b≠0) (ha:(aF a).length≤1099511627700) (hbl:(aF b).length≤1099511627700):Ok Tryz.prog 134 [ci (aF a),ci (aF b)] (bL [aK ((a / b:Nat):Int),aK ((a % b:Nat):Int)]):=by
 have hbp:0<b:=by omega
 have hdl:(aF b).length≠0:=fun k=>hb (gR k)
 refine Ok.enter Tryz.func134 Z Tryz.ntmps134 Z (fun w O => ?_)
 by_cases h1:(aF b).length=1
 ·have hb1:=rQ h1
  have hd:=bg (a7 b) 0
  have hsh:=px (aF a) b (a7 a) Y Y Y
  rw [bQ] at hsh
  have hr:=Nat.mod_lt a hbp
  have hm1:=dt false (a / b)
  have hm2:=dt false (a % b)
  rw [if_neg W] at hm1 hm2
  refine ae (aj ?_)
  refine aP (T:=43) Z (ltN Z) (fun b4 => ?_)
  refine aP (T:=43) Z (ltN Z) (fun b5 => ?_)
  refine Cp (aa (ae (ae (aj (Cm Z (Cl (aV Z) (Cl (sT Y (cN Z Z)) (Cp (aa ?_)))))))))
  refine aI Z (ae (aj (Cm Z (Cm Z (Cl (ev Z Z Y Y) (Cl (aG Z) ?_))))))
  refine Cl (am (hsh) Z ⟨H,(ao (by rw [show (aF b).getD (Int.toNat 0) 0=b from hb1])),Cq⟩) ?_
  refine Cm Z (Cl (ar Z Z) (Cl (ar Z Z) (Cn Z (Cn Z (Cp (aa (ae (aj (Cm Z ?_)))))))))
  refine Cl (am (hm1) Z ⟨H,H,Cq⟩) ?_
  refine Cm Z (iX Z Z Z Z ?_)
  refine Cl (am (hm2) Z ⟨(rU Y),H,Cq⟩) ?_
  refine aB 1 Z Z Z Z Z (leN Z) Z (aB 0 Z Z Z Z Z (leN Z) Z (Cp (aa (aD (aE ?_)))))
  refine eX Tryz.results134 (.cellB 1 Z Z Z H) (.cellB 0 Z Z Z H)
 ·have hx:=bg (a7 b) ((aF b).length - 1)
  have hx0:=xa hb
  refine ae (aj ?_)
  refine aP (T:=43) Z (ltN Z) (fun b4 => ?_)
  refine aP (T:=43) Z (ltN Z) (fun b5 => ?_)
  refine Cp (aa (ae (ae (aj (Cm Z (Cl (aV Z) (Cl (sF Y (cN Z Z)) (Cp (aa ?_)))))))))
  refine az Z (aw (aa (ae (aj (Cn Z (Cp (aa (ae (av ?_)))))))))
  refine cx (Γ' := [(0,_),(1,_),(4,_),(5,_),(8,_)]) Cg (SubM.refl _) ?_
  refine bE (σ:=Nat) (Γk := [(0,_),(1,_),(4,_),(5,_)]) Cg (fun s => [(8,one (.int .u32 (s:Nat)))]) (fun s M0=>M0) (fun s=>0<s∧s<4294967296) (fun s=>4294967296 - s) (1) (⟨by decide,by decide⟩) Ch (.keep Ck (.keep Ck (.nil))) (fun s hs => ?_)
  refine bY (Γ' := [(8,_),(0,_),(1,_),(4,_),(5,_)]) (M' := [_,_]) Z Z ?_
  obtain ⟨s0,s1⟩:=hs
  have hb1:=Nat.mul_le_mul (show (aF b).getD ((aF b).length - 1) 0≤4294967295 by omega) (show s≤4294967295 by omega)
  have hb2:=Nat.mul_le_mul_right s hx0
  by_cases hc:(aF b).getD ((aF b).length - 1) 0*s<2147483648
  ·refine ae (ae (aj (Cm Z (Cm Z (Cl (aV Z) (Cl (ct _ 1 Z Z Y Y) (Cl (ax Z Z Y) (Cl (aG Z) (Cl (bM Z Y) ?_)))))))))
   refine Cm Z (Cl (bM Z Y) (Cl (io Z Z Y) (Cl (sT Y (a9 Z Z)) (Cp (aa (aI Z (aw (aa (av ?_)))))))))
   refine aj (Cm Z (Cl (AF (a:=2) Z Z Y) (Cn Z (Cp (aA ?_)))))
   refine aS (2*s) (⟨by omega,by omega⟩) Y Ch (.keep Ck (.keep Ck (.nil)))
  ·have hma:=dt false a
   have hmb:=dt false b
   have hms:=dt false s
   rw [if_neg W] at hma hmb hms
   have la:=og (a:=a) s1
   have lb:=og (a:=b) s1
   have ls:bI ((s:Nat):Int):=iG (by rw [Int.natAbs_natCast]; exact Nat.lt_trans s1 S)
   have hMa:=d8 (a:Int) (s:Int) (show (aF a).length≤_ by omega) ls
   have hMb:=d8 (b:Int) (s:Int) (show (aF b).length≤_ by omega) ls
   rw [← Int.natCast_mul] at hMa hMb
   refine ae (ae (aj (Cm Z (Cm Z (Cl (aV Z) (Cl (ct _ 1 Z Z Y Y) (Cl (ax Z Z Y) (Cl (aG Z) (Cl (bM Z Y) ?_)))))))))
   refine Cm Z (Cl (bM Z Y) (Cl (io Z Z Y) (Cl (sF Y (a9 Z Z)) (Cp (aa (az Z (aX (au (au ?_)))))))))
   refine aC (aa (ae (aj (Cm Z (iX Z Z Z Z ?_)))))
   refine Cl (am (hms) Z ⟨(rU s1),H,Cq⟩) ?_
   refine aP (T:=43) Z (ltN Z) (fun b9 => ?_)
   refine aB 0 Z Z Z Z Z (leN Z) Z (Cp (aa (ae ?_)))
   refine dN aU X X ?_
   refine ux (fun B=>ab Z) Z Z ?_
   refine uxk (hma) Z ⟨(cP Y),H,Cq⟩ Z ?_
   refine ux (fun B=>ak 0 Z Z Z) Z Z ?_
   refine uxk (hMa) Z ⟨H,H,Cq⟩ Z ?_
   refine ux (fun B=>ab Z) Z Z ?_
   refine uxk (hmb) Z ⟨(cP Y),H,Cq⟩ Z ?_
   refine ux (fun B=>ak 0 Z Z Z) Z Z ?_
   refine uxk (hMb) Z ⟨H,H,Cq⟩ Z ?_
   refine uB Z Z Z (BuildK.nil (ua Z (ua Z (ua Z (us Z (us Z (us Z ?_)))))))
   refine RunU.nil (fun γ => ?_)
   refine cC (M' := [_,_,_,_,_,_]) Z (sJ (fp.refl _) (.keep wk (.keep Ck (.keep Ck (SubM.refl _)))) (aa (ae (av ?_))))
   have hbs:0<b*s:=Nat.mul_pos hbp s0
   refine cx (Γ' := [(4,_),(5,_),(8,_),(10,_),(11,_),(12,_)]) Cg (SubM.refl _) ?_
   refine bE (σ:=Nat × Nat) (Γk := [(4,_),(5,_),(8,_),(10,_),(11,_),(12,_)]) Cg (fun p => []) (fun p M0=>((M0.set 0 (aW (γ 12) 43 (Lay.agg 2).sz [(0,Lay.agg 2,aK (p.1:Int))])).set 2 (aW (γ 10) 43 (Lay.agg 2).sz [(0,Lay.agg 2,aK (p.2:Int))]))) (fun p=>p.1*(b*s)+p.2=a*s) (fun p=>p.2) ((0,a*s)) ((by simp)) Ch (.keep (qB ph) (.keep Ck (.keep Ck (.keep Ck (.keep Ck (.keep Ck (.nil))))))) (fun p hp => ?_)
   refine bY (Γ' := [(4,_),(5,_),(8,_),(10,_),(11,_),(12,_)]) (M' := [_,_,_,_,_,_]) Z Z ?_
   obtain ⟨q,r⟩:=p
   dsimp only at hp ⊢
   have hle:=ld r (b*s)
   by_cases hr:r<b*s
   ·obtain ⟨f1,f2⟩:=AH s0 hbp hp hr
    have lr:(aF r).length≤1099511627776:=by
     have:=bT (show r≤a*s by omega)
     omega
    have hsh:=px (aF r) s (a7 r) lr s0 s1
    rw [bQ,f2] at hsh
    have hm2:=dt false (a % b)
    rw [if_neg W] at hm2
    refine ae (ae (aj (Cl (ai Z) (Cl (bt 2 0 1 Z Z Z Z Z) (Cl (ai Z) (Cl (bt 1 0 1 Z Z Z Z Z) ?_))))))
    refine Cl (sT (by assumption) (am (hle) Z ⟨H,H,Cq⟩)) ?_
    refine Cl (bS Z) (Cp (aa (az Z (aX (au (au (aC (aa (ae ?_)))))))))
    refine aj (Cl (ai Z) (Cl (bt 2 0 1 Z Z Z Z Z) (Cm Z ?_)))
    refine Cl (am (hsh) Z ⟨H,H,Cq⟩) ?_
    refine Cm Z (Cl (ar Z Z) (Cl (ar Z Z) (Cn Z (Cn Z (Cp (aa (ae (gn 3 aU X W (Cl (ak 0 Z Z Z) ?_)))))))))
    refine Cm Z ?_
    refine Cl (am (hm2) Z ⟨H,H,Cq⟩) ?_
    refine Cp (aB 5 Z Z Z Z Z (leN Z) Z (aB 4 Z Z Z Z Z (leN Z) Z (Cp (aa (aD ?_)))))
    refine eX Tryz.results134 (.cellB 5 Z Z Z (bZ (by rw [f1]))) (.cellB 4 Z Z Z H)
   ·have lr:(aF r).length≤1099511627776:=by
     have:=bT (show r≤a*s by omega)
     omega
    obtain ⟨e0,e1⟩:=w9 (show b*s≠0 by omega) (Nat.le_of_not_lt hr)
    have hes:=rT r (b*s) Y (Nat.le_of_not_lt hr) lr
    generalize vB r (b*s)=e at *
    have hq0:q≤q*(b*s):=Nat.le_mul_of_pos_right _ hbs
    have he0:e≤e*(b*s):=Nat.le_mul_of_pos_right _ hbs
    have le0:bI (e:Int):=Nat.le_trans (bT (show (e:Int).natAbs≤r by omega)) lr
    have lq0:bI (q:Int):=Nat.le_trans (bT (show (q:Int).natAbs≤a*s by omega)) Y
    have lbs:bI ((b*s:Nat):Int):=Nat.le_trans (bT (show ((b*s:Nat):Int).natAbs≤b*s by omega)) Y
    have lrs:bI (r:Int):=Nat.le_trans (bT (show (r:Int).natAbs≤r by omega)) lr
    have les:bI ((e*(b*s):Nat):Int):=Nat.le_trans (bT (show ((e*(b*s):Nat):Int).natAbs≤r by omega)) lr
    have hmu:=d8 (e:Int) ((b*s:Nat):Int) le0 lbs
    rw [← Int.natCast_mul] at hmu
    have hsu:=lm (r:Int) ((e*(b*s):Nat):Int) lrs les
    rw [← Int.ofNat_sub e1] at hsu
    have had:=iH (q:Int) (e:Int) lq0 le0
    rw [← Int.natCast_add] at had
    refine ae (ae (aj (Cl (ai Z) (Cl (bt 2 0 1 Z Z Z Z Z) (Cl (ai Z) (Cl (bt 1 0 1 Z Z Z Z Z) ?_))))))
    refine Cl (sF (by assumption) (am (hle) Z ⟨H,H,Cq⟩)) ?_
    refine Cl (bS Z) (Cp (aa (aI Z (aw (aa (av (ae (aj (Cl (ai Z) ?_)))))))))
    refine Cl (bt 2 0 1 Z Z Z Z Z) (Cl (ai Z) (Cl (bt 1 0 1 Z Z Z Z Z) ?_))
    refine Cl (am (hes) Z ⟨H,H,Cq⟩) ?_
    refine aP (T:=43) Z (ltN Z) (fun b13 => ?_)
    refine aB 0 Z Z Z Z Z (leN Z) Z (Cp (aa (ae (aj (Cl (ak 1 Z Z Z) (Cl (ak 0 Z Z Z) ?_))))))
    refine Cl (am (had) Z ⟨H,H,Cq⟩) ?_
    refine aB 1 Z Z Z Z Z (leN Z) Z (Cp (aa (a4 5 aU X W (Cl (ak 3 Z Z Z) (Cl (ak 0 Z Z Z) (Cl (ak 2 Z Z Z) ?_))))))
    refine Cl (am (hmu) Z ⟨H,H,Cq⟩) ?_
    refine Cl (am (hsu) Z ⟨H,H,Cq⟩) ?_
    refine Cp (aB 3 Z Z Z Z Z (leN Z) Z (Cp (aA ?_)))
    refine aS ((q+e,r - e*(b*s))) ((by dsimp only;rw [Nat.add_mul]; omega)) Y Ch (.drop (.keep Ck (.keep Ck (.keep Ck (.keep Ck (.keep Ck (.keep Ck (.nil))))))))
end Tor
end
section
namespace Tor
open Go Go.RowKit Go.Proofs
def dE (x:Int):Prop:=(aF x.natAbs).length≤1099511627700
theorem py {x:Int} (h:x.natAbs<2^2048):dE x:=by
 have:(aF x.natAbs).length≤64:=cy (Nat.lt_of_lt_of_le h S)
 unfold dE;omega
theorem dE.small {x:Int} (h:dE x):bI x:=by unfold dE at h;unfold Tor.bI;omega
theorem jc {x y:Int} (h:dE y) (hl:x.natAbs≤y.natAbs):dE x:=Nat.le_trans (bT hl) h
theorem jd {x y:Int} (h:bI y) (hl:x.natAbs≤y.natAbs):bI x:=Nat.le_trans (bT hl) h
theorem oY (n:Nat):(aF (n+1)).length≤(aF n).length+1:=cy (by
 have h:=cR n
 rw [Nat.pow_succ]
 have h0:0<4294967296^(aF n).length:=Nat.pow_pos W
 generalize 4294967296^(aF n).length=z at *
 omega)
theorem xb (x y:Int):Nat.gcd y.natAbs (x % y).natAbs=Nat.gcd x.natAbs y.natAbs:=by
 have h:Int.gcd y (x % y)=Int.gcd y x:=by rw [Int.emod_def]; exact Int.gcd_sub_mul_left_right y x (x / y)
 rw [Nat.gcd_comm x.natAbs]; exact h
theorem rV (x:Int) {y:Int} (hy:y≠0):(x % y).natAbs<y.natAbs:=by
 have h1:=Int.emod_nonneg x hy
 have h2:=Int.emod_lt x hy
 omega
attribute [local irreducible] J PJ aJ one slT cv bB bL exT cp eP aW aN slV VT.le Ret bK
theorem pz (x:Int):Ok Tryz.prog 76 [oR x.natAbs,one (.bool (decide (x<0)))] (aK x):=by
 have h:=dt (decide (x<0)) x.natAbs
 have e:(if decide (x<0)=true then -(x.natAbs:Int) else (x.natAbs:Int))=x:=by
  by_cases hx:x<0
  ·rw [if_pos (by simpa using hx)]; omega
  ·rw [if_neg (by simpa using hx)]; omega
 rw [e] at h
 exact h
set_option maxRecDepth 20000 in
theorem gS (a b:Int) (hb:b≠0) (ha:dE a) (hbs:dE b):Ok Tryz.prog 127 [aK a,aK b] (bL [aK (a / b),aK (a % b),one (.int .i64 0)]):=by
 obtain ⟨g1,g2,g3⟩:=uj (a:=a) hb
 have hB:b.natAbs≠0:=by omega
 have ha':(aF a.natAbs).length≤1099511627700:=ha
 have hb':(aF b.natAbs).length≤1099511627700:=hbs
 have hdiv:=tp a.natAbs b.natAbs hB ha' hb'
 have hlt:=Nat.mod_lt a.natAbs (Nat.pos_of_ne_zero hB)
 have hql:=Nat.div_le_self a.natAbs b.natAbs
 have hma:=pz a
 have hmb:=pz b
 have hsb:dQ b≠0:=by unfold dQ;rw [if_neg hb]; split <;> decide
 have hmb2:=dt false b.natAbs
 rw [if_neg W] at hmb2
 have hsg:=eg ((a.natAbs % b.natAbs:Nat):Int)
 have hof:=it 1 W W
 have sq:bI ((a.natAbs / b.natAbs:Nat):Int):=jd ha.small (by rw [Int.natAbs_natCast]; exact hql)
 have s1:bI 1:=iG S
 have had:=iH ((a.natAbs / b.natAbs:Nat):Int) 1 sq s1
 have hsu:=lm (b.natAbs:Int) ((a.natAbs % b.natAbs:Nat):Int) (jd hbs.small Y) (jd hbs.small (by rw [Int.natAbs_natCast]; exact Nat.le_of_lt hlt))
 have hsu2:=lm b ((a.natAbs % b.natAbs:Nat):Int) hbs.small (jd hbs.small (by rw [Int.natAbs_natCast]; exact Nat.le_of_lt hlt))
 have hn1:=iJ ((a.natAbs / b.natAbs:Nat):Int) sq
 have sq1:bI (((a.natAbs / b.natAbs:Nat):Int)+1):=by
  have h1:=oY (a.natAbs / b.natAbs)
  have h2:=bT hql
  have e:(((a.natAbs / b.natAbs:Nat):Int)+1).natAbs=a.natAbs / b.natAbs+1:=by generalize a.natAbs / b.natAbs=z;omega
  unfold Tor.bI
  rw [e]
  omega
 have hn2:=iJ (((a.natAbs / b.natAbs:Nat):Int)+1) sq1
 refine Ok.enter Tryz.func127 Z Tryz.ntmps127 Z (fun w O => ?_)
 by_cases hn:a<0
 ·by_cases hr:a.natAbs % b.natAbs=0
  ·obtain ⟨k1,k2⟩:=g2 hn hr
   have hs0:dQ ((a.natAbs % b.natAbs:Nat):Int)=0:=by rw [hr]; rfl
   by_cases hm:b<0
   ·rw [if_pos hm] at k1
    refine ae (aj ?_)
    refine aQ Z Z (ltN Z) (fun b2 => ?_)
    refine aQ Z Z (ltN Z) (fun b3 => ?_)
    refine aP (T:=43) Z (ltN Z) (fun b4 => ?_)
    refine aP (T:=43) Z (ltN Z) (fun b5 => ?_)
    refine Cn Z (Cp (aa (ae (gn 9 aU X W (Cl (ai Z) (Cl (ak 3 Z Z Z) (Cl (ai Z) (Cl (sT (by assumption) (ak 3 Z Z Z)) ?_))))))))
    refine Cl (am (hma) Z ⟨(cP Y),(ao (by rw [decide_eq_true hn])),Cq⟩) ?_
    refine Cl (ai Z) (Cl (ak 2 Z Z Z) (Cl (ai Z) (Cl (sT (by assumption) (ak 2 Z Z Z)) (Cp ?_))))
    refine Cl (am (hmb) Z ⟨(cP Y),(ao (by rw [decide_eq_true hm])),Cq⟩) ?_
    refine aR 3 Z Z Z Z (aR 2 Z Z Z Z (Cp (aa (ae (ae (aj (Cl (aL 2 Z Z) ?_)))))))
    refine Cl (am (eg _) Z ⟨H,Cq⟩) ?_
    refine Cl (sF (by assumption) (cN Z Z)) (Cp (aa (az Z (aw (aa (ae (aj (Cl (ai Z) (Cl (ak 3 Z Z Z) ?_)))))))))
    refine Cl (ai Z) (Cl (ak 2 Z Z Z) ?_)
    refine Cl (am (hdiv) Z ⟨H,H,Cq⟩) ?_
    refine Cm Z (Cl (ar Z Z) (Cl (ar Z Z) ?_))
    refine aP (T:=43) Z (ltN Z) (fun b7 => ?_)
    refine aP (T:=43) Z (ltN Z) (fun b8 => ?_)
    refine aB 1 Z Z Z Z Z (leN Z) Z (aB 0 Z Z Z Z Z (leN Z) Z (Cp (aa (ae (ae (aj (Cl (ai Z) (Cl (sT (by assumption) (ak 5 Z Z Z)) (Cm Z ?_)))))))))
    refine Co (ak 0 Z Z Z) ?_
    refine Co (am (hsg) Z ⟨H,Cq⟩) ?_
    refine Co (sF Y (ek Z Z)) (Cl (a6 Z Z) (Cp (aa (az Z (aw (aa (ae (ae (aj ?_)))))))))
    refine Cl (ai Z) (Cl (sT (by assumption) (ak 5 Z Z Z)) (Cl (ai Z) (Cl (sT (by assumption) (ak 4 Z Z Z)) (Cl (jp Z Z) (Cp (aa (az Z (aw (aa ?_)))))))))
    refine ae ?_
    refine jQ [⟨5,b5,43,Lay.agg 2⟩,⟨4,b4,43,Lay.agg 2⟩] [_,_] [_,_,_,_] aU X Z ((db 2 Z).trans (.cons _ ((db 2 Z).trans (.cons _ (List.Perm.refl _))))) Z (And.intro Z (And.intro Z (trivial))) ?_
    refine ux (fun B=>ak 1 Z Z Z) Z Z ?_
    refine ux (fun B=>ak 0 Z Z Z) Z Z ?_
    refine us Z (us Z ?_)
    refine ux (fun B=>ah Z) Z Z ?_
    refine RunU.nil ⟨And.intro Z (And.intro Z (And.intro Z (And.intro Z (trivial)))),?_⟩
    refine cC (M' := [_,_,_,_,_,_]) Z (aa (aD ?_))
    refine iy Tryz.results127 (.cellB 1 Z Z Z (bZ (by rw [k1]))) (.cellB 0 Z Z Z (bZ (by rw [k2,hr]; rfl))) (.tmp Z H)
   ·rw [if_neg hm] at k1
    refine ae (aj ?_)
    refine aQ Z Z (ltN Z) (fun b2 => ?_)
    refine aQ Z Z (ltN Z) (fun b3 => ?_)
    refine aP (T:=43) Z (ltN Z) (fun b4 => ?_)
    refine aP (T:=43) Z (ltN Z) (fun b5 => ?_)
    refine Cn Z (Cp (aa (ae (gn 9 aU X W (Cl (ai Z) (Cl (ak 3 Z Z Z) (Cl (ai Z) (Cl (sT (by assumption) (ak 3 Z Z Z)) ?_))))))))
    refine Cl (am (hma) Z ⟨(cP Y),(ao (by rw [decide_eq_true hn])),Cq⟩) ?_
    refine Cl (ai Z) (Cl (ak 2 Z Z Z) (Cl (ai Z) (Cl (sF (by assumption) (ak 2 Z Z Z)) (Cp ?_))))
    refine Cl (am (hmb) Z ⟨(cP Y),(ao (by rw [decide_eq_false hm])),Cq⟩) ?_
    refine aR 3 Z Z Z Z (aR 2 Z Z Z Z (Cp (aa (ae (ae (aj (Cl (aL 2 Z Z) ?_)))))))
    refine Cl (am (eg _) Z ⟨H,Cq⟩) ?_
    refine Cl (sF (by assumption) (cN Z Z)) (Cp (aa (az Z (aw (aa (ae (aj (Cl (ai Z) (Cl (ak 3 Z Z Z) ?_)))))))))
    refine Cl (ai Z) (Cl (ak 2 Z Z Z) ?_)
    refine Cl (am (hdiv) Z ⟨H,H,Cq⟩) ?_
    refine Cm Z (Cl (ar Z Z) (Cl (ar Z Z) ?_))
    refine aP (T:=43) Z (ltN Z) (fun b7 => ?_)
    refine aP (T:=43) Z (ltN Z) (fun b8 => ?_)
    refine aB 1 Z Z Z Z Z (leN Z) Z (aB 0 Z Z Z Z Z (leN Z) Z (Cp (aa (ae (ae (aj (Cl (ai Z) (Cl (sT (by assumption) (ak 5 Z Z Z)) (Cm Z ?_)))))))))
    refine Co (ak 0 Z Z Z) ?_
    refine Co (am (hsg) Z ⟨H,Cq⟩) ?_
    refine Co (sF Y (ek Z Z)) (Cl (a6 Z Z) (Cp (aa (az Z (aw (aa (ae (ae (aj ?_)))))))))
    refine Cl (ai Z) (Cl (sT (by assumption) (ak 5 Z Z Z)) (Cl (ai Z) (Cl (sF (by assumption) (ak 4 Z Z Z)) (Cl (jp Z Z) (Cp (aa (aI Z (aj (Cl (ak 1 Z Z Z) ?_)))))))))
    refine Cl (am (hn1) Z ⟨H,Cq⟩) ?_
    refine aB 1 Z Z Z Z Z (leN Z) Z (Cp (aa (ae ?_)))
    refine jQ [⟨5,b5,43,Lay.agg 2⟩,⟨4,b4,43,Lay.agg 2⟩] [_,_] [_,_,_,_] aU X Z ((db 2 Z).trans (.cons _ ((db 2 Z).trans (.cons _ (List.Perm.refl _))))) Z (And.intro Z (And.intro Z (trivial))) ?_
    refine ux (fun B=>ak 1 Z Z Z) Z Z ?_
    refine ux (fun B=>ak 0 Z Z Z) Z Z ?_
    refine us Z (us Z ?_)
    refine ux (fun B=>ah Z) Z Z ?_
    refine RunU.nil ⟨And.intro Z (And.intro Z (And.intro Z (And.intro Z (trivial)))),?_⟩
    refine cC (M' := [_,_,_,_,_,_]) Z (aa (aD ?_))
    refine iy Tryz.results127 (.cellB 1 Z Z Z (bZ (by rw [k1]))) (.cellB 0 Z Z Z (bZ (by rw [k2,hr]; rfl))) (.tmp Z H)
  ·obtain ⟨k1,k2⟩:=g3 hn hr
   have hs0:dQ ((a.natAbs % b.natAbs:Nat):Int)=1:=by unfold dQ;rw [if_neg Y,if_neg Y]
   by_cases hm:b<0
   ·rw [if_pos hm] at k1
    refine ae (aj ?_)
    refine aQ Z Z (ltN Z) (fun b2 => ?_)
    refine aQ Z Z (ltN Z) (fun b3 => ?_)
    refine aP (T:=43) Z (ltN Z) (fun b4 => ?_)
    refine aP (T:=43) Z (ltN Z) (fun b5 => ?_)
    refine Cn Z (Cp (aa (ae (gn 9 aU X W (Cl (ai Z) (Cl (ak 3 Z Z Z) (Cl (ai Z) (Cl (sT (by assumption) (ak 3 Z Z Z)) ?_))))))))
    refine Cl (am (hma) Z ⟨(cP Y),(ao (by rw [decide_eq_true hn])),Cq⟩) ?_
    refine Cl (ai Z) (Cl (ak 2 Z Z Z) (Cl (ai Z) (Cl (sT (by assumption) (ak 2 Z Z Z)) (Cp ?_))))
    refine Cl (am (hmb) Z ⟨(cP Y),(ao (by rw [decide_eq_true hm])),Cq⟩) ?_
    refine aR 3 Z Z Z Z (aR 2 Z Z Z Z (Cp (aa (ae (ae (aj (Cl (aL 2 Z Z) ?_)))))))
    refine Cl (am (eg _) Z ⟨H,Cq⟩) ?_
    refine Cl (sF (by assumption) (cN Z Z)) (Cp (aa (az Z (aw (aa (ae (aj (Cl (ai Z) (Cl (ak 3 Z Z Z) ?_)))))))))
    refine Cl (ai Z) (Cl (ak 2 Z Z Z) ?_)
    refine Cl (am (hdiv) Z ⟨H,H,Cq⟩) ?_
    refine Cm Z (Cl (ar Z Z) (Cl (ar Z Z) ?_))
    refine aP (T:=43) Z (ltN Z) (fun b7 => ?_)
    refine aP (T:=43) Z (ltN Z) (fun b8 => ?_)
    refine aB 1 Z Z Z Z Z (leN Z) Z (aB 0 Z Z Z Z Z (leN Z) Z (Cp (aa (ae (ae (aj (Cl (ai Z) (Cl (sT (by assumption) (ak 5 Z Z Z)) (Cm Z ?_)))))))))
    refine Co (ak 0 Z Z Z) ?_
    refine Co (am (hsg) Z ⟨H,Cq⟩) ?_
    refine Co (sT Y (ek Z Z)) (Cl (a6 Z Z) (Cp (aa (aI Z (ae (a4 2 aU X W (Cl (ak 1 Z Z Z) ?_)))))))
    refine Cl (am (hof) Z ⟨H,Cq⟩) ?_
    refine Cp ?_
    refine Cl (am (had) Z ⟨H,H,Cq⟩) ?_
    refine aB 1 Z Z Z Z Z (leN Z) Z (Cp (aa (a4 5 aU X W (Cl (ai Z) (Cl (ak 4 Z Z Z) ?_)))))
    refine Cl (am (hmb2) Z ⟨(cP Y),H,Cq⟩) ?_
    refine Cl (ak 0 Z Z Z) ?_
    refine Cl (am (hsu) Z ⟨H,H,Cq⟩) ?_
    refine Cp (aB 0 Z Z Z Z Z (leN Z) Z (Cp (aa (ae (ae (aj (Cl (ai Z) (Cl (sT (by assumption) (ak 5 Z Z Z)) (Cl (ai Z) ?_)))))))))
    refine Cl (sT (by assumption) (ak 4 Z Z Z)) (Cl (jp Z Z) (Cp (aa (az Z (aw (aa (ae ?_)))))))
    refine jQ [⟨5,b5,43,Lay.agg 2⟩,⟨4,b4,43,Lay.agg 2⟩] [_,_] [_,_,_,_] aU X Z ((db 2 Z).trans (.cons _ ((db 2 Z).trans (.cons _ (List.Perm.refl _))))) Z (And.intro Z (And.intro Z (trivial))) ?_
    refine ux (fun B=>ak 1 Z Z Z) Z Z ?_
    refine ux (fun B=>ak 0 Z Z Z) Z Z ?_
    refine us Z (us Z ?_)
    refine ux (fun B=>ah Z) Z Z ?_
    refine RunU.nil ⟨And.intro Z (And.intro Z (And.intro Z (And.intro Z (trivial)))),?_⟩
    refine cC (M' := [_,_,_,_,_,_]) Z (aa (aD ?_))
    refine iy Tryz.results127 (.cellB 1 Z Z Z (bZ (by rw [k1,Int.natCast_add]; rfl))) (.cellB 0 Z Z Z (bZ (by rw [k2,Int.ofNat_sub (Nat.le_of_lt hlt)]))) (.tmp Z H)
   ·rw [if_neg hm] at k1
    refine ae (aj ?_)
    refine aQ Z Z (ltN Z) (fun b2 => ?_)
    refine aQ Z Z (ltN Z) (fun b3 => ?_)
    refine aP (T:=43) Z (ltN Z) (fun b4 => ?_)
    refine aP (T:=43) Z (ltN Z) (fun b5 => ?_)
    refine Cn Z (Cp (aa (ae (gn 9 aU X W (Cl (ai Z) (Cl (ak 3 Z Z Z) (Cl (ai Z) (Cl (sT (by assumption) (ak 3 Z Z Z)) ?_))))))))
    refine Cl (am (hma) Z ⟨(cP Y),(ao (by rw [decide_eq_true hn])),Cq⟩) ?_
    refine Cl (ai Z) (Cl (ak 2 Z Z Z) (Cl (ai Z) (Cl (sF (by assumption) (ak 2 Z Z Z)) (Cp ?_))))
    refine Cl (am (hmb) Z ⟨(cP Y),(ao (by rw [decide_eq_false hm])),Cq⟩) ?_
    refine aR 3 Z Z Z Z (aR 2 Z Z Z Z (Cp (aa (ae (ae (aj (Cl (aL 2 Z Z) ?_)))))))
    refine Cl (am (eg _) Z ⟨H,Cq⟩) ?_
    refine Cl (sF (by assumption) (cN Z Z)) (Cp (aa (az Z (aw (aa (ae (aj (Cl (ai Z) (Cl (ak 3 Z Z Z) ?_)))))))))
    refine Cl (ai Z) (Cl (ak 2 Z Z Z) ?_)
    refine Cl (am (hdiv) Z ⟨H,H,Cq⟩) ?_
    refine Cm Z (Cl (ar Z Z) (Cl (ar Z Z) ?_))
    refine aP (T:=43) Z (ltN Z) (fun b7 => ?_)
    refine aP (T:=43) Z (ltN Z) (fun b8 => ?_)
    refine aB 1 Z Z Z Z Z (leN Z) Z (aB 0 Z Z Z Z Z (leN Z) Z (Cp (aa (ae (ae (aj (Cl (ai Z) (Cl (sT (by assumption) (ak 5 Z Z Z)) (Cm Z ?_)))))))))
    refine Co (ak 0 Z Z Z) ?_
    refine Co (am (hsg) Z ⟨H,Cq⟩) ?_
    refine Co (sT Y (ek Z Z)) (Cl (a6 Z Z) (Cp (aa (aI Z (ae (a4 2 aU X W (Cl (ak 1 Z Z Z) ?_)))))))
    refine Cl (am (hof) Z ⟨H,Cq⟩) ?_
    refine Cp ?_
    refine Cl (am (had) Z ⟨H,H,Cq⟩) ?_
    refine aB 1 Z Z Z Z Z (leN Z) Z (Cp (aa (a4 5 aU X W (Cl (ai Z) (Cl (ak 4 Z Z Z) ?_)))))
    refine Cl (am (hmb) Z ⟨(cP Y),(ao (by rw [decide_eq_false hm])),Cq⟩) ?_
    refine Cl (ak 0 Z Z Z) ?_
    refine Cl (am (hsu2) Z ⟨H,H,Cq⟩) ?_
    refine Cp (aB 0 Z Z Z Z Z (leN Z) Z (Cp (aa (ae (ae (aj (Cl (ai Z) (Cl (sT (by assumption) (ak 5 Z Z Z)) (Cl (ai Z) ?_)))))))))
    refine Cl (sF (by assumption) (ak 4 Z Z Z)) (Cl (jp Z Z) (Cp (aa (aI Z (aj (Cl (ak 1 Z Z Z) ?_))))))
    refine Cl (am (hn2) Z ⟨H,Cq⟩) ?_
    refine aB 1 Z Z Z Z Z (leN Z) Z (Cp (aa (ae ?_)))
    refine jQ [⟨5,b5,43,Lay.agg 2⟩,⟨4,b4,43,Lay.agg 2⟩] [_,_] [_,_,_,_] aU X Z ((db 2 Z).trans (.cons _ ((db 2 Z).trans (.cons _ (List.Perm.refl _))))) Z (And.intro Z (And.intro Z (trivial))) ?_
    refine ux (fun B=>ak 1 Z Z Z) Z Z ?_
    refine ux (fun B=>ak 0 Z Z Z) Z Z ?_
    refine us Z (us Z ?_)
    refine ux (fun B=>ah Z) Z Z ?_
    refine RunU.nil ⟨And.intro Z (And.intro Z (And.intro Z (And.intro Z (trivial)))),?_⟩
    refine cC (M' := [_,_,_,_,_,_]) Z (aa (aD ?_))
    refine iy Tryz.results127 (.cellB 1 Z Z Z (bZ (by rw [k1,Int.natCast_add]; rfl))) (.cellB 0 Z Z Z (bZ (by rw [k2,Int.ofNat_sub (Nat.le_of_lt hlt),Int.natAbs_of_nonneg (show 0≤b by omega)]))) (.tmp Z H)
 ·obtain ⟨k1,k2⟩:=g1 Y
  by_cases hm:b<0
  ·rw [if_pos hm] at k1
   refine ae (aj ?_)
   refine aQ Z Z (ltN Z) (fun b2 => ?_)
   refine aQ Z Z (ltN Z) (fun b3 => ?_)
   refine aP (T:=43) Z (ltN Z) (fun b4 => ?_)
   refine aP (T:=43) Z (ltN Z) (fun b5 => ?_)
   refine Cn Z (Cp (aa (ae (gn 9 aU X W (Cl (ai Z) (Cl (ak 3 Z Z Z) (Cl (ai Z) (Cl (sF (by assumption) (ak 3 Z Z Z)) ?_))))))))
   refine Cl (am (hma) Z ⟨(cP Y),(ao (by rw [decide_eq_false hn])),Cq⟩) ?_
   refine Cl (ai Z) (Cl (ak 2 Z Z Z) (Cl (ai Z) (Cl (sT (by assumption) (ak 2 Z Z Z)) (Cp ?_))))
   refine Cl (am (hmb) Z ⟨(cP Y),(ao (by rw [decide_eq_true hm])),Cq⟩) ?_
   refine aR 3 Z Z Z Z (aR 2 Z Z Z Z (Cp (aa (ae (ae (aj (Cl (aL 2 Z Z) ?_)))))))
   refine Cl (am (eg _) Z ⟨H,Cq⟩) ?_
   refine Cl (sF (by assumption) (cN Z Z)) (Cp (aa (az Z (aw (aa (ae (aj (Cl (ai Z) (Cl (ak 3 Z Z Z) ?_)))))))))
   refine Cl (ai Z) (Cl (ak 2 Z Z Z) ?_)
   refine Cl (am (hdiv) Z ⟨H,H,Cq⟩) ?_
   refine Cm Z (Cl (ar Z Z) (Cl (ar Z Z) ?_))
   refine aP (T:=43) Z (ltN Z) (fun b7 => ?_)
   refine aP (T:=43) Z (ltN Z) (fun b8 => ?_)
   refine aB 1 Z Z Z Z Z (leN Z) Z (aB 0 Z Z Z Z Z (leN Z) Z (Cp (aa (ae (ae (aj (Cl (ai Z) (Cl (sF (by assumption) (ak 5 Z Z Z)) (Cm Z ?_)))))))))
   refine sg0 Z Z Z Z (sg0 Z Z Z Z (sg0 Z Z Z Z (Cl (bj Z Z) (Cp (aa (az Z (aw (aa (ae ?_)))))))))
   refine ae (aj (Cl (ai Z) (Cl (sF (by assumption) (ak 5 Z Z Z)) (Cl (ai Z) (Cl (sT (by assumption) (ak 4 Z Z Z)) (Cl (jp Z Z) (Cp (aa (aI Z ?_)))))))))
   refine aj (Cl (ak 1 Z Z Z) ?_)
   refine Cl (am (hn1) Z ⟨H,Cq⟩) ?_
   refine aB 1 Z Z Z Z Z (leN Z) Z (Cp (aa (ae ?_)))
   refine jQ [⟨5,b5,43,Lay.agg 2⟩,⟨4,b4,43,Lay.agg 2⟩] [_,_] [_,_,_,_] aU X Z ((db 2 Z).trans (.cons _ ((db 2 Z).trans (.cons _ (List.Perm.refl _))))) Z (And.intro Z (And.intro Z (trivial))) ?_
   refine ux (fun B=>ak 1 Z Z Z) Z Z ?_
   refine ux (fun B=>ak 0 Z Z Z) Z Z ?_
   refine us Z (us Z ?_)
   refine ux (fun B=>ah Z) Z Z ?_
   refine RunU.nil ⟨And.intro Z (And.intro Z (And.intro Z (And.intro Z (trivial)))),?_⟩
   refine cC (M' := [_,_,_,_,_,_]) Z (aa (aD ?_))
   refine iy Tryz.results127 (.cellB 1 Z Z Z (bZ (by rw [k1]))) (.cellB 0 Z Z Z (bZ (by rw [k2]))) (.tmp Z H)
  ·rw [if_neg hm] at k1
   refine ae (aj ?_)
   refine aQ Z Z (ltN Z) (fun b2 => ?_)
   refine aQ Z Z (ltN Z) (fun b3 => ?_)
   refine aP (T:=43) Z (ltN Z) (fun b4 => ?_)
   refine aP (T:=43) Z (ltN Z) (fun b5 => ?_)
   refine Cn Z (Cp (aa (ae (gn 9 aU X W (Cl (ai Z) (Cl (ak 3 Z Z Z) (Cl (ai Z) (Cl (sF (by assumption) (ak 3 Z Z Z)) ?_))))))))
   refine Cl (am (hma) Z ⟨(cP Y),(ao (by rw [decide_eq_false hn])),Cq⟩) ?_
   refine Cl (ai Z) (Cl (ak 2 Z Z Z) (Cl (ai Z) (Cl (sF (by assumption) (ak 2 Z Z Z)) (Cp ?_))))
   refine Cl (am (hmb) Z ⟨(cP Y),(ao (by rw [decide_eq_false hm])),Cq⟩) ?_
   refine aR 3 Z Z Z Z (aR 2 Z Z Z Z (Cp (aa (ae (ae (aj (Cl (aL 2 Z Z) ?_)))))))
   refine Cl (am (eg _) Z ⟨H,Cq⟩) ?_
   refine Cl (sF (by assumption) (cN Z Z)) (Cp (aa (az Z (aw (aa (ae (aj (Cl (ai Z) (Cl (ak 3 Z Z Z) ?_)))))))))
   refine Cl (ai Z) (Cl (ak 2 Z Z Z) ?_)
   refine Cl (am (hdiv) Z ⟨H,H,Cq⟩) ?_
   refine Cm Z (Cl (ar Z Z) (Cl (ar Z Z) ?_))
   refine aP (T:=43) Z (ltN Z) (fun b7 => ?_)
   refine aP (T:=43) Z (ltN Z) (fun b8 => ?_)
   refine aB 1 Z Z Z Z Z (leN Z) Z (aB 0 Z Z Z Z Z (leN Z) Z (Cp (aa (ae (ae (aj (Cl (ai Z) (Cl (sF (by assumption) (ak 5 Z Z Z)) (Cm Z ?_)))))))))
   refine sg0 Z Z Z Z (sg0 Z Z Z Z (sg0 Z Z Z Z (Cl (bj Z Z) (Cp (aa (az Z (aw (aa (ae ?_)))))))))
   refine ae (aj (Cl (ai Z) (Cl (sF (by assumption) (ak 5 Z Z Z)) (Cl (ai Z) (Cl (sF (by assumption) (ak 4 Z Z Z)) (Cl (jp Z Z) (Cp (aa (az Z ?_)))))))))
   refine aw (aa (ae ?_))
   refine jQ [⟨5,b5,43,Lay.agg 2⟩,⟨4,b4,43,Lay.agg 2⟩] [_,_] [_,_,_,_] aU X Z ((db 2 Z).trans (.cons _ ((db 2 Z).trans (.cons _ (List.Perm.refl _))))) Z (And.intro Z (And.intro Z (trivial))) ?_
   refine ux (fun B=>ak 1 Z Z Z) Z Z ?_
   refine ux (fun B=>ak 0 Z Z Z) Z Z ?_
   refine us Z (us Z ?_)
   refine ux (fun B=>ah Z) Z Z ?_
   refine RunU.nil ⟨And.intro Z (And.intro Z (And.intro Z (And.intro Z (trivial)))),?_⟩
   refine cC (M' := [_,_,_,_,_,_]) Z (aa (aD ?_))
   refine iy Tryz.results127 (.cellB 1 Z Z Z (bZ (by rw [k1]))) (.cellB 0 Z Z Z (bZ (by rw [k2]))) (.tmp Z H)
theorem un (a b:Int) (ha:dE a) (hb:dE b):Ok Tryz.prog 93 [aK a,aK b] (aK (Nat.gcd a.natAbs b.natAbs)):=by
 refine Ok.enter Tryz.func93 Z Tryz.ntmps93 Z (fun w O => ?_)
 refine ae (aj ?_)
 refine aQ Z Z (ltN Z) (fun b2 => ?_)
 refine aQ Z Z (ltN Z) (fun b3 => ?_)
 refine aP (T:=43) Z (ltN Z) (fun b4 => ?_)
 refine Cp (aa (ae (av (cx (Γ' := [(2,_),(3,_),(4,_)]) Cg (SubM.refl _) ?_))))
 refine bE (σ:=Int × Int) (Γk := [(2,_),(3,_),(4,_)]) Cg (fun p => []) (fun p M0=>((M0.set 1 (aW b3 43 (Lay.agg 2).sz [(0,Lay.agg 2,aK p.2)])).set 2 (aW b2 43 (Lay.agg 2).sz [(0,Lay.agg 2,aK p.1)]))) (fun p=>Nat.gcd p.1.natAbs p.2.natAbs=Nat.gcd a.natAbs b.natAbs∧dE p.1∧dE p.2) (fun p=>p.2.natAbs) ((a,b)) (⟨rfl,ha,hb⟩) Ch (.keep Ck (.keep (qB H) (.keep (qB H) (.nil)))) (fun p hp => ?_)
 refine bY (Γ' := [(2,_),(3,_),(4,_)]) (M' := [_,_,_]) Z Z ?_
 obtain ⟨x,y⟩:=p
 dsimp only at hp ⊢
 obtain ⟨p1,p2,p3⟩:=hp
 have hsg:=eg y
 by_cases hy:y=0
 ·have hs0:dQ y=0:=by rw [hy]; rfl
  rw [hy] at p1
  rw [← p1,Int.natAbs_zero,Nat.gcd_zero_right]
  have hx:(aF x.natAbs).length≤1099511627700:=p2
  have hm:=dt false x.natAbs
  rw [if_neg W] at hm
  refine ae (ae (aj (Cl (ak 1 Z Z Z) ?_)))
  refine Cl (am (hsg) Z ⟨H,Cq⟩) ?_
  refine Cl (sF Y (c8 Z Z)) (Cp (aa (az Z (aX (au (au (aC (aa (ae ?_)))))))))
  refine aj (Cl (ai Z) (Cl (bt 2 0 1 Z Z Z Z Z) ?_))
  refine Cl (am (hm) Z ⟨(cP Y),H,Cq⟩) ?_
  refine aB 0 Z Z Z Z Z (leN Z) Z (Cp (aa (aD ?_)))
  refine aO Tryz.results93 (.cellB 0 Z Z Z H)
 ·have hs0:dQ y≠0:=by unfold dQ;rw [if_neg hy]; split <;> decide
  have hdm:=gS x y hy p2 p3
  have hlt:=rV x hy
  refine ae (ae (aj (Cl (ak 1 Z Z Z) ?_)))
  refine Cl (am (hsg) Z ⟨H,Cq⟩) ?_
  refine Cl (sT (by assumption) (c8 Z Z)) (Cp (aa (aI Z (aw (aa (av (ae (aj (Cl (ak 2 Z Z Z) ?_)))))))))
  refine Cl (ak 1 Z Z Z) ?_
  refine Cl (am (hdm) Z ⟨H,H,Cq⟩) ?_
  refine Cm Z (Cl (ar Z Z) (Cl (ar Z Z) (Cl (ar Z Z) ?_)))
  refine aP (T:=43) Z (ltN Z) (fun b5 => ?_)
  refine aP (T:=43) Z (ltN Z) (fun b6 => ?_)
  refine aB 1 Z Z Z Z Z (leN Z) Z (aB 0 Z Z Z Z Z (leN Z) Z (Cn Z (Cp (aa ?_))))
  refine yo [⟨⟨3,b3,43,Lay.agg 2⟩,_⟩,⟨⟨2,b2,43,Lay.agg 2⟩,_⟩] [_,_,_] aU X ((db 3 Z).trans (.cons _ ((db 3 Z).trans (.cons _ (List.Perm.refl _))))) Z (And.intro Z (And.intro Z (trivial))) ?_
  refine wl 0 Z X (fun B=>ak 0 Z Z Z) Z ?_
  refine wx (fun B=>ak 0 Z Z Z) Z ?_
  refine ws Z (ws Z ?_)
  refine RunY.nil ⟨And.intro Z (And.intro Z (And.intro Z (And.intro Z (trivial)))),?_⟩
  refine cC (M' := [_,_,_,_,_]) Z (aA (tQ ((db 4 Z).trans (.cons _ ((db 0 Z).trans (.cons _ ((db 0 Z).trans (.cons _ (List.Perm.refl _))))))) ?_))
  refine aS ((y,x % y)) (⟨by rw [← p1]; exact xb x y,p3,jc p3 (Nat.le_of_lt hlt)⟩) (by assumption) Ch (.keep Ck (.keep Ck (.keep Ck (SubM.nilR _))))
end Tor
end
section
namespace Tor
open Go Go.RowKit Go.Proofs
attribute [local irreducible] J PJ aJ one slT cv bB bL exT cp eP aW aN slV VT.le Ret bK
theorem uo (n d:Int) (hd:d≠0) (hn:dE n) (hds:dE d):Ok Tryz.prog 94 [aK n,aK d] (bL [bD (Rat.divInt n d),one (.int .i64 0)]):=by
 have hsi:=eg d
 have hn1:=iJ n hn.small
 have hd1:=iJ d hds.small
 have e1:dE (-n):=jc hn Y
 have e2:dE (-d):=jc hds Y
 have g0:=w7 (n:=n) hd
 have g1:dE ((Nat.gcd n.natAbs d.natAbs:Nat):Int):=jc hds (by rw [Int.natAbs_natCast]; exact Nat.le_of_dvd Y (Nat.gcd_dvd_right _ _))
 unfold bD fA
 refine Ok.enter Tryz.func94 Z Tryz.ntmps94 Z (fun w O => ?_)
 by_cases h:d<0
 ·obtain ⟨l1,l2⟩:=um (n:=n) h
  have hs:dQ d = -1:=by unfold dQ;rw [if_neg hd,if_pos h]
  have hg:=un (-n) (-d) e1 e2
  rw [Int.natAbs_neg,Int.natAbs_neg] at hg
  have hm1:=gS (-n) _ g0 e1 g1
  have hm2:=gS (-d) _ g0 e2 g1
  have d1:((Nat.gcd n.natAbs d.natAbs:Nat):Int)∣n:=Int.gcd_dvd_left ..
  have d2:((Nat.gcd n.natAbs d.natAbs:Nat):Int)∣d:=Int.gcd_dvd_right ..
  rw [Int.ediv_neg, ← Int.neg_ediv_of_dvd d1] at l1
  rw [Int.ediv_neg, ← Int.neg_ediv_of_dvd d2] at l2
  refine ae (aj ?_)
  refine aQ Z Z (ltN Z) (fun b2 => ?_)
  refine aQ Z Z (ltN Z) (fun b3 => ?_)
  refine aT (T:=45) Z Z Z (fun b4 => ?_)
  refine Cn Z (Cp (aa (ae (ae (aj (Cl (aL 1 Z Z) ?_))))))
  refine Cl (am (hsi) Z ⟨H,Cq⟩) ?_
  refine Cl (sF Y (cN Z Z)) (Cp (aa (az Z (aw (aa (ae (ae (aj (Cl (aL 1 Z Z) ?_)))))))))
  refine Cl (am (hsi) Z ⟨H,Cq⟩) ?_
  refine Cl (sT Y (a9 Z Z)) (Cp (aa (aI Z (gn 3 aU X W (Cl (aL 2 Z Z) ?_)))))
  refine Cl (am (hn1) Z ⟨H,Cq⟩) ?_
  refine Cl (aL 1 Z Z) (Cp ?_)
  refine Cl (am (hd1) Z ⟨H,Cq⟩) ?_
  refine aR 2 Z Z Z Z (aR 1 Z Z Z Z (Cp (aa (ae (aj (Cl (aL 2 Z Z) (Cl (aL 1 Z Z) ?_)))))))
  refine Cl (am (hg) Z ⟨H,H,Cq⟩) ?_
  refine aP (T:=43) Z (ltN Z) (fun b6 => ?_)
  refine aB 0 Z Z Z Z Z (leN Z) Z (Cp (aa (ae (aj (Cl (aL 3 Z Z) (Cl (ak 0 Z Z Z) ?_))))))
  refine Cl (am (hm1) Z ⟨H,H,Cq⟩) ?_
  refine Cm Z (Cl (ar Z Z) (Cl (ar Z Z) (Cl (ar Z Z) ?_)))
  refine aP (T:=43) Z (ltN Z) (fun b7 => ?_)
  refine aP (T:=43) Z (ltN Z) (fun b8 => ?_)
  refine aB 1 Z Z Z Z Z (leN Z) Z (aB 0 Z Z Z Z Z (leN Z) Z (Cn Z (Cp (aa (ae (aj (Cl (aL 4 Z Z) (Cl (ak 2 Z Z Z) ?_))))))))
  refine Cl (am (hm2) Z ⟨H,H,Cq⟩) ?_
  refine Cm Z (Cl (ar Z Z) (Cl (ar Z Z) (Cl (ar Z Z) ?_)))
  refine aP (T:=43) Z (ltN Z) (fun b10 => ?_)
  refine aP (T:=43) Z (ltN Z) (fun b11 => ?_)
  refine aB 1 Z Z Z Z Z (leN Z) Z (aB 0 Z Z Z Z Z (leN Z) Z (Cn Z (Cp (aa (ae (aj (Cl (ak 3 Z Z Z) (Cl (ak 1 Z Z Z) (stB Z Z Z ?_)))))))))
  refine BuildK.cons Z Z Z (BuildK.cons Z Z Z (BuildK.nil (aR 5 Z Z Z Z (Cn Z (Cp (aa (aD ?_)))))))
  refine eX Tryz.results94 (.cellW 5 Z Z (iL l1 l2)) (.tmp Z H)
 ·obtain ⟨l1,l2⟩:=ul (n:=n) (show 0<d by omega)
  have hs:dQ d=1:=by unfold dQ;rw [if_neg hd,if_neg h]
  have hg:=un n d hn hds
  have hm1:=gS n _ g0 hn g1
  have hm2:=gS d _ g0 hds g1
  refine ae (aj ?_)
  refine aQ Z Z (ltN Z) (fun b2 => ?_)
  refine aQ Z Z (ltN Z) (fun b3 => ?_)
  refine aT (T:=45) Z Z Z (fun b4 => ?_)
  refine Cn Z (Cp (aa (ae (ae (aj (Cl (aL 1 Z Z) ?_))))))
  refine Cl (am (hsi) Z ⟨H,Cq⟩) ?_
  refine Cl (sF Y (cN Z Z)) (Cp (aa (az Z (aw (aa (ae (ae (aj (Cl (aL 1 Z Z) ?_)))))))))
  refine Cl (am (hsi) Z ⟨H,Cq⟩) ?_
  refine Cl (sF Y (a9 Z Z)) (Cp (aa (az Z (aw (aa (ae (aj (Cl (aL 2 Z Z) (Cl (aL 1 Z Z) ?_)))))))))
  refine Cl (am (hg) Z ⟨H,H,Cq⟩) ?_
  refine aP (T:=43) Z (ltN Z) (fun b6 => ?_)
  refine aB 0 Z Z Z Z Z (leN Z) Z (Cp (aa (ae (aj (Cl (aL 3 Z Z) (Cl (ak 0 Z Z Z) ?_))))))
  refine Cl (am (hm1) Z ⟨H,H,Cq⟩) ?_
  refine Cm Z (Cl (ar Z Z) (Cl (ar Z Z) (Cl (ar Z Z) ?_)))
  refine aP (T:=43) Z (ltN Z) (fun b7 => ?_)
  refine aP (T:=43) Z (ltN Z) (fun b8 => ?_)
  refine aB 1 Z Z Z Z Z (leN Z) Z (aB 0 Z Z Z Z Z (leN Z) Z (Cn Z (Cp (aa (ae (aj (Cl (aL 4 Z Z) (Cl (ak 2 Z Z Z) ?_))))))))
  refine Cl (am (hm2) Z ⟨H,H,Cq⟩) ?_
  refine Cm Z (Cl (ar Z Z) (Cl (ar Z Z) (Cl (ar Z Z) ?_)))
  refine aP (T:=43) Z (ltN Z) (fun b10 => ?_)
  refine aP (T:=43) Z (ltN Z) (fun b11 => ?_)
  refine aB 1 Z Z Z Z Z (leN Z) Z (aB 0 Z Z Z Z Z (leN Z) Z (Cn Z (Cp (aa (ae (aj (Cl (ak 3 Z Z Z) (Cl (ak 1 Z Z Z) (stB Z Z Z ?_)))))))))
  refine BuildK.cons Z Z Z (BuildK.cons Z Z Z (BuildK.nil (aR 5 Z Z Z Z (Cn Z (Cp (aa (aD ?_)))))))
  refine eX Tryz.results94 (.cellW 5 Z Z (iL l1 l2)) (.tmp Z H)
theorem tq (a b c d:Int):Ok Tryz.prog 24 [fA a b,fA c d] (one (.bool (decide (a=c) && decide (b=d)))):=by
 have h1:=nR a c
 have h2:=nR b d
 unfold fA
 refine Ok.enter Tryz.func24 Z Tryz.ntmps24 Z (fun w O => ?_)
 by_cases c1:a=c
 ·rw [decide_eq_true c1] at h1 ⊢
  refine ae (aj ?_)
  refine aQ Z Z (ltN Z) (fun b2 => ?_)
  refine aQ Z Z (ltN Z) (fun b3 => ?_)
  refine Cn Z (Cp (aa (ae (aj (Cl (ai Z) (Cl (ak 1 Z Z Z) (Cl (ai Z) (Cl (ak 0 Z Z Z) ?_))))))))
  refine Cl (am (h1) Z ⟨H,H,Cq⟩) ?_
  refine Cm Z (Co (ai Z) (Co (ak 1 Z Z Z) (Co (ai Z) (Co (ak 0 Z Z Z) ?_))))
  refine Co (am (h2) Z ⟨H,H,Cq⟩) ?_
  refine Cl (a6 Z Z) (Cn Z (Cp (aa (aD ?_))))
  refine aO Tryz.results24 (.tmp Z H)
 ·rw [decide_eq_false c1] at h1 ⊢
  refine ae (aj ?_)
  refine aQ Z Z (ltN Z) (fun b2 => ?_)
  refine aQ Z Z (ltN Z) (fun b3 => ?_)
  refine Cn Z (Cp (aa (ae (aj (Cl (ai Z) (Cl (ak 1 Z Z Z) (Cl (ai Z) (Cl (ak 0 Z Z Z) ?_))))))))
  refine Cl (am (h1) Z ⟨H,H,Cq⟩) ?_
  refine Cm Z (sg0 Z Z Z Z (sg0 Z Z Z Z (sg0 Z Z Z Z (sg0 Z Z Z Z (sg0 Z Z Z Z (Cl (bj Z Z) (Cn Z (Cp (aa ?_)))))))))
  refine aD ?_
  refine aO Tryz.results24 (.tmp Z H)
theorem pA (q r:Rat):Ok Tryz.prog 24 [bD q,bD r] (one (.bool (decide (q=r)))):=by
 have h:=tq q.num q.den r.num r.den
 have e:(decide (q.num=r.num) && decide ((q.den:Int)=(r.den:Int)))=decide (q=r):=by
  rw [← Bool.decide_and]
  exact decide_eq_decide.2 ⟨fun ⟨h1,h2⟩=>Rat.ext h1 Y,fun h=>by rw [h]; exact ⟨rfl,rfl⟩⟩
 rw [e] at h
 exact h
end Tor
end
section
namespace Tor
open Go Go.RowKit Go.Proofs
def lz (n:Nat) (x:Int):Prop:=(aF x.natAbs).length≤n
theorem lz.small {n:Nat} {x:Int} (h:lz n x) (hn:n≤1099511627776):bI x:=Nat.le_trans h hn
theorem lz.small0 {n:Nat} {x:Int} (h:lz n x) (hn:n≤1099511627700):dE x:=Nat.le_trans h hn
theorem lz.mono {n m:Nat} {x:Int} (h:lz n x) (hn:n≤m):lz m x:=Nat.le_trans h hn
theorem xc {n:Nat} {x y:Int} (h:lz n y) (hl:x.natAbs≤y.natAbs):lz n x:=Nat.le_trans (bT hl) h
theorem lz.lt {n:Nat} {x:Int} (h:lz n x):x.natAbs<4294967296^n:=Nat.lt_of_lt_of_le (cR _) (Nat.pow_le_pow_right W h)
theorem eW {n m:Nat} {x y:Int} (hx:lz n x) (hy:lz m y):lz (n+m) (x*y):=cy (by
 rw [Int.natAbs_mul,Nat.pow_add]
 have h1:=hx.lt
 have h2:=hy.lt
 exact Nat.mul_lt_mul'' h1 h2)
theorem xd {n:Nat} {x y:Int} (hx:lz n x) (hy:lz n y):lz (n+1) (x+y):=cy (by
 have h1:=hx.lt
 have h2:=hy.lt
 rw [Nat.pow_succ]
 generalize 4294967296^n=z at *
 omega)
theorem AI {n:Nat} {x:Int} (h:lz n x):lz n (-x):=xc h Y
theorem yQ (n:Nat):lz n 0:=Nat.zero_le _
theorem AJ {n:Nat} (h:1≤n):lz n 1:=Nat.le_trans (cy (k:=1) W) h
attribute [local irreducible] J PJ aJ one slT cv bB bL exT cp eP aW aN slV VT.le Ret bK xO
attribute [local irreducible] aK cH
end Tor
end
section
namespace Tor
open Go Go.RowKit Go.Proofs
abbrev rW (l:List Nat):Nat→VT:=fun q=>one (.int .i64 (l.getD q 0:Nat))
theorem xe {sv:Option Nat} {T:TypeId} {cap c:Nat} {l:List Nat} : Own.le (aN sv T .one cap (l.length+1) (fun q=>if q<l.length then rW l q else one (.int .i64 (c:Nat)))) (aN sv T .one cap (l ++ [c]).length (rW (l ++ [c]))):=fU (by simp) (fun q hq=>by
 show _=one (Value.int .i64 ((l ++ [c]).getD q 0:Nat))
 by_cases h:q<l.length
 ·rw [if_pos h]; show one (Value.int .i64 (l.getD q 0:Nat))=_;simp [List.getD,List.getElem?_append_left h]
 ·have:q=l.length:=by omega
  subst this;rw [if_neg h]; simp [List.getD])
attribute [local irreducible] J PJ aJ one slT cv bB bL exT cp eP aW aN slV VT.le Ret bK xO
attribute [local irreducible] aK cH
end Tor
end
section
namespace Tor
open Go Go.RowKit Go.Proofs
abbrev B4 (l:List Nat):VT:=slT .one l.length (rW l)
attribute [local irreducible] J PJ aJ one slT cv bB bL exT cp eP aW aN slV VT.le Ret bK xO
attribute [local irreducible] aK cH
end Tor
end
section
namespace Tor
open Go Go.RowKit Go.Proofs
theorem yR (n d:Int) (h:d≠0):(Rat.divInt n d).den≤d.natAbs:=by
 rw [Rat.den_divInt,if_neg h]
 exact Nat.div_le_self _ _
theorem yS (n d:Int):(Rat.divInt n d).num.natAbs≤n.natAbs:=by
 rw [Rat.num_divInt]
 refine Nat.le_trans (Int.natAbs_ediv_le_natAbs _ _) ?_
 rw [Int.natAbs_mul]
 have:d.sign.natAbs≤1:=by rw [Int.natAbs_sign]; split <;> omega
 exact Nat.le_trans (Nat.mul_le_mul_right _ this) Y
theorem rX (a b:Rat):a+b=Rat.divInt (a.num*b.den+b.num*a.den) (a.den*b.den):=by
 rw [Rat.add_def', ← Rat.divInt_ofNat]; simp
theorem rY (a b:Rat):a*b=Rat.divInt (a.num*b.num) (a.den*b.den):=by
 rw [Rat.mul_def', ← Rat.divInt_ofNat]; simp
theorem vC (a:Rat):Rat.divInt a.num a.den=a:=by
 rw [Rat.divInt_ofNat,Rat.mkRat_self]
theorem rZ (a b:Rat):a / b=Rat.divInt (a.num*b.den) (a.den*b.num):=by
 rw [Rat.div_def,Rat.inv_def]
 conv=>lhs;rw [← vC a]
 rw [Rat.divInt_mul_divInt]
def qz (n:Nat) (q:Rat):Prop:=lz n q.num∧lz n (q.den:Int)
theorem qz.mono {n m:Nat} {q:Rat} (h:qz n q) (hn:n≤m):qz m q:=⟨h.1.mono hn,h.2.mono hn⟩
theorem oh {n:Nat} {a d:Int} (ha:lz n a) (hd:lz n d) (h:d≠0):qz n (Rat.divInt a d):=⟨xc ha (yS a d),xc hd (by rw [Int.natAbs_natCast]; exact yR a d h)⟩
theorem oi {n:Nat} {a:Int} (hn:1≤n) (h:lz n a):qz n (a:Rat):=⟨by rw [Rat.num_intCast]; exact h,by rw [Rat.den_intCast]; exact AJ hn⟩
theorem fQ (q:Rat):(q.den:Int)≠0:=by have:=q.den_nz;omega
theorem tr {n:Nat} {q:Rat} (h:qz n q):qz n (-q):=⟨by rw [Rat.neg_num]; exact AI h.1,by rw [Rat.neg_den]; exact h.2⟩
theorem xf {n m:Nat} {p q:Rat} (hp:qz n p) (hq:qz m q):qz (n+m+1) (p+q):=by
 rw [rX]
 have h1:=eW hp.1 hq.2
 have h2:=eW hq.1 hp.2
 rw [Nat.add_comm m n] at h2
 exact oh (xd h1 h2) ((eW hp.2 hq.2).mono Y) (Int.mul_ne_zero (fQ p) (fQ q))
theorem tt {n m:Nat} {p q:Rat} (hp:qz n p) (hq:qz m q):qz (n+m+1) (p - q):=by
 rw [Rat.sub_eq_add_neg]; exact xf hp (tr hq)
theorem jz {n m:Nat} {p q:Rat} (hp:qz n p) (hq:qz m q):qz (n+m) (p*q):=by
 rw [rY]
 exact oh (eW hp.1 hq.1) (eW hp.2 hq.2) (Int.mul_ne_zero (fQ p) (fQ q))
theorem lF {n m:Nat} {p q:Rat} (hp:qz n p) (hq:qz m q) (h:q≠0):qz (n+m) (p / q):=by
 rw [rZ]
 exact oh (eW hp.1 hq.2) (eW hp.2 hq.1) (Int.mul_ne_zero (fQ p) (fun e=>h (Rat.num_eq_zero.1 e)))
theorem yT (n:Nat) (hn:1≤n):qz n 0:=oi (a:=0) hn (yQ n)
attribute [local irreducible] J PJ aJ one slT cv bB bL exT cp eP aW aN slV VT.le Ret bK xO
attribute [local irreducible] aK
theorem kD (a:Int):Ok Tryz.prog 25 [aK a] (bD (a:Rat)):=by
 have h1:=it 1 W W
 unfold bD
 rw [Rat.num_intCast,Rat.den_intCast]
 refine Ok.enter Tryz.func25 Z Tryz.ntmps25 Z (fun w O => ?_)
 refine ae (aj ?_)
 refine nr Z Z (ltN Z) (fun b1 => ?_)
 refine aT (T:=45) Z Z Z (fun b2 => ?_)
 refine Cp (aa (ae (a4 2 aU X W (Cl (ak 1 Z Z Z) ?_))))
 refine Cl (am (h1) Z ⟨H,Cq⟩) ?_
 refine Cp (stB Z Z Z (BuildK.cons Z Z Z (BuildK.cons Z Z Z (BuildK.nil (aR 0 Z Z Z Z (Cp (aa (aD ?_))))))))
 refine aO Tryz.results25 (.cellW 0 Z Z (iL Z Z))
theorem jA (n:Int) (h1 : -9223372036854775808≤n) (h2:n≤9223372036854775807):Ok Tryz.prog 20 [one (.int .i64 n)] (bD (n:Rat)):=by
 have ho:=it n h1 h2
 refine Ok.enter Tryz.func20 Z Tryz.ntmps20 Z (fun w O => ?_)
 refine ae (aj ?_)
 refine aT (T:=45) Z Z Z (fun b2 => ?_)
 refine Cp (aa (ae (aj (Cm Z ?_))))
 refine Cl (am (ho) Z ⟨H,Cq⟩) ?_
 refine Cl (am (kD _) Z ⟨H,Cq⟩) ?_
 refine aR 0 Z Z Z Z (Cp (aa (aD ?_)))
 refine aO Tryz.results20 (.cellW 0 Z Z H)
theorem mj (q:Rat):Ok Tryz.prog 19 [bD q] (one (.int .i64 (dQ q.num))):=by
 unfold bD fA
 refine Ok.enter Tryz.func19 Z Tryz.ntmps19 Z (fun w O => ?_)
 refine ae (aj ?_)
 refine aQ Z Z (ltN Z) (fun b1 => ?_)
 refine Cn Z (Cp (aa (ae (aj (Cl (ai Z) (Cl (ak 0 Z Z Z) ?_))))))
 refine Cl (am (eg _) Z ⟨H,Cq⟩) ?_
 refine Cn Z (Cp (aa (aD ?_)))
 refine aO Tryz.results19 (.tmp Z H)
theorem r4 (q:Rat) (h:bI q.num):Ok Tryz.prog 53 [bD q] (bD (-q)):=by
 have hn:=iJ q.num h
 rw [← Rat.neg_num] at hn
 unfold bD fA
 refine Ok.enter Tryz.func53 Z Tryz.ntmps53 Z (fun w O => ?_)
 refine ae (aj ?_)
 refine aQ Z Z (ltN Z) (fun b1 => ?_)
 refine aT (T:=45) Z Z Z (fun b2 => ?_)
 refine Cp (aa (ae (a4 6 aU X W (Cl (ai Z) (Cl (ak 1 Z Z Z) ?_)))))
 refine Cl (am (hn) Z ⟨H,Cq⟩) ?_
 refine Cl (ai Z) (Cl (ak 1 Z Z Z) (stB Z Z Z (BuildK.cons Z Z Z (BuildK.cons Z Z Z (BuildK.nil (Cp (aR 0 Z Z Z Z (Cp (aa ?_)))))))))
 refine aD ?_
 refine aO Tryz.results53 (.cellW 0 Z Z (iL Z (by rw [Rat.neg_den])))
theorem qC (n d:Int) (hd:d≠0) (hn:dE n) (hds:dE d):Ok Tryz.prog 57 [aK n,aK d] (bD (Rat.divInt n d)):=by
 have h:=uo n d hd hn hds
 unfold bD fA at *
 refine Ok.enter Tryz.func57 Z Tryz.ntmps57 Z (fun w O => ?_)
 refine ae (aj ?_)
 refine nr Z Z (ltN Z) (fun b2 => ?_)
 refine nr Z Z (ltN Z) (fun b3 => ?_)
 refine aT (T:=45) Z Z Z (fun b4 => ?_)
 refine Cp (aa (ae (aj (Cl (ak 2 Z Z Z) (Cl (ak 1 Z Z Z) ?_)))))
 refine Cl (am (h) Z ⟨H,H,Cq⟩) ?_
 refine Cm Z (Cl (ar Z Z) (Cl (ar Z Z) ?_))
 refine aT (T:=45) Z Z Z (fun b5 => ?_)
 refine aR 0 Z Z Z Z (Cn Z (Cp (aa (ae (aj (Cl (aL 0 Z Z) (aR 1 Z Z Z Z (Cp (aa ?_)))))))))
 refine aD ?_
 refine aO Tryz.results57 (.cellW 1 Z Z H)
theorem r5 (p q:Rat) (n m:Nat) (hp:qz n p) (hq:qz m q) (h:n+m+1≤1099511627700):Ok Tryz.prog 22 [bD p,bD q] (bD (p+q)):=by
 have m1:=eW hp.1 hq.2
 have m2:=eW hq.1 hp.2
 have m3:=eW hp.2 hq.2
 rw [Nat.add_comm m n] at m2
 have c1:=d8 p.num q.den (hp.1.small Y) (hq.2.small Y)
 have c2:=d8 q.num p.den (hq.1.small Y) (hp.2.small Y)
 have c3:=d8 (p.den:Int) q.den (hp.2.small Y) (hq.2.small Y)
 have c4:=iH (p.num*q.den) (q.num*p.den) (m1.small Y) (m2.small Y)
 have c5:=qC (p.num*q.den+q.num*p.den) (p.den*q.den) (Int.mul_ne_zero (fQ p) (fQ q)) ((xd m1 m2).small0 h) (m3.small0 Y)
 rw [rX]
 unfold bD fA at *
 refine Ok.enter Tryz.func22 Z Tryz.ntmps22 Z (fun w O => ?_)
 refine ae (aj ?_)
 refine aQ Z Z (ltN Z) (fun b2 => ?_)
 refine aQ Z Z (ltN Z) (fun b3 => ?_)
 refine aT (T:=45) Z Z Z (fun b4 => ?_)
 refine Cp (aa (ae ?_))
 refine dN aU X X ?_
 refine ux (fun B=>ai Z) Z Z ?_
 refine ux (fun B=>ak 2 Z Z Z) Z Z ?_
 refine ux (fun B=>ai Z) Z Z ?_
 refine ux (fun B=>ak 1 Z Z Z) Z Z ?_
 refine uxk (c1) Z ⟨H,H,Cq⟩ Z ?_
 refine ux (fun B=>ai Z) Z Z ?_
 refine ux (fun B=>ak 1 Z Z Z) Z Z ?_
 refine ux (fun B=>ai Z) Z Z ?_
 refine ux (fun B=>ak 2 Z Z Z) Z Z ?_
 refine uxk (c2) Z ⟨H,H,Cq⟩ Z ?_
 refine uxk (c4) Z ⟨H,H,Cq⟩ Z ?_
 refine ua Z (us Z ?_)
 refine RunU.nil (fun γ => ?_)
 refine cC (M' := [_,_,_,_]) Z (aa (ae (a4 7 aU X W (Cl (ak 0 Z Z Z) (Cl (ai Z) (Cl (ak 3 Z Z Z) (Cl (ai Z) (Cl (ak 2 Z Z Z) ?_))))))))
 refine Cl (am (c3) Z ⟨H,H,Cq⟩) ?_
 refine Cl (am (c5) Z ⟨H,H,Cq⟩) ?_
 refine Cp (aR 1 Z Z Z Z (Cp (aa (aD ?_))))
 refine aO Tryz.results22 (.cellW 1 Z Z H)
theorem ol (p q:Rat) (n m:Nat) (hp:qz n p) (hq:qz m q) (h:n+m+1≤1099511627700):Ok Tryz.prog 50 [bD p,bD q] (bD (p - q)):=by
 have c1:=r4 q (hq.1.small Y)
 have c2:=r5 p (-q) n m hp (tr hq) h
 rw [← Rat.sub_eq_add_neg] at c2
 refine Ok.enter Tryz.func50 Z Tryz.ntmps50 Z (fun w O => ?_)
 refine ae (aj ?_)
 refine aQ Z Z (ltN Z) (fun b2 => ?_)
 refine aQ Z Z (ltN Z) (fun b3 => ?_)
 refine aT (T:=45) Z Z Z (fun b4 => ?_)
 refine Cp (aa (ae (a4 4 aU X W (Cl (aL 2 Z Z) (Cl (aL 1 Z Z) ?_)))))
 refine Cl (am (c1) Z ⟨H,Cq⟩) ?_
 refine Cl (am (c2) Z ⟨H,H,Cq⟩) ?_
 refine Cp (aR 0 Z Z Z Z (Cp (aa (aD ?_))))
 refine aO Tryz.results50 (.cellW 0 Z Z H)
theorem jB (p q:Rat) (n m:Nat) (hp:qz n p) (hq:qz m q) (h:n+m≤1099511627700):Ok Tryz.prog 21 [bD p,bD q] (bD (p*q)):=by
 have c1:=d8 p.num q.num (hp.1.small Y) (hq.1.small Y)
 have c2:=d8 (p.den:Int) q.den (hp.2.small Y) (hq.2.small Y)
 have c3:=qC (p.num*q.num) (p.den*q.den) (Int.mul_ne_zero (fQ p) (fQ q)) ((eW hp.1 hq.1).small0 h) ((eW hp.2 hq.2).small0 h)
 rw [rY]
 unfold bD fA at *
 refine Ok.enter Tryz.func21 Z Tryz.ntmps21 Z (fun w O => ?_)
 refine ae (aj ?_)
 refine aQ Z Z (ltN Z) (fun b2 => ?_)
 refine aQ Z Z (ltN Z) (fun b3 => ?_)
 refine aT (T:=45) Z Z Z (fun b4 => ?_)
 refine Cp (aa (ae (a4 11 aU X W (Cl (ai Z) (Cl (ak 2 Z Z Z) (Cl (ai Z) (Cl (ak 1 Z Z Z) ?_)))))))
 refine Cl (am (c1) Z ⟨H,H,Cq⟩) ?_
 refine Cl (ai Z) (Cl (ak 2 Z Z Z) (Cl (ai Z) (Cl (ak 1 Z Z Z) ?_)))
 refine Cl (am (c2) Z ⟨H,H,Cq⟩) ?_
 refine Cl (am (c3) Z ⟨H,H,Cq⟩) ?_
 refine Cp (aR 0 Z Z Z Z (Cp (aa (aD ?_))))
 refine aO Tryz.results21 (.cellW 0 Z Z H)
theorem xg (p q:Rat) (n m:Nat) (hp:qz n p) (hq:qz m q) (h:n+m≤1099511627700) (h0:q≠0):Ok Tryz.prog 85 [bD p,bD q] (bL [bD (p / q),one (.int .i64 0)]):=by
 have c1:=d8 p.num q.den (hp.1.small Y) (hq.2.small Y)
 have c2:=d8 (p.den:Int) q.num (hp.2.small Y) (hq.1.small Y)
 have c3:=uo (p.num*q.den) (p.den*q.num) (Int.mul_ne_zero (fQ p) (fun e=>h0 (Rat.num_eq_zero.1 e))) ((eW hp.1 hq.2).small0 h) ((eW hp.2 hq.1).small0 h)
 rw [rZ]
 unfold bD fA at *
 refine Ok.enter Tryz.func85 Z Tryz.ntmps85 Z (fun w O => ?_)
 refine ae (aj ?_)
 refine aQ Z Z (ltN Z) (fun b2 => ?_)
 refine aQ Z Z (ltN Z) (fun b3 => ?_)
 refine aT (T:=45) Z Z Z (fun b4 => ?_)
 refine Cn Z (Cp (aa (ae (a4 13 aU X W (Cl (ai Z) (Cl (ak 2 Z Z Z) (Cl (ai Z) (Cl (ak 1 Z Z Z) ?_))))))))
 refine Cl (am (c1) Z ⟨H,H,Cq⟩) ?_
 refine Cl (ai Z) (Cl (ak 2 Z Z Z) (Cl (ai Z) (Cl (ak 1 Z Z Z) ?_)))
 refine Cl (am (c2) Z ⟨H,H,Cq⟩) ?_
 refine Cl (am (c3) Z ⟨H,H,Cq⟩) ?_
 refine Cl (ar Z Z) (Cl (ar Z Z) (Cp (aR 0 Z Z Z Z (Cn Z (Cp (aa (aD ?_)))))))
 refine eX Tryz.results85 (.cellW 0 Z Z H) (.tmp Z H)
theorem pB (p q:Rat) (n m:Nat) (hp:qz n p) (hq:qz m q) (h:n+m≤1099511627700) (h0:q≠0):Ok Tryz.prog 48 [bD p,bD q] (bD (p / q)):=by
 have c:=xg p q n m hp hq h h0
 unfold bD fA at *
 refine Ok.enter Tryz.func48 Z Tryz.ntmps48 Z (fun w O => ?_)
 refine ae (aj ?_)
 refine aQ Z Z (ltN Z) (fun b2 => ?_)
 refine aQ Z Z (ltN Z) (fun b3 => ?_)
 refine aT (T:=45) Z Z Z (fun b4 => ?_)
 refine Cp (aa (ae (aj (Cl (aL 2 Z Z) (Cl (aL 1 Z Z) ?_)))))
 refine Cl (am (c) Z ⟨H,H,Cq⟩) ?_
 refine Cm Z (Cl (ar Z Z) (Cl (ar Z Z) ?_))
 refine aT (T:=45) Z Z Z (fun b5 => ?_)
 refine aR 0 Z Z Z Z (Cn Z (Cp (aa (ae (aj (Cl (aL 0 Z Z) (aR 1 Z Z Z Z (Cp (aa ?_)))))))))
 refine aD ?_
 refine aO Tryz.results48 (.cellW 1 Z Z H)
theorem ml (n d:Int) (hd:d≠0) (n1 : -9223372036854775808≤n) (n2:n≤9223372036854775807) (d1 : -9223372036854775808≤d) (d2:d≤9223372036854775807):Ok Tryz.prog 42 [one (.int .i64 n),one (.int .i64 d)] (bD (Rat.divInt n d)):=by
 have o1:=it n n1 n2
 have o2:=it d d1 d2
 have c:=qC n d hd (py Y) (py Y)
 refine Ok.enter Tryz.func42 Z Tryz.ntmps42 Z (fun w O => ?_)
 refine ae (aj ?_)
 refine aT (T:=45) Z Z Z (fun b4 => ?_)
 refine Cp (aa (ae (ae (aj (Cm Z (Cl (sF (by assumption) (cN Z Z)) (Cp (aa (az Z ?_)))))))))
 refine aw (aa (ae (aj (Cm Z ?_))))
 refine Cl (am (o1) Z ⟨H,Cq⟩) ?_
 refine Cm Z ?_
 refine Cl (am (o2) Z ⟨H,Cq⟩) ?_
 refine Cl (am (c) Z ⟨H,H,Cq⟩) ?_
 refine aR 0 Z Z Z Z (Cp (aa (aD ?_)))
 refine aO Tryz.results42 (.cellW 0 Z Z H)
theorem jY (n m:Nat) (l k:Nat→Rat) (hn:n≤1048576):Ok Tryz.prog 14 [slT (.agg 4) n (fun i=>bD (l i)),slT (.agg 4) m (fun i=>bD (k i))] (one (.bool (decide (n=m ∧ ∀ i,i<n→l i=k i)))):=by
 refine Ok.enter Tryz.func14 Z Tryz.ntmps14 Z (fun w O => ?_)
 by_cases h:n=m
 ·subst h
  refine ae (aj (Cn Z (Cp (aa (ae (ae (aj (Cm Z (Cl (aV Z) ?_)))))))))
  refine Cm Z (Cl (aV Z) (Cl (sF Y (c8 Z Z)) (Cp (aa (az Z (aw (aa (ae (ae ?_)))))))))
  refine aj (Cn Z (Cp (aa (av (cx (Γ' := [(0,_),(1,_),(4,_),(5,_)]) Cg (SubM.refl _) ?_)))))
  refine bE (σ:=Nat) (Γk := [(0,_),(1,_)]) Cg (fun i => [(5,one (.int .i64 (i:Nat)))]) (fun i M0=>M0) (fun i=>i≤n ∧ ∀ q,q<i→l q=k q) (fun i=>n - i) (0) (⟨Nat.zero_le _,fun q h=>absurd h (Nat.not_lt_zero _)⟩) Ch (.nil) (fun i hi => ?_)
  refine bY (Γ' := [(5,_),(0,_),(1,_)]) (M' := []) Z Z ?_
  obtain ⟨hi,hq⟩:=hi
  by_cases hin:i<n
  ·have hs:=pA (l i) (k i)
   by_cases he:l i=k i
   ·rw [decide_eq_true he] at hs
    refine ae (ae (aj (Cm Z (Cm Z (Cl (aV Z) (Cl (sT Y (a9 Z Z)) (Cp (aa (aI Z ?_)))))))))
    refine aw (aa (ae (av (ae (a4 10 aU X W (Cm Z (Cm Z (Cl (ax Z Z Y) (Cl (aG Z) ?_)))))))))
    refine Cm Z (Cm Z (Cl (ax Z Z Y) (Cl (aG Z) ?_)))
    refine Cl (am (hs) Z ⟨H,H,Cq⟩) ?_
    refine Cl (bS Z) (Cp (Cp (aa (az Z (aw (aA (aa (aj (Cm Z ?_)))))))))
    refine Cl (bC _ 1 Z Z Y) (Cn Z (Cp ?_))
    refine aS (i+1) (⟨hin,fun q h=>by by_cases h3:q=i;exact h3▸he;exact hq q Y⟩) Y Ch (.nil)
   ·rw [decide_eq_false he] at hs
    rw [decide_eq_false (fun h=>he (h.2 i hin))]
    refine ae (ae (aj (Cm Z (Cm Z (Cl (aV Z) (Cl (sT Y (a9 Z Z)) (Cp (aa (aI Z ?_)))))))))
    refine aw (aa (ae (av (ae (a4 10 aU X W (Cm Z (Cm Z (Cl (ax Z Z Y) (Cl (aG Z) ?_)))))))))
    refine Cm Z (Cm Z (Cl (ax Z Z Y) (Cl (aG Z) ?_)))
    refine Cl (am (hs) Z ⟨H,H,Cq⟩) ?_
    refine Cl (bS Z) (Cp (Cp (aa (aI Z (ae (aj (Cn Z (Cp (aa ?_)))))))))
    refine aD (be (aE (aE (be (aE ?_)))))
    refine aO Tryz.results14 (.tmp Z H)
  ·rw [decide_eq_true ⟨rfl,fun q h=>hq q Y⟩]
   refine ae (ae (aj (Cm Z (Cm Z (Cl (aV Z) (Cl (sF Y (a9 Z Z)) (Cp (aa (az Z ?_)))))))))
   refine aX (au (au (aC (aa (ae (aj (Cn Z (Cp (aa ?_)))))))))
   refine aD ?_
   refine aO Tryz.results14 (.tmp Z H)
 ·rw [decide_eq_false (fun k=>h k.1)]
  refine ae (aj (Cn Z (Cp (aa (ae (ae (aj (Cm Z (Cl (aV Z) ?_)))))))))
  refine Cm Z (Cl (aV Z) (Cl (sT Y (c8 Z Z)) (Cp (aa (aI Z (ae (aj (Cn Z (Cp ?_)))))))))
  refine aa (aD (aE ?_))
  refine aO Tryz.results14 (.tmp Z H)
end Tor
end
