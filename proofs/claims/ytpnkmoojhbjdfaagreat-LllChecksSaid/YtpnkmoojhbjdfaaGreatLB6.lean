/-
  Theorems that the proofs of laws of this seat rest on.
  No condition.
-/
import Derived.Test.YtpnkmoojhbjdfaaGreatLB5
set_option maxHeartbeats 16000000
set_option linter.unusedVariables false
set_option linter.unusedSimpArgs false
section
namespace Tor
open Go Go.RowKit Go.Proofs
theorem Au:VT.le (one (.slice none 0 0)) (nq 0):=VT.le_trans gV (gu (l := []) (fun _ h=>by cases h) Z)
theorem vN {a b:Nat} : (np a b<0)=(a<b):=by unfold np;split <;> simp_all <;> (try split) <;> omega
theorem tb {b:Nat} (h:(aL b).length=1):(aL b).getD 0 0=b:=by
 have h1:=bL (l:=aL b) (k:=0) Y
 rw [List.take_of_length_le Y,bY] at h1
 simpa [lv] using h1.symm
theorem Av {v:Nat} (h:v<4294967296):VT.le (slT .one 1 fun _=>one (.int .u32 (v:Nat))) (nq v) :=
 VT.le_trans (dg (m := [v].length) (ψ:=fun i=>one (.int .u32 ([v].getD i 0:Nat))) Z (fun q hq=>by
  have hq:q<1:=hq
  have:q=0:=by omega
  subst this;rfl)) (gu (l := [v]) (fun d hd=>by simp at hd;omega) (by simp [lv]))
def nU:Nat→Nat→List Nat
 | 0, _ => []
 | n + 1, v => v % 4294967296 :: nU n (v / 4294967296)
theorem pd : ∀ n v,(nU n v).length=n
 | 0, _ => rfl
 | n + 1, v => by rw [nU, List.length_cons, pd n]
theorem pe : ∀ n v,bI (nU n v)
 | 0, _ => fun d hd => by cases hd
 | n + 1, v => fun d hd => by
  rw [nU] at hd
  rcases List.mem_cons.1 hd with rfl | hd
  ·exact Nat.mod_lt _ S
  ·exact pe n _ d hd
theorem pf : ∀ n v,v<4294967296^n→lv (nU n v)=v
 | 0, v, h => by simp at h; subst h; rfl
 | n + 1, v, h => by
  have:v / 4294967296<4294967296^n:=Nat.div_lt_of_lt_mul (by rw [Nat.mul_comm, ← Nat.pow_succ]; exact h)
  rw [nU,lv,pf n _ this]; omega
theorem tc : ∀ {z:List Nat},bI z→z=nU z.length (lv z)
 | [], _ => rfl
 | d :: z, h => by
  have hd:=h.head
  have ih:=tc h.tail
  rw [List.length_cons,nU,lv]
  rw [show (d+4294967296*lv z) % 4294967296=d by omega,show (d+4294967296*lv z) / 4294967296=lv z by omega, ← ih]
theorem yv {l:List Nat} {s:Nat} (hl:bI l) (hs:s<32):lv l*2^s<4294967296^(l.length+1):=by
 rw [Nat.pow_succ]
 have h1:2^s≤4294967296:=Nat.pow_le_pow_right (n:=2) S (show s≤32 by omega)
 exact Nat.lt_of_lt_of_le (Nat.mul_lt_mul_of_pos_right (ix hl) (Nat.two_pow_pos s)) (Nat.mul_le_mul_left _ h1)
def Cg (l:List Nat) (s:Nat) (hl:bI l) (hs:s<32):rz l s:=⟨(0,nU (l.length+1) (lv l*2^s)),pd _ _,pe _ _,pf _ _ (yv hl hs)⟩
theorem w5 (l:List Nat) (s:Nat) (hl:bI l) (h1:l.length≤1099511627776) (hs:s<32):Ok Tryz.prog 137 [cr l,one (.int .i64 (s:Nat))] (slT .one (l.length+1) (gN (nU (l.length+1) (lv l*2^s)))) :=
 (s7 l s hl h1 hs).ok fun p=>by
  have h:=tc p.2.2.1
  rw [p.2.1,p.2.2.2] at h
  rw [← h]
  exact Ent.sl List.mem_cons_self
theorem w6 {z:List Nat} {q m:Nat} (h:q<m):gN z (Int.toNat 0+q)=gN (z.take m) q:=by
 have e:Int.toNat 0+q=q:=Nat.zero_add q
 rw [e]
 unfold gN
 rw [show (z.take m).getD q 0=z.getD q 0 by simp [List.getD,List.getElem?_take,h]]
theorem Aw {br:Option Nat} {T:TypeId} {n i s:Nat} {U:List Nat} (hi:i<n):Own.le (aU br T .one n n (upd (fun q=>one (.int .u32 ((if q<i then (fE U s n).getD q 0 else 0:Nat):Int))) i (one (.int .u32 (((U.getD (i+1) 0*4294967296+U.getD i 0) / 2^s % 4294967296:Nat):Int)))))
  (aU br T .one n n (fun q=>one (.int .u32 ((if q<i+1 then (fE U s n).getD q 0 else 0:Nat):Int)))):=bQ (fun q hq=>by
 unfold upd
 by_cases h:q=i
 ·subst h;rw [if_pos Z,if_pos (Nat.lt_succ_self q),Ar U s hi]; rfl
 ·rw [if_neg h]
  dsimp only
  by_cases h2:q<i
  ·rw [if_pos h2,if_pos (Nat.lt_succ_of_lt h2)]
  ·rw [if_neg h2,if_neg Y])
attribute [local irreducible] J PJ aP one slT cv bA bM exT cq eP aW aU slV VT.le Ret bO
set_option maxRecDepth 20000 in
theorem qw (a b:Nat) (hb:b≠0) (ha:(aL a).length≤1099511627776):Ok Tryz.prog 128 [cr (aL a),cr (aL b)] (bM [nq (a / b),nq (a % b)]):=by
 have hcl:=kp (aL a) ha
 have hcm:=lG a b
 refine Ok.enter Tryz.func128 Z Tryz.ntmps128 Z (fun w O => ?_)
 by_cases h1:a<b
 ·rw [Nat.div_eq_of_lt h1,Nat.mod_eq_of_lt h1]
  have hlt:np a b<0:=by rw [vN]; exact h1
  refine ae (aj (Ea Z (Ea Z (Ec (aa (ae (ar (ae (aj ?_)))))))))
  refine DZ Z (DZ Z ?_)
  refine DY (am (hcm) Z ⟨H,H,Ed⟩) ?_
  refine DY (sT (by assumption) (a7 Z Z)) (Ea Z (Ec (aa (aG Z (ae (aj (DZ Z ?_)))))))
  refine DY (am (hcl) Z ⟨H,Ed⟩) ?_
  refine Ea Z (Ea Z (Ec (aa (aD (a9 (aI ?_))))))
  refine fw Tryz.results128 (.tmp Z (Au)) (.tmp Z (cM _))
 ·have hlt : ¬ np a b<0:=by rw [vN]; exact h1
  have hlen:=bZ (Nat.le_of_not_lt h1)
  by_cases h2:(aL a).length≤2
  ·have hw1:=n9 (aL a) (bf a) h2
   have hw2:=n9 (aL b) (bf b) Y
   rw [bY] at hw1 hw2
   have a64:a<18446744073709551616:=Nat.lt_of_lt_of_le (da a) (Nat.pow_le_pow_right (n:=4294967296) S h2)
   have b64:b<18446744073709551616:=by omega
   have q64:a / b<18446744073709551616:=Nat.lt_of_le_of_lt (Nat.div_le_self _ _) a64
   have r64:a % b<18446744073709551616:=Nat.lt_of_le_of_lt (Nat.mod_le _ _) a64
   have hk1:=kj (a / b) q64
   have hk2:=kj (a % b) r64
   refine ae (aj (Ea Z (Ea Z (Ec (aa (ae (ar (ae (aj ?_)))))))))
   refine DZ Z (DZ Z ?_)
   refine DY (am (hcm) Z ⟨H,H,Ed⟩) ?_
   refine DY (sF (by assumption) (a7 Z Z)) (Ea Z (Ec (aa (az Z (ae (aj (DZ Z (DY (aZ Z) (DY (sT Y (j8 Z Z)) ?_)))))))))
   refine Ea Z (Ec (aa (aG Z (ae (aj (DZ Z ?_))))))
   refine DY (am (hw1) Z ⟨H,Ed⟩) ?_
   refine DZ Z ?_
   refine DY (am (hw2) Z ⟨H,Ed⟩) ?_
   refine Ea Z (Ea Z (Ec (aa (ae (aT 9 aS X S (DZ Z (DZ Z (DY (lD Z Z Y Y) ?_))))))))
   refine DY (am (hk1) Z ⟨H,Ed⟩) ?_
   refine DZ Z (DZ Z (DY (gi _ Z Z Z Y) ?_))
   refine DY (am (hk2) Z ⟨H,Ed⟩) ?_
   refine Ea Z (Ec (Ea Z (Ec (aa (aD (a9 (aI ?_)))))))
   refine fw Tryz.results128 (.tmp Z H) (.tmp Z H)
  ·by_cases h3:(aL b).length=1
   ·have hb1:=tb h3
    have hd:=bh (bf b) 0
    have hsh:=ys (aL a) b (bf a) ha Y Y
    rw [bY] at hsh
    have hr:=Nat.mod_lt a (show 0<b by omega)
    refine ae (aj (Ea Z (Ea Z (Ec (aa (ae (ar (ae (aj ?_)))))))))
    refine DZ Z (DZ Z ?_)
    refine DY (am (hcm) Z ⟨H,H,Ed⟩) ?_
    refine DY (sF (by assumption) (a7 Z Z)) (Ea Z (Ec (aa (az Z (ae (aj (DZ Z (DY (aZ Z) (DY (sF Y (j8 Z Z)) ?_)))))))))
    refine Ea Z (Ec (aa (az Z (ae (aj (DZ Z (DY (aZ Z) (DY (sT Y (cn Z Z)) (Ea Z ?_)))))))))
    refine Ec (aa (aG Z (ae (aj (DZ Z (DZ Z (DY (ei Z Z Y Y) (DY (aJ Z) ?_))))))))
    refine DY (am (hsh) Z ⟨H,(ao (by rw [show (aL b).getD (Int.toNat 0) 0=b from hb1])),Ed⟩) ?_
    refine DZ Z (DY (aq Z Z) (DY (aq Z Z) (Ea Z (Ea Z (Ec (aa (ae (aj (DZ Z ?_)))))))))
    refine DZ Z (jf Z Z Z Z (Ea Z (Ea Z (Ec (aa (aD (a9 (aI ?_))))))))
    refine fw Tryz.results128 (.tmp Z H) (.tmp Z (Av Y))
   ·have hdb:aL b ≠ []:=fun h=>hb (by rw [← bY b,h]; rfl)
    obtain ⟨k,hk⟩ : ∃ k,(aL b).length=k+2:=⟨(aL b).length - 2,by have:=List.length_pos_iff.2 hdb;omega⟩
    obtain ⟨e,he⟩ : ∃ e,(aL a).length=k+2+e:=⟨(aL a).length - (k+2),by omega⟩
    have hx:=bh (bf b) ((aL b).length - 1)
    have S0:=Cf hk
    rw [show k+1=(aL b).length - 1 by omega] at S0
    have hlz:=Am ((aL b).getD ((aL b).length - 1) 0) hx
    generalize 32 - jb ((aL b).getD ((aL b).length - 1) 0)=s at S0 hlz
    have s32:=S0.s32
    have hsv:=w5 (aL b) s (bf b) Y s32
    have hsu:=s7 (aL a) s (bf a) ha s32
    refine ae (aj (Ea Z (Ea Z (Ec (aa (ae (ar (ae (aj ?_)))))))))
    refine DZ Z (DZ Z ?_)
    refine DY (am (hcm) Z ⟨H,H,Ed⟩) ?_
    refine DY (sF (by assumption) (a7 Z Z)) (Ea Z (Ec (aa (az Z (ae (aj (DZ Z (DY (aZ Z) (DY (sF Y (j8 Z Z)) ?_)))))))))
    refine Ea Z (Ec (aa (az Z (ae (aj (DZ Z (DY (aZ Z) (DY (sF Y (cn Z Z)) (Ea Z ?_)))))))))
    refine Ec (aa (az Z (av (aB (aa (ae (aj (DZ Z (DZ Z ?_)))))))))
    refine DY (aZ Z) (DY (cA _ 1 Z Z Y Y) (DY (ax Z Z Y) (DY (aJ Z) ?_)))
    refine DY (am (hlz) Z ⟨H,Ed⟩) ?_
    refine DZ Z (DY (aZ Z) (Ea Z (Ea Z (Ec (aa (ae (cm (Γ' := [(0,_),(1,_),(4,_),(5,_),(10,_),(11,_)]) DT (SubM.refl _) ?_)))))))
    refine BZ (σ:=rz (aL a) s) 2 (Cg (aL a) s (bf a) s32) (fun p=>one (slV (some p.1.1) ((aL a).length+1) ((aL a).length+1))) (fun p => [aU (some p.1.1) 116 .one ((aL a).length+1) ((aL a).length+1) (gN p.1.2)]) aS X S ?_
    refine vx Z (fun s B=>ab Z) Z ?_
    refine vx Z (fun s B=>ab Z) Z ?_
    refine vc Z hsu (fun s=>rfl) ⟨H,H,Ed⟩ Z ?_
    refine vx Z (fun s B=>ab Z) Z ?_
    refine vx Z (fun s B=>ab Z) Z ?_
    refine vx Z (fun s B=>am hsv Z ⟨H,H,Ed⟩) Z ?_
    refine vx Z (fun s B=>ab Z) Z ?_
    refine vx Z (fun s B=>ab Z) Z ?_
    refine vx Z (fun s B=>lY Z Z Z Z (fun _=>rfl) Y Y Y Y) Z ?_
    refine vd Z X (fun s B=>ai Z) Z ?_
    refine vx Z (fun s B=>ai Z) Z ?_
    refine .nil (fun p => ?_)
    obtain ⟨⟨bu,U⟩,hu1,hu2,hu3⟩:=p
    dsimp only at hu1 hu2 hu3 ⊢
    rw [bY] at hu3
    rw [he] at hu1
    rw [bY,hk,he]
    obtain ⟨z,hz⟩ : ∃ z,z=nU (k+2+1) (b*2^s):=⟨_,rfl⟩
    have z1:=pd (k+2+1) (b*2^s)
    have z2:=pe (k+2+1) (b*2^s)
    have z3:=pf (k+2+1) (b*2^s) (Nat.lt_of_lt_of_le S0.hi (Nat.pow_le_pow_right S Y))
    rw [← hz] at z1 z2 z3 ⊢
    obtain ⟨v1,v2,v3,v4⟩:=S0.v z2 z1 z3
    refine t4 (Γ' := [(0,slT .one (k+2+e) (gN (aL a))),(4,_),(5,_),(10,_),(11,one (.int .i64 ((k+2:Nat):Int))),(12,one (slV (some bu) (k+2+e+1) (k+2+e+1))),(13,cr (z.take (k+2)))]) (.cons Z (dg he (fun _ _=>rfl)) (.cons Z H (.cons Z H (.cons Z H (.cons Z H (.cons Z H (.cons Z ?_ .nil))))))) (SubM.refl _) ?_
    ·exact dg (by rw [v2]; omega) (fun q hq=>w6 Y)
    generalize z.take (k+2)=v at *
    have hV0:0<b*2^s:=Nat.mul_pos Y (Nat.two_pow_pos s)
    have hVn:=S0.hi
    have hA:=S0.u he
    refine aa (ae (aj (DZ Z (DY (aZ Z) (DZ Z (DY (cA _ _ Z Z Y Y) (DY (bn _ 1 Z Z Y) ?_)))))))
    refine ci (e+1) (e+1) Z Z Y Y (Nat.le_refl _) Z Z Y Z Z (fun bz => ?_)
    refine Ea Z (Ec (aa (ae (ae (aj (DZ Z (DY (aZ Z) (DZ Z (DY (cA _ _ Z Z Y Y) ?_)))))))))
    refine Ea Z (Ec (aa (ar (cm (Γ' := [(4,_),(5,_),(10,_),(11,_),(12,_),(13,_),(14,_),(15,_)]) DT (SubM.refl _) ?_))))
    refine bw (σ:=List Nat × List Nat × Nat) (Γk := [(4,_),(5,_),(10,_),(11,_),(12,_),(13,_),(14,_)]) DT (fun p => [(15,one (.int .i64 ((p.2.2:Nat) - 1:Int)))]) (fun p M0=>((M0.set 0 (aU (some bz) 116 .one (e+1) (e+1) (gN p.2.1))).set 1 (aU (some bu) 116 .one (k+2+e+1) (k+2+e+1) (gN p.1)))) (fun p=>DivR (b*2^s) (a*2^s) (k+2) e p) (fun p=>p.2.2) ((U,List.replicate (e+1) 0,e+1)) (DivR.start hu2 hu1 hu3 hA) DU (.keep (bQ (fun q _=>by unfold gN;rw [cL]; rfl)) (.keep DX (.nil))) (fun p hp => ?_)
    refine bN (Γ' := [(15,_),(4,_),(5,_),(10,_),(11,_),(12,_),(13,_),(14,_)]) (M' := [_,_]) Z Z ?_
    obtain ⟨U1,Q,c⟩:=p
    dsimp only at hp ⊢
    have hu1:U1.length=k+2+e+1:=hp.lu
    have hq1:Q.length=e+1:=hp.lq
    have hcl:c≤e+1:=hp.le
    refine ae (ae (aj (DZ Z (DY (j9 Z Z) (Ec (aa ?_))))))
    cases c with
    | zero =>
     refine nY Z Y (aY (aw (aw (aE (aa (ae (aj (DZ Z ?_))))))))
     obtain ⟨f1,f2⟩:=hp.finish Y
     refine ci (k+2) (k+2) Z Z Z Z (Nat.le_refl _) Z Z Y Z Z (fun br => ?_)
     refine Ea Z (Ec (aa (ae (ae (aj (DZ Z (DZ Z (Ec (aa ?_)))))))))
     refine ar (cm (Γ' := [(4,_),(5,_),(10,_),(12,_),(14,_),(16,_),(102,_),(103,_)]) DT (SubM.refl _) ?_)
     refine bw (σ:=Nat) (Γk := [(4,_),(5,_),(10,_),(12,_),(14,_),(16,_),(102,_)]) DT (fun i => [(103,one (.int .i64 (i:Nat)))]) (fun i M0=>(M0.set 0 (aU (some br) 116 .one (k+2) (k+2) (fun q=>one (.int .u32 ((if q<i then (fE U1 s (k+2)).getD q 0 else 0:Nat):Int)))))) (fun i=>i≤k+2) (fun i=>k+2 - i) (0) (Nat.zero_le _) DU (.keep DX (.keep DX (.keep DX (.nil)))) (fun i hi => ?_)
     refine bN (Γ' := [(103,_),(4,_),(5,_),(10,_),(12,_),(14,_),(16,_),(102,_)]) (M' := [_,_,_]) Z Z (ae (aj (DY (a7 Z Z) (Ec (aa (ae ?_))))))
     refine oF Z (fun hc => ?_) (fun hc => ?_)
     ·have hik:i<k+2:=by omega
      have g0:=bh (show bI U1 from hp.limU) i
      have g1:=bh (show bI U1 from hp.limU) (i+1)
      refine av (aa (ae (ar (ae (aj (DZ Z (Ea Z (Ec (aa ?_)))))))))
      refine aT 18 aS X S (DZ Z (DZ Z (DZ Z (DZ Z (DY (bn _ 1 Z Z Y) (DY (an Z Z Y) (DY (bk 2 Z Z Y) (DY (bS Z Y) (DY (lF (s:=32) Z Z Y Y) ?_)))))))))
      refine DZ Z (DZ Z (DY (an Z Z Y) (DY (bk 2 Z Z Y) (DY (bS Z Y) (DY (nk Z Z Y Y) (DZ Z ?_))))))
      refine DY (oL Z Z (by (show _<64;omega))) ?_
      refine DY (cP Z) (Ec (DY (an Z Z Y) ?_))
      (refine aA 0 Z Z Z ?_ Z ?_;omega)
      refine Ec (aB (aa (aj (DY (bn _ 1 Z Z Y) (DZ Z (Ec ?_))))))
      refine aN (i+1) (by assumption) Y DU (.keep (Aw hik) (.keep DX (.keep DX (.nil))))
     ·have hik:i=k+2:=by omega
      subst hik
      refine aY (aw (aw (aE (aa (ae (aj (DZ Z (DZ Z (Ea Z ?_)))))))))
      refine Ea Z (Ec (aa (aD ?_)))
      have hlU:lv U1<4294967296^(k+2):=Nat.lt_trans (show lv (U1.drop 0)<_ from hp.lt) hVn
      have hrv:lv (fE U1 s (k+2))=a % b:=by rw [Ap hp.limU s32 (by dsimp only;omega) hlU,f2,Nat.mul_div_cancel _ (Nat.two_pow_pos s)]
      refine cR (t:=5) (i:=0) Z Z (cR (t:=4) (i:=0) Z Z ?_)
      refine fw Tryz.results128 (.tmp Z (VT.le_trans (dg (m:=Q.length) (ψ:=gN Q) hq1.symm (fun _ _=>rfl)) (gu hp.limQ f1))) (.tmp Z (VT.le_trans (dg (m:=(fE U1 s (k+2)).length) (ψ:=gN (fE U1 s (k+2))) (As _ _ _).symm (fun q hq=>by rw [if_pos hq])) (gu (Aq _ _ _) hrv)))
    | succ j =>
     obtain ⟨p1,p2,p3,p4⟩:=hp.pre hVn
     have en:((j+1:Nat):Int) - 1=(j:Nat):=by omega
     rw [en]
     refine nX Z Y (av (aa (ae (ar (aj (DZ Z (DZ Z (DZ Z (DZ Z ?_)))))))))
     refine DZ Z (DZ Z (DY (bn _ _ Z Z Y) (DY (bn _ 1 Z Z Y) (DY (xW Z Z Z Y Y Y) (DZ Z ?_)))))
     refine iR (Min := [aU (some bu) 116 .one (k+2+e+1) (k+2+e+1) (gN U1)]) (Kp := [aU (some bz) 116 .one (e+1) (e+1) (gN Q)]) (yt bu (k+2+e+1) j (k+2+e+1 - j) k U1 v hp.limU v1 hu1 Y v2 Y v4 (by rw [v3]; exact p4)) Z ⟨ao (by rw [show j+(k+2)+1 - j=k+3 by omega]; rfl),H,Ed⟩ (List.Perm.swap _ _ _) Z Z (fun r => ?_)
     obtain ⟨U2,o1,o2,o3⟩:=r
     dsimp only
     refine xC (List.Perm.swap _ _ _) (DY (an Z Z Y) ?_)
     (refine aA 0 Z Z Z ?_ Z ?_;omega)
     refine Ec (aB (aa (aj (DZ Z (DY (e9 Z Z (aR Y Y)) (Ea Z (Ec ?_)))))))
     refine aN ((U2,Q.set j (lv (win U1 j (k+3)) / lv v),j)) (hp.step hV0 hVn o1 o2 (by rw [o3,v3]) (by rw [v3])) (by (simp only []; omega)) DU (.keep (gE Y Z) (.keep DX (.nil)))
end Tor
end
section
namespace Tor
open Go Go.RowKit Go.Proofs
theorem Ax {A B:Nat} (hB:0<B) (h:A % B=0):(-(A:Int)) / B = -((A / B:Nat):Int)∧(-(A:Int)) % B=0:=by
 have hm:=Nat.div_add_mod A B
 refine (Int.ediv_emod_unique Y).2 ⟨?_,by omega,by omega⟩
 have e:((B*(A / B)+A % B:Nat):Int)=(A:Int):=by rw [hm]
 rw [h] at e
 rw [Int.natCast_add,Int.natCast_mul] at e
 rw [Int.mul_neg]; omega
theorem Ay {A B:Nat} (hB:0<B) (h:A % B≠0):(-(A:Int)) / B = -((A / B+1:Nat):Int)∧(-(A:Int)) % B=((B - A % B:Nat):Int):=by
 have hm:=Nat.div_add_mod A B
 have hl:=Nat.mod_lt A hB
 refine (Int.ediv_emod_unique Y).2 ⟨?_,by omega,by omega⟩
 have e:((B*(A / B)+A % B:Nat):Int)=(A:Int):=by rw [hm]
 rw [Int.natCast_add,Int.natCast_mul] at e
 rw [Int.mul_neg,Int.natCast_add,Int.mul_add]
 omega
theorem vO {a b:Int} (hb:b≠0):(0≤a→a / b=(if b<0 then -((a.natAbs / b.natAbs:Nat):Int) else ((a.natAbs / b.natAbs:Nat):Int))∧a % b=((a.natAbs % b.natAbs:Nat):Int)) ∧
  (a<0→a.natAbs % b.natAbs=0→a / b=(if b<0 then ((a.natAbs / b.natAbs:Nat):Int) else -((a.natAbs / b.natAbs:Nat):Int))∧a % b=0) ∧
  (a<0→a.natAbs % b.natAbs≠0→a / b=(if b<0 then ((a.natAbs / b.natAbs+1:Nat):Int) else -((a.natAbs / b.natAbs+1:Nat):Int))∧a % b=((b.natAbs - a.natAbs % b.natAbs:Nat):Int)):=by
 have hB:0<b.natAbs:=by omega
 generalize hA:a.natAbs=A
 generalize hBb:b.natAbs=B at *
 have key:(0≤a→a / (B:Int)=((A / B:Nat):Int)∧a % (B:Int)=((A % B:Nat):Int)) ∧
   (a<0→A % B=0→a / (B:Int) = -((A / B:Nat):Int)∧a % (B:Int)=0) ∧
   (a<0→A % B≠0→a / (B:Int) = -((A / B+1:Nat):Int)∧a % (B:Int)=((B - A % B:Nat):Int)):=by
  refine ⟨fun h => ?_,fun h h0 => ?_,fun h h0 => ?_⟩
  ·have:a=(A:Int):=by omega
   rw [this]; exact ⟨(Int.natCast_ediv A B).symm,(Int.natCast_emod A B).symm⟩
  ·have:a = -(A:Int):=by omega
   rw [this]; exact Ax hB h0
  ·have:a = -(A:Int):=by omega
   rw [this]; exact Ay hB h0
 by_cases hn:b<0
 ·have e:b = -(B:Int):=by omega
  simp only [if_pos hn]
  rw [e,Int.ediv_neg,Int.emod_neg]
  refine ⟨fun h => ?_,fun h h0 => ?_,fun h h0 => ?_⟩
  ·obtain ⟨k1,k2⟩:=key.1 h;exact ⟨by rw [k1],k2⟩
  ·obtain ⟨k1,k2⟩:=key.2.1 h h0;exact ⟨by rw [k1,Int.neg_neg],k2⟩
  ·obtain ⟨k1,k2⟩:=key.2.2 h h0;exact ⟨by rw [k1,Int.neg_neg],k2⟩
 ·have e:b=(B:Int):=by omega
  simp only [if_neg hn]
  rw [e]; exact key
theorem gF {v:Nat} (h:(aL v).length=0):v=0:=by
 rw [← bY v,List.length_eq_zero_iff.1 h]; rfl
theorem td:aL 1 = [1]:=by rw [iw S]; rfl
theorem yw:VT.le (slT .one 1 fun _=>one (.int .u32 1)) (cr (aL 1)):=by
 rw [td]
 exact dg Z (fun q hq=>by
  have hq:q=0:=by omega
  subst hq;rfl)
theorem vP (p:Prop) [Decidable p] (x:Int):(if (!(true == decide p))=true then -x else x)=(if p then x else -x):=by by_cases h:p <;> simp [h]
theorem Az (p:Prop) [Decidable p] (x:Int):(if (!(false == decide p))=true then -x else x)=(if p then -x else x):=by by_cases h:p <;> simp [h]
attribute [local irreducible] J PJ aP one slT cv bA bM exT cq eP aW aU slV VT.le Ret bO
set_option maxRecDepth 20000 in
theorem ib (a b:Int) (hb:b≠0) (ha:bJ a) (hbs:bJ b):Ok Tryz.prog 98 [aO a,aO b] (bM [aO (a / b),aO (a % b),one (.int .i64 0)]):=by
 obtain ⟨g1,g2,g3⟩:=vO (a:=a) hb
 have hb0:(aL b.natAbs).length≠0:=fun h=>hb (by have:=gF h;omega)
 have hB:b.natAbs≠0:=by omega
 have hdiv:=qw a.natAbs b.natAbs hB ha
 have ha':(aL a.natAbs).length≤1099511627776:=ha
 have hb':(aL b.natAbs).length≤1099511627776:=hbs
 have hlt:=Nat.mod_lt a.natAbs (Nat.pos_of_ne_zero hB)
 have hr0:(aL (a.natAbs % b.natAbs)).length=0↔a.natAbs % b.natAbs=0:=⟨gF,fun h=>by rw [h]; rfl⟩
 have hql:(aL (a.natAbs / b.natAbs)).length≤1099511627776:=Nat.le_trans (bZ (Nat.div_le_self _ _)) ha'
 have hmin:=oR b.natAbs (a.natAbs % b.natAbs) (Nat.le_of_lt hlt) hb'
 have hplus:=vD (a.natAbs / b.natAbs) 1 hql (by rw [td]; decide)
 have hv1:=fun n=>eo n (a.natAbs / b.natAbs)
 have hv2:=fun n=>eo n (a.natAbs % b.natAbs)
 have hv3:=fun n=>eo n (a.natAbs / b.natAbs+1)
 have hv4:=fun n=>eo n (b.natAbs - a.natAbs % b.natAbs)
 unfold aO at *
 refine Ok.enter Tryz.func98 Z Tryz.ntmps98 Z (fun w O => ?_)
 by_cases hn:a<0
 ·by_cases hr:a.natAbs % b.natAbs=0
  ·have hr1:=hr0.2 hr
   refine ae (aj ?_)
   refine aM Z Z (ltN Z) (fun b2 => ?_)
   refine aM Z Z (ltN Z) (fun b3 => ?_)
   refine aX (T:=43) Z (ltN Z) (fun b4 => ?_)
   refine aX (T:=43) Z (ltN Z) (fun b5 => ?_)
   refine Ea Z (Ec (aa (ae (aT 7 aS X S (DY (ah Z) (DY (ak 3 Z Z Z) ?_))))))
   refine DY (am (dE _) Z ⟨(cM _),Ed⟩) ?_
   refine DY (ah Z) (DY (ak 2 Z Z Z) ?_)
   refine DY (am (dE _) Z ⟨(cM _),Ed⟩) ?_
   refine Ea Z (Ec (Ea Z (Ec (aa (ae (ae (aj (DZ Z (DY (aZ Z) ?_)))))))))
   refine DY (sF Y (cn Z Z)) (Ec (aa (az Z (av (aa (ae (aj (DZ Z (DZ Z ?_)))))))))
   refine DY (am (hdiv) Z ⟨H,H,Ed⟩) ?_
   refine DZ Z (DY (aq Z Z) (DY (aq Z Z) (Ea Z (Ea Z (Ec (aa (ae (aj (DZ Z ?_)))))))))
   refine DY (am (dE _) Z ⟨H,Ed⟩) ?_
   refine Ea Z (Ec (aa (ae (ae (aj (DY (ah Z) (DY (sT (by assumption) (ak 3 Z Z Z)) (DZ Z (Eb (ab Z) ?_)))))))))
   refine Eb (aZ Z) (Eb (sF Y (ej Z Z)) (DY (aV Z Z) (Ec (aa (az Z (av (aa (ae (aj ?_)))))))))
   refine DY (ah Z) (DY (sT (by assumption) (ak 3 Z Z Z)) (DY (ah Z) (DY (ak 2 Z Z Z) (DY (ka Z Z) (DZ Z ?_)))))
   refine DY (am (hv1 _) Z ⟨H,H,Ed⟩) ?_
   refine DZ Z ?_
   refine DY (am (hv2 _) Z ⟨H,(cM _),Ed⟩) ?_
   refine aC 1 Z Z Z Z Z (leN Z) Z (aC 0 Z Z Z Z Z (leN Z) Z (Ea Z (Ec (aa (aD ?_)))))
   refine jd Tryz.results98 (.cellB 1 Z Z Z (cj (by rw [(g2 hn hr).1]; exact vP _ _))) (.cellB 0 Z Z Z (cj (by rw [(g2 hn hr).2,hr]; rfl))) (.tmp Z H)
  ·have hr1:(aL (a.natAbs % b.natAbs)).length≠0:=fun h=>hr (hr0.1 h)
   refine ae (aj ?_)
   refine aM Z Z (ltN Z) (fun b2 => ?_)
   refine aM Z Z (ltN Z) (fun b3 => ?_)
   refine aX (T:=43) Z (ltN Z) (fun b4 => ?_)
   refine aX (T:=43) Z (ltN Z) (fun b5 => ?_)
   refine Ea Z (Ec (aa (ae (aT 7 aS X S (DY (ah Z) (DY (ak 3 Z Z Z) ?_))))))
   refine DY (am (dE _) Z ⟨(cM _),Ed⟩) ?_
   refine DY (ah Z) (DY (ak 2 Z Z Z) ?_)
   refine DY (am (dE _) Z ⟨(cM _),Ed⟩) ?_
   refine Ea Z (Ec (Ea Z (Ec (aa (ae (ae (aj (DZ Z (DY (aZ Z) ?_)))))))))
   refine DY (sF Y (cn Z Z)) (Ec (aa (az Z (av (aa (ae (aj (DZ Z (DZ Z ?_)))))))))
   refine DY (am (hdiv) Z ⟨H,H,Ed⟩) ?_
   refine DZ Z (DY (aq Z Z) (DY (aq Z Z) (Ea Z (Ea Z (Ec (aa (ae (aj (DZ Z ?_)))))))))
   refine DY (am (dE _) Z ⟨H,Ed⟩) ?_
   refine Ea Z (Ec (aa (ae (ae (aj (DY (ah Z) (DY (sT (by assumption) (ak 3 Z Z Z)) (DZ Z (Eb (ab Z) ?_)))))))))
   refine Eb (aZ Z) (Eb (sT Y (ej Z Z)) (DY (aV Z Z) (Ec (aa (aG Z (aj (DZ Z ?_)))))))
   refine DY (am (dE _) Z ⟨H,Ed⟩) ?_
   refine jf Z Z Z Z ?_
   refine DY (am (hplus) Z ⟨H,(yw),Ed⟩) ?_
   refine DZ Z (DZ Z ?_)
   refine DY (am (hmin) Z ⟨H,H,Ed⟩) ?_
   refine Ea Z (Ea Z (Ec (aa (ae (aj (DY (ah Z) (DY (sT (by assumption) (ak 3 Z Z Z)) (DY (ah Z) (DY (ak 2 Z Z Z) ?_)))))))))
   refine DY (ka Z Z) (DZ Z ?_)
   refine DY (am (hv3 _) Z ⟨H,H,Ed⟩) ?_
   refine DZ Z ?_
   refine DY (am (hv4 _) Z ⟨H,H,Ed⟩) ?_
   refine aC 1 Z Z Z Z Z (leN Z) Z (aC 0 Z Z Z Z Z (leN Z) Z (Ea Z (Ec (aa (aD ?_)))))
   refine jd Tryz.results98 (.cellB 1 Z Z Z (cj (by rw [(g3 hn hr).1]; exact vP _ _))) (.cellB 0 Z Z Z (cj (by rw [(g3 hn hr).2]; rfl))) (.tmp Z H)
 ·refine ae (aj ?_)
  refine aM Z Z (ltN Z) (fun b2 => ?_)
  refine aM Z Z (ltN Z) (fun b3 => ?_)
  refine aX (T:=43) Z (ltN Z) (fun b4 => ?_)
  refine aX (T:=43) Z (ltN Z) (fun b5 => ?_)
  refine Ea Z (Ec (aa (ae (aT 7 aS X S (DY (ah Z) (DY (ak 3 Z Z Z) ?_))))))
  refine DY (am (dE _) Z ⟨(cM _),Ed⟩) ?_
  refine DY (ah Z) (DY (ak 2 Z Z Z) ?_)
  refine DY (am (dE _) Z ⟨(cM _),Ed⟩) ?_
  refine Ea Z (Ec (Ea Z (Ec (aa (ae (ae (aj (DZ Z (DY (aZ Z) ?_)))))))))
  refine DY (sF Y (cn Z Z)) (Ec (aa (az Z (av (aa (ae (aj (DZ Z (DZ Z ?_)))))))))
  refine DY (am (hdiv) Z ⟨H,H,Ed⟩) ?_
  refine DZ Z (DY (aq Z Z) (DY (aq Z Z) (Ea Z (Ea Z (Ec (aa (ae (aj (DZ Z ?_)))))))))
  refine DY (am (dE _) Z ⟨H,Ed⟩) ?_
  refine Ea Z (Ec (aa (ae (ae (aj (DY (ah Z) (DY (sF (by assumption) (ak 3 Z Z Z)) (DZ Z (sg0 Z Z Z Z ?_)))))))))
  refine sg0 Z Z Z Z (sg0 Z Z Z Z (DY (a6 Z Z) (Ec (aa (az Z (av (aa (ae (aj ?_)))))))))
  refine DY (ah Z) (DY (sF (by assumption) (ak 3 Z Z Z)) (DY (ah Z) (DY (ak 2 Z Z Z) (DY (ka Z Z) (DZ Z ?_)))))
  refine DY (am (hv1 _) Z ⟨H,H,Ed⟩) ?_
  refine DZ Z ?_
  refine DY (am (hv2 _) Z ⟨H,(cM _),Ed⟩) ?_
  refine aC 1 Z Z Z Z Z (leN Z) Z (aC 0 Z Z Z Z Z (leN Z) Z (Ea Z (Ec (aa (aD ?_)))))
  refine jd Tryz.results98 (.cellB 1 Z Z Z (cj (by rw [(g1 Y).1]; exact Az _ _))) (.cellB 0 Z Z Z (cj (by rw [(g1 Y).2]; rfl))) (.tmp Z H)
end Tor
end
section
namespace Tor
open Go Go.RowKit Go.Proofs
attribute [local irreducible] J PJ aP one slT cv bA bM exT cq eP aW aU slV VT.le Ret bO
theorem Ch (a b:Int) (ha:bJ a) (hb:bJ b):Ok Tryz.prog 120 [aO a,aO b] (aO (Nat.gcd a.natAbs b.natAbs)):=by
 have ha':(aL a.natAbs).length≤1099511627776:=ha
 have hb':(aL b.natAbs).length≤1099511627776:=hb
 unfold aO
 refine Ok.enter Tryz.func120 Z Tryz.ntmps120 Z (fun w O => ?_)
 refine ae (aj ?_)
 refine aM Z Z (ltN Z) (fun b2 => ?_)
 refine aM Z Z (ltN Z) (fun b3 => ?_)
 refine aX (T:=43) Z (ltN Z) (fun b4 => ?_)
 refine Ec (aa (ae (aT 7 aS X S (DY (ah Z) (DY (ak 2 Z Z Z) ?_)))))
 refine DY (am (dE _) Z ⟨(cM _),Ed⟩) ?_
 refine DY (ah Z) (DY (ak 1 Z Z Z) ?_)
 refine DY (am (dE _) Z ⟨(cM _),Ed⟩) ?_
 refine Ea Z (Ec (Ea Z (Ec (aa (ae (ar (cm (Γ' := [(4,_),(5,_),(6,_)]) DT (SubM.refl _) ?_)))))))
 refine bw (σ:=Nat × Nat) (Γk := [(4,_)]) DT (fun p => [(5,cr (aL p.1)),(6,cr (aL p.2))]) (fun p M0=>M0) (fun p=>Nat.gcd p.1 p.2=Nat.gcd a.natAbs b.natAbs∧(aL p.1).length≤1099511627776∧(aL p.2).length≤1099511627776) (fun p=>p.2) ((a.natAbs,b.natAbs)) (⟨rfl,ha',hb'⟩) DU (.keep DX (.keep DX (.keep DX (.nil)))) (fun p hp => ?_)
 refine bN (Γ' := [(5,_),(6,_),(4,_)]) (M' := [_,_,_]) Z Z ?_
 obtain ⟨x,y⟩:=p
 dsimp only at hp ⊢
 obtain ⟨p1,p2,p3⟩:=hp
 by_cases hy:y=0
 ·subst hy
  have hl:(aL 0).length=0:=rfl
  have hcl:=kp (aL x) p2
  have hv:=eo false x
  rw [Nat.gcd_zero_right] at p1
  rw [← p1]
  unfold aO at hv
  refine ae (ae (aj (DZ Z (DY (aZ Z) (DY (sF Y (ej Z Z)) (DZ Z (sg0 Z Z Z Z (sg0 Z Z Z Z (sg0 Z Z Z Z ?_)))))))))
  refine sg0 Z Z Z Z (sg0 Z Z Z Z (sg0 Z Z Z Z (DY (a6 Z Z) (Ec (aa (az Z (aY (aw (aw ?_)))))))))
  refine aE (aa (ae (ae (aj (DZ Z (DY (aZ Z) (DY (sT Y (cn Z Z)) (Ec (aa ?_)))))))))
  refine aG Z (ae (aj (DZ Z ?_)))
  refine DY (am (hcl) Z ⟨H,Ed⟩) ?_
  refine DY (am (hv) Z ⟨H,(cM _),Ed⟩) ?_
  refine aC 0 Z Z Z Z Z (leN Z) Z (Ec (aa (aD (aI ?_))))
  refine aK Tryz.results120 (.cellB 0 Z Z Z H)
 ·have hl:(aL y).length≠0:=fun h=>hy (gF h)
  have hd:=qw x y hy p2
  have hm:=Nat.mod_lt x (Nat.pos_of_ne_zero hy)
  have hg:Nat.gcd y (x % y)=Nat.gcd a.natAbs b.natAbs:=by rw [← p1,Nat.gcd_comm y, ← Nat.gcd_rec,Nat.gcd_comm]
  have hml:=bZ (Nat.le_of_lt hm)
  refine ae (ae (aj (DZ Z (DY (aZ Z) (DY (sT Y (ej Z Z)) (DZ Z (Eb (ab Z) (Eb (aZ Z) (Eb (ab Z) ?_)))))))))
  refine Eb (aZ Z) (Eb (om Z Z) (Eb (ej Z Z) (DY (aV Z Z) (Ec (aa ?_)))))
  refine oF Z (fun hc => ?_) (fun hc => ?_)
  ·refine av (aa (ar (ae (aj (DZ Z (DZ Z ?_))))))
   refine DY (am (hd) Z ⟨H,H,Ed⟩) ?_
   refine DZ Z (DY (aq Z Z) (DY (aq Z Z) (Ea Z (Ea Z (Ec (aa (aj (DZ Z (DZ Z ?_)))))))))
   refine DY (am (dE _) Z ⟨H,Ed⟩) ?_
   refine Ea Z (Ea Z (Ec (aB ?_)))
   refine aN ((y,x % y)) (⟨hg,p3,by dsimp only;omega⟩) (by assumption) DU (.keep DX (.keep DX (.keep DX (.nil))))
  ·have hx2:(aL x).length≤2:=by omega
   have hy2:(aL y).length≤2:=by omega
   have hw1:=n9 (aL x) (bf x) hx2
   have hw2:=n9 (aL y) (bf y) hy2
   rw [bY] at hw1 hw2
   have x64:x<18446744073709551616:=Nat.lt_of_lt_of_le (da x) (Nat.pow_le_pow_right (n:=4294967296) S hx2)
   have y64:y<18446744073709551616:=Nat.lt_of_lt_of_le (da y) (Nat.pow_le_pow_right (n:=4294967296) S hy2)
   refine aY (aw (aw (aE (aa (ae (ae (aj (DZ Z (DY (aZ Z) ?_)))))))))
   refine DY (sF Y (cn Z Z)) (Ec (aa (az Z (av (aa (ae (aj (DZ Z ?_))))))))
   refine DY (am (hw1) Z ⟨H,Ed⟩) ?_
   refine DZ Z ?_
   refine DY (am (hw2) Z ⟨H,Ed⟩) ?_
   refine Ea Z (Ea Z (Ec (aa (ae (ar (cm (Γ' := [(4,_),(9,_),(10,_)]) DT (SubM.refl _) ?_))))))
   refine bw (σ:=Nat × Nat) (Γk := [(4,_)]) DT (fun q => [(9,one (.int .u64 (q.1:Nat))),(10,one (.int .u64 (q.2:Nat)))]) (fun q M0=>M0) (fun q=>Nat.gcd q.1 q.2=Nat.gcd a.natAbs b.natAbs∧q.1<18446744073709551616∧q.2<18446744073709551616) (fun q=>q.2) ((x,y)) (⟨p1,x64,y64⟩) DU (.keep DX (.keep DX (.keep DX (.nil)))) (fun q hq => ?_)
   refine bN (Γ' := [(9,_),(10,_),(4,_)]) (M' := [_,_,_]) Z Z ?_
   obtain ⟨u,v⟩:=q
   dsimp only at hq ⊢
   obtain ⟨q1,q2,q3⟩:=hq
   by_cases hv0:v=0
   ·subst hv0
    rw [Nat.gcd_zero_right] at q1
    have hlu:=kj u q2
    have hv:=eo false u
    rw [← q1]
    unfold aO at hv
    refine ae (ae (aj (DZ Z (DY (sF Y (ej Z Z)) (Ec (aa (az Z (aY (aw ?_)))))))))
    refine aw (aE (aa (ae (aj (DZ Z ?_)))))
    refine DY (am (hlu) Z ⟨H,Ed⟩) ?_
    refine DY (am (hv) Z ⟨H,H,Ed⟩) ?_
    refine aC 0 Z Z Z Z Z (leN Z) Z (Ec (aa (aD ?_)))
    refine aK Tryz.results120 (.cellB 0 Z Z Z H)
   ·have hvm:=Nat.mod_lt u (Nat.pos_of_ne_zero hv0)
    have hvg:Nat.gcd v (u % v)=Nat.gcd a.natAbs b.natAbs:=by rw [← q1,Nat.gcd_comm v, ← Nat.gcd_rec,Nat.gcd_comm]
    refine ae (ae (aj (DZ Z (DY (sT Y (ej Z Z)) (Ec (aa (aG Z (av (aa ?_)))))))))
    refine ar (aT 5 aS X S (DZ Z (DZ Z (DZ Z (DY (gi _ Z Z Z Y) (Ea Z (Ec (Ea Z (Ec ?_)))))))))
    refine aB ?_
    refine aN ((v,u % v)) (⟨hvg,q3,by dsimp only;omega⟩) (by assumption) DU (.keep DX (.keep DX (.keep DX (.nil))))
end Tor
end
section
namespace Tor
open Go Go.RowKit Go.Proofs
def fO (n d:Int):VT:=bA 4 [(0, .agg 2,aO n),(2, .agg 2,aO d)]
def bx (q:Rat):VT:=fO q.num q.den
theorem jn {n n' d d':Int} (h:n=n') (h':d=d'):VT.le (bA 4 [(0, .agg 2,aO n),(2, .agg 2,aO d)]) (fO n' d'):=h▸h'▸VT.le_refl _
instance {n d:Int} : Flat (fO n d) (.agg 4):=by unfold fO;infer_instance
instance {q:Rat} : Flat (bx q) (.agg 4):=by unfold bx;infer_instance
theorem vQ {n d:Int} (h:0<d):n / ((Nat.gcd n.natAbs d.natAbs:Nat):Int)=(Rat.divInt n d).num∧d / ((Nat.gcd n.natAbs d.natAbs:Nat):Int)=((Rat.divInt n d).den:Int):=by
 have e:Int.gcd d n=Nat.gcd n.natAbs d.natAbs:=Nat.gcd_comm _ _
 rw [Rat.num_divInt,Rat.den_divInt,if_neg Y,e,Int.sign_eq_one_of_pos h,Int.one_mul]
 refine ⟨rfl,?_⟩
 rw [Int.natCast_ediv,Int.natAbs_of_nonneg (Int.le_of_lt h)]
theorem vR {n d:Int} (h:d<0):n / -((Nat.gcd n.natAbs d.natAbs:Nat):Int)=(Rat.divInt n d).num∧d / -((Nat.gcd n.natAbs d.natAbs:Nat):Int)=((Rat.divInt n d).den:Int):=by
 have e:Int.gcd d n=Nat.gcd n.natAbs d.natAbs:=Nat.gcd_comm _ _
 have h1:((Nat.gcd n.natAbs d.natAbs:Nat):Int)∣n:=Int.gcd_dvd_left ..
 have h2:((Nat.gcd n.natAbs d.natAbs:Nat):Int)∣d:=Int.gcd_dvd_right ..
 rw [Rat.num_divInt,Rat.den_divInt,if_neg Y,e,Int.sign_eq_neg_one_of_neg h,Int.ediv_neg,Int.ediv_neg]
 refine ⟨?_,?_⟩
 ·rw [Int.neg_mul,Int.one_mul,Int.neg_ediv_of_dvd h1]
 ·rw [Int.natCast_ediv, ← Int.neg_ediv_of_dvd h2]; congr 1;omega
theorem w7 {n d:Int} (h:d≠0) (hs:bJ d):bJ ((Nat.gcd n.natAbs d.natAbs:Nat):Int):=by
 have h1:Nat.gcd n.natAbs d.natAbs≤d.natAbs:=Nat.le_of_dvd Y (Nat.gcd_dvd_right _ _)
 unfold bJ at *
 rw [Int.natAbs_natCast]
 exact Nat.le_trans (bZ h1) hs
theorem yx {n d:Int} (h:d≠0):((Nat.gcd n.natAbs d.natAbs:Nat):Int)≠0:=by
 have:=Nat.gcd_pos_of_pos_right n.natAbs (show 0<d.natAbs by omega)
 omega
attribute [local irreducible] J PJ aP one slT cv bA bM exT cq eP aW aU slV VT.le Ret bO
theorem w8 (n d:Int) (hd:d≠0) (hn:bJ n) (hds:bJ d):Ok Tryz.prog 84 [fO n d] (bx (Rat.divInt n d)):=by
 have hg:=Ch n d hn hds
 have hgs:=w7 (n:=n) hd hds
 have hg0:=yx (n:=n) hd
 have hsi:=iA d
 unfold bx fO
 refine Ok.enter Tryz.func84 Z Tryz.ntmps84 Z (fun w O => ?_)
 by_cases h:d<0
 ·obtain ⟨l1,l2⟩:=vR (n:=n) h
  have hs:dQ d = -1:=by unfold dQ;rw [if_neg hd,if_pos h]
  rw [hs] at hsi
  refine ae (aj ?_)
  refine aM Z Z (ltN Z) (fun b1 => ?_)
  refine aF (T:=45) Z Z Z (fun b2 => ?_)
  refine Ec (aa (ae (ae (aj (DY (ah Z) (DY (ak 1 Z Z Z) ?_))))))
  refine DY (am (hsi) Z ⟨H,Ed⟩) ?_
  refine DY (sF Y (cn Z Z)) (Ec (aa (az Z (av (aa (ae (aj (DY (ah Z) (DY (ak 1 Z Z Z) ?_)))))))))
  refine DY (ah Z) (DY (ak 1 Z Z Z) ?_)
  refine DY (am (hg) Z ⟨H,H,Ed⟩) ?_
  refine aX (T:=43) Z (ltN Z) (fun b3 => ?_)
  refine aC 0 Z Z Z Z Z (leN Z) Z (Ec (aa (ae (ae (aj (DY (ah Z) (DY (ak 2 Z Z Z) ?_)))))))
  refine DY (am (hsi) Z ⟨H,Ed⟩) ?_
  refine DY (sT Y (a7 Z Z)) (Ec (aa (aG Z (aj (DY (ak 0 Z Z Z) ?_)))))
  refine DY (am (vG _ (by assumption)) Z ⟨H,Ed⟩) ?_
  refine aC 0 Z Z Z Z Z (leN Z) Z (Ec (aa (ae (aj (DY (ah Z) (DY (ak 2 Z Z Z) (DY (ak 0 Z Z Z) ?_)))))))
  refine DY (am (ib _ _ Y (by assumption) (kM ‹_›)) Z ⟨H,H,Ed⟩) ?_
  refine DZ Z (DY (aq Z Z) (DY (aq Z Z) (DY (aq Z Z) ?_)))
  refine aX (T:=43) Z (ltN Z) (fun b4 => ?_)
  refine aX (T:=43) Z (ltN Z) (fun b5 => ?_)
  refine aC 1 Z Z Z Z Z (leN Z) Z (aC 0 Z Z Z Z Z (leN Z) Z (Ea Z (Ec (aa (ae (aj (DY (ah Z) (DY (ak 4 Z Z Z) (DY (ak 2 Z Z Z) ?_)))))))))
  refine DY (am (ib _ _ Y (by assumption) (kM ‹_›)) Z ⟨H,H,Ed⟩) ?_
  refine DZ Z (DY (aq Z Z) (DY (aq Z Z) (DY (aq Z Z) ?_)))
  refine aX (T:=43) Z (ltN Z) (fun b7 => ?_)
  refine aX (T:=43) Z (ltN Z) (fun b8 => ?_)
  refine aC 1 Z Z Z Z Z (leN Z) Z (aC 0 Z Z Z Z Z (leN Z) Z (Ea Z (Ec (aa (ae (aj (DY (ak 3 Z Z Z) (DY (ak 1 Z Z Z) (stB Z Z Z ?_)))))))))
  refine BuildK.cons Z Z Z (BuildK.cons Z Z Z (BuildK.nil (aH 5 Z Z Z Z (Ec (aa (aD ?_))))))
  refine aK Tryz.results84 (.cellW 5 Z Z (jn l1 l2))
 ·obtain ⟨l1,l2⟩:=vQ (n:=n) (show 0<d by omega)
  have hs:dQ d=1:=by unfold dQ;rw [if_neg hd,if_neg h]
  rw [hs] at hsi
  refine ae (aj ?_)
  refine aM Z Z (ltN Z) (fun b1 => ?_)
  refine aF (T:=45) Z Z Z (fun b2 => ?_)
  refine Ec (aa (ae (ae (aj (DY (ah Z) (DY (ak 1 Z Z Z) ?_))))))
  refine DY (am (hsi) Z ⟨H,Ed⟩) ?_
  refine DY (sF Y (cn Z Z)) (Ec (aa (az Z (av (aa (ae (aj (DY (ah Z) (DY (ak 1 Z Z Z) ?_)))))))))
  refine DY (ah Z) (DY (ak 1 Z Z Z) ?_)
  refine DY (am (hg) Z ⟨H,H,Ed⟩) ?_
  refine aX (T:=43) Z (ltN Z) (fun b3 => ?_)
  refine aC 0 Z Z Z Z Z (leN Z) Z (Ec (aa (ae (ae (aj (DY (ah Z) (DY (ak 2 Z Z Z) ?_)))))))
  refine DY (am (hsi) Z ⟨H,Ed⟩) ?_
  refine DY (sF Y (a7 Z Z)) (Ec (aa (az Z (av (aa (ae (aj (DY (ah Z) (DY (ak 2 Z Z Z) ?_)))))))))
  refine DY (ak 0 Z Z Z) ?_
  refine DY (am (ib _ _ (by assumption) (by assumption) (by assumption)) Z ⟨H,H,Ed⟩) ?_
  refine DZ Z (DY (aq Z Z) (DY (aq Z Z) (DY (aq Z Z) ?_)))
  refine aX (T:=43) Z (ltN Z) (fun b4 => ?_)
  refine aX (T:=43) Z (ltN Z) (fun b5 => ?_)
  refine aC 1 Z Z Z Z Z (leN Z) Z (aC 0 Z Z Z Z Z (leN Z) Z (Ea Z (Ec (aa (ae (aj (DY (ah Z) (DY (ak 4 Z Z Z) (DY (ak 2 Z Z Z) ?_)))))))))
  refine DY (am (ib _ _ (by assumption) (by assumption) (by assumption)) Z ⟨H,H,Ed⟩) ?_
  refine DZ Z (DY (aq Z Z) (DY (aq Z Z) (DY (aq Z Z) ?_)))
  refine aX (T:=43) Z (ltN Z) (fun b7 => ?_)
  refine aX (T:=43) Z (ltN Z) (fun b8 => ?_)
  refine aC 1 Z Z Z Z Z (leN Z) Z (aC 0 Z Z Z Z Z (leN Z) Z (Ea Z (Ec (aa (ae (aj (DY (ak 3 Z Z Z) (DY (ak 1 Z Z Z) (stB Z Z Z ?_)))))))))
  refine BuildK.cons Z Z Z (BuildK.cons Z Z Z (BuildK.nil (aH 5 Z Z Z Z (Ec (aa (aD ?_))))))
  refine aK Tryz.results84 (.cellW 5 Z Z (jn l1 l2))
theorem yy (n d:Int) (hd:d≠0) (hn:bJ n) (hds:bJ d):Ok Tryz.prog 46 [aO n,aO d] (bM [bx (Rat.divInt n d),one (.int .i64 0)]):=by
 have hlow:=w8 n d hd hn hds
 have hs:dQ d≠0:=by unfold dQ;rw [if_neg hd]; split <;> decide
 unfold bx fO at *
 refine Ok.enter Tryz.func46 Z Tryz.ntmps46 Z (fun w O => ?_)
 refine ae (aj ?_)
 refine aM Z Z (ltN Z) (fun b2 => ?_)
 refine aM Z Z (ltN Z) (fun b3 => ?_)
 refine aF (T:=45) Z Z Z (fun b4 => ?_)
 refine Ea Z (Ec (aa (ae (ae (aj (DY (ay 1 Z Z) ?_))))))
 refine DY (am (iA _) Z ⟨H,Ed⟩) ?_
 refine DY (sF (by assumption) (cn Z Z)) (Ec (aa (az Z (av (aa (ae (aj (DY (ay 2 Z Z) (DY (ay 1 Z Z) ?_)))))))))
 refine stB Z Z Z (BuildK.cons Z Z Z (BuildK.cons Z Z Z (BuildK.nil ?_)))
 refine DY (am (hlow) Z ⟨H,Ed⟩) ?_
 refine aH 0 Z Z Z Z (Ea Z (Ec (aa (aD ?_))))
 refine fw Tryz.results46 (.cellW 0 Z Z H) (.tmp Z H)
end Tor
end
section
namespace Tor
open Go Go.RowKit Go.Proofs
section
variable {P:Program} {E:Env} {Γ:Ctx} {M:Mem} {d:Option Tmp} {ty:TypeId} {pos:String} {af:Array Edge} {gd:Option (Nat × Bool)}
theorem Ci {T T':TypeId} {x y:Operand} {a b:Nat} (hx:aQ Γ x=some (one (.int .u32 (a:Int)))) (hy:aQ Γ y=some (one (.int .u32 (b:Int)))) (h:a*b<4294967296) :
  aP P E Γ M ⟨d, .binOp .mul T x y T',ty,pos,af,gd⟩ (one (.int .u32 ((a*b:Nat):Int))) :=
 nG hx hy (by
  rw [ov, ← Int.natCast_mul]
  generalize a*b=z at *
  omega)
theorem w9 {L:Lay} {k m j:Nat} {c c':Array Value} {x:Value} (h:bT (.agg m) c k=some (.agg c')) (hx:bT L c' j=some x):bT L c (k+j)=some x:=by
 simp only [bT] at h
 split at h
 ·rename_i hk
  cases h
  cases L with
  | one =>
   simp only [bT] at hx ⊢
   rw [cQ] at hx
   split at hx
   ·exact hx
   ·cases hx
  | agg n =>
   simp only [bT] at hx ⊢
   have hs:(c.extract k (k+m)).size=m:=by simp;omega
   rw [hs] at hx
   split at hx
   ·rename_i hj
    rw [if_pos Y]
    rw [← hx]
    congr 2
    apply Array.ext_getElem?
    intro i
    rw [cQ,cQ,cQ]
    by_cases hi:i<n
    ·rw [if_pos hi,if_pos hi,if_pos Y,Nat.add_assoc]
    ·rw [if_neg hi,if_neg hi]
   ·cases hx
 ·cases h
theorem bt {T T':TypeId} {L:Lay} [LayOf P T L] {x:Operand} {b o m m':Nat} {cs cs':cD} {φ:VT} (i k j:Nat) (hx:aQ Γ x=some (one (.pointer (some ⟨b,o,none⟩)))) (hM:M[i]? = some (aW b T' m cs))
  (hl:gy cs k=some (.agg m',bA m' cs')) (ho:o=k+j) (hl2:gy cs' j=some (L, φ)):aP P E Γ M ⟨d, .load T x,ty,pos,af,gd⟩ φ :=
 aP.ofRun fun a w hb hf=>by
  have h1:a.eval x = .pointer (some ⟨b,o,none⟩):=hf x _ (by simp [Op.operands]) hx
  obtain ⟨c,hc,_,_,hcs⟩:=eh hb hM
  obtain ⟨v,hx',c',rfl,hs',_,hcs'⟩:=hcs _ (fl hl)
  obtain ⟨y,hy,hp⟩:=hcs' _ (fl hl2)
  refine ⟨y,?_,hp⟩
  have h2:=w9 hx' hy
  subst ho
  simp only [execOp,h1,Instr.loadAt,Instr.sureAddr,Sem.run_bind,Sem.run_pure,Result.andThen_ok,dB hc h2]
theorem rC {b:Nat} {T:TypeId} {m:Nat} {cs:cD} {φ:VT} (h:VT.le (bA m cs) φ):Own.le (aW b T m cs) (aW b T m [(0, .agg m, φ)]) :=
 ⟨rfl,fun g h' ⟨c,hb,hs,ha,hc⟩=>⟨c,hb,hs,ha,fun q hq=>by
  rw [List.mem_singleton.1 hq]
  exact ⟨.agg c,by subst hs;simp [bT],h _ _ ⟨c,rfl,hs,ha,hc⟩⟩⟩⟩
theorem lM {ops:Array Oper} {i:Nat} {os:List Oper} {K:List Deferred→Ctx→Mem→Prop} {D:List Deferred} {t:Nat} {φ ψ:VT} (ht:bP Γ t=some φ) (hle:VT.le φ ψ) (h:Run P E ops false i D ((t, ψ) :: Γ) M os K):Run P E ops false i D Γ M os K :=
 .conv (fun a w hS=>hS.sub (fun s χ hs=>by
  rw [bC] at hs
  split at hs
  ·rename_i e;subst e;cases hs;exact ⟨φ,ht,hle⟩
  ·exact ⟨χ,hs,H⟩) (SubM.refl _)) h
end
attribute [local irreducible] J PJ aP one slT cv bA bM exT cq eP aW aU slV VT.le Ret bO
theorem qx (l:List Nat) (d:Nat) (hl:bI l) (h1:l.length≤1099511627776) (hd0:0<d) (hd:d<4294967296):Ok Tryz.prog 140 [cr l,one (.int .u32 (d:Nat))] (bM [pQ (lv l / d),one (.int .u32 ((lv l % d:Nat):Int))]):=by
 refine Ok.enter Tryz.func140 Z Tryz.ntmps140 Z (fun w O => ?_)
 refine ae (aj (Ea Z (Ea Z (Ec (aa (ae (aj (DZ Z (DY (aZ Z) ?_)))))))))
 refine ci l.length l.length Z Z Z Z (Nat.le_refl _) Z Z Y Z Z (fun bz => ?_)
 refine Ea Z (Ea Z (Ec (aa (ae (ae (aj (DZ Z (DY (aZ Z) (DY (e9 Z Z (aR Y Y)) ?_)))))))))
 refine Ea Z (Ec (aa (ar (cm (Γ' := [(0,_),(1,_),(4,_),(5,_),(6,_),(7,_),(8,_)]) DT (SubM.refl _) ?_))))
 refine bw (σ:=List Nat × Nat × Nat) (Γk := [(0,_),(1,_),(4,_),(5,_),(6,_)]) DT (fun s => [(8,one (.int .i64 ((s.2.1:Nat) - 1:Int))),(7,one (.int .u64 (s.2.2:Nat)))]) (fun s M0=>(M0.set 0 (aU (some bz) 116 .one l.length l.length (fun q=>one (.int .u32 (s.1.getD q 0:Nat)))))) (fun s=>ShortR l d s) (fun s=>s.2.1) ((List.replicate l.length 0,l.length,0)) (ShortR.start hd0) DU (.keep (bQ (fun q _=>by rw [cL]; rfl)) (.nil)) (fun s hs => ?_)
 refine bN (Γ' := [(8,_),(7,_),(0,_),(1,_),(4,_),(5,_),(6,_)]) (M' := [_]) Z Z ?_
 obtain ⟨z,n,r⟩:=s
 dsimp only at hs ⊢
 refine ae (ae (aj (DZ Z (DY (j9 Z Z) (Ec (aa ?_))))))
 cases n with
 | zero =>
  obtain ⟨f1,f2⟩:=hs.finish
  have hlen:z.length=l.length:=hs.len
  have hr:r<d:=hs.r
  rw [← f1, ← f2]
  refine nY Z Y (aY (aw (aw (aE (aa (ae (aj (DZ Z (DZ Z ?_)))))))))
  refine DY (cP Z) (Ea Z (Ea Z (Ec (aa (aD (cR (t:=4) (i:=0) Z Z ?_))))))
  refine fw Tryz.results140 (.tmp Z (VT.le_trans (dg (m:=z.length) (ψ:=fun i=>one (.int .u32 (z.getD i 0:Nat))) hlen.symm (fun q hq=>rfl)) (iT (l:=z) hs.lim Z Y))) (.tmp Z (ao (by congr 1;omega)))
 | succ n =>
  have hx:=bh hl n
  have hr:r<d:=hs.r
  have hb:=ShortR.bound hx hr hd
  have hst:=hs.step hl hd
  have hn:n<l.length:=hs.le
  have hzn:n<z.length:=by have:=hs.len;dsimp only at this;omega
  have en:((n+1:Nat):Int) - 1=(n:Nat):=by omega
  rw [en]
  refine nX Z Y (av (aa (ae (ar (ae (aj (DZ Z (DY (i6 (b:=4294967296) Z Z Y) (DZ Z ?_)))))))))
  refine DZ Z (DY (ax Z Z Y) (DY (aJ Z) (DY (bS Z Y) (DY (eD Z Z Y) (Ea Z (Ec (aa (ae (aj ?_)))))))))
  refine DZ Z (DZ Z (DZ Z (DZ Z (DY (bS Z Y) (DY (lD Z Z Y Y) (DY (cP Z) (DY (an Z Z Y) ?_)))))))
  (refine aA 0 Z Z Z ?_ Z ?_;omega)
  refine Ec (aa (aj (DZ Z (DZ Z (DY (bS Z Y) (DY (gi _ Z Z Z Y) (Ea Z (Ec (aB ?_)))))))))
  refine aa (aj (DZ Z (DY (e9 Z Z (aR Y Y)) (Ea Z (Ec ?_)))))
  refine aN ((z.set n ((r*4294967296+l.getD n 0) / d),n,(r*4294967296+l.getD n 0) % d)) (hst) (by (simp only []; omega)) DU (.keep (ry hzn (Nat.mod_eq_of_lt hb.2)) (.nil))
def xa (r d:Nat):Nat :=
 if (aL r).length=(aL d).length then max 1 ((aL r).getD ((aL r).length - 1) 0 / ((aL d).getD ((aL d).length - 1) 0+1))
 else (((aL r).getD ((aL r).length - 1) 0*4294967296+(aL r).getD ((aL r).length - 2) 0) / ((aL d).getD ((aL d).length - 1) 0+1))*4294967296^((aL r).length - (aL d).length - 1)
theorem kO {v:Nat} {n:Nat} (h:(aL v).length=n+1):v=lv ((aL v).take n)+4294967296^n*(aL v).getD n 0∧lv ((aL v).take n)<4294967296^n:=by
 have h1:=bL (l:=aL v) (k:=n) Y
 rw [List.take_of_length_le Y,bY] at h1
 exact ⟨h1,by have:=pc (bf v) n;rwa [← yr] at this⟩
theorem yz {r d:Nat} (hd:d≠0) (h:d≤r):0<xa r d∧xa r d*d≤r:=by
 have hlen:=bZ h
 have hdl:(aL d).length≠0:=fun k=>hd (gF k)
 obtain ⟨m,hm⟩ : ∃ m,(aL d).length=m+1:=⟨(aL d).length - 1,by omega⟩
 obtain ⟨e,he⟩ : ∃ e,(aL r).length=m+1+e:=⟨(aL r).length - (m+1),by omega⟩
 have hdt:=bh (bf d) m
 obtain ⟨d1,d2⟩:=kO hm
 unfold xa
 rw [hm,he]
 simp only [Nat.add_sub_cancel] at *
 generalize hx:(aL d).getD m 0=x at *
 generalize lv ((aL d).take m)=dl at *
 have hdlt:d<4294967296^m*(x+1):=by rw [Nat.mul_add]; omega
 cases e with
 | zero =>
  rw [if_pos Z]
  obtain ⟨r1,r2⟩:=kO he
  simp only [Nat.add_zero,Nat.add_sub_cancel] at *
  generalize (aL r).getD m 0=y at *
  generalize lv ((aL r).take m)=rl at *
  refine ⟨by omega,?_⟩
  rcases Nat.eq_zero_or_pos (y / (x+1)) with hq | hq
  ·rw [hq]; simpa using h
  ·rw [Nat.max_eq_right hq]
   have h1:y / (x+1)*d≤y / (x+1)*(4294967296^m*(x+1)):=Nat.mul_le_mul_left _ (Nat.le_of_lt hdlt)
   have h2:y / (x+1)*(4294967296^m*(x+1))=4294967296^m*(y / (x+1)*(x+1)):=by rw [Nat.mul_left_comm]
   have h3:4294967296^m*(y / (x+1)*(x+1))≤4294967296^m*y:=Nat.mul_le_mul_left _ (Nat.div_mul_le_self _ _)
   omega
 | succ e =>
  rw [if_neg Y]
  rw [show m+1+(e+1) - 1=m+e+1 by omega,show m+1+(e+1) - 2=m+e by omega,show m+1+(e+1) - (m+1) - 1=e by omega]
  obtain ⟨r1,r2⟩:=kO (show (aL r).length=(m+e+1)+1 by omega)
  have r3:=bL (l:=aL r) (k:=m+e) Y
  have hy0:(aL r).getD (m+e+1) 0≠0:=by
   intro hy
   have:=cG (n:=r) (k:=m+e+1) (by rw [hy,Nat.mul_zero,Nat.add_zero] at r1;rw [r1]; exact r2)
   omega
  generalize (aL r).getD (m+e+1) 0=y at *
  generalize (aL r).getD (m+e) 0=y2 at *
  rw [r3] at r1
  generalize lv ((aL r).take (m+e))=rl at *
  have hqp:0<(y*4294967296+y2) / (x+1):=Nat.div_pos Y Y
  have hle:=Nat.div_mul_le_self (y*4294967296+y2) (x+1)
  generalize (y*4294967296+y2) / (x+1)=q at *
  refine ⟨Nat.mul_pos hqp (Nat.pow_pos S),?_⟩
  have h1:q*4294967296^e*d≤q*4294967296^e*(4294967296^m*(x+1)):=Nat.mul_le_mul_left _ (Nat.le_of_lt hdlt)
  have h2:q*4294967296^e*(4294967296^m*(x+1))=4294967296^(m+e)*(q*(x+1)):=by
   rw [Nat.pow_add]; ac_rfl
  have h3:4294967296^(m+e)*(q*(x+1))≤4294967296^(m+e)*(y*4294967296+y2):=Nat.mul_le_mul_left _ hle
  have h4:4294967296^(m+e+1)*y=4294967296^(m+e)*(y*4294967296):=by rw [Nat.pow_succ]; ac_rfl
  rw [Nat.mul_add (4294967296^(m+e)) (y*4294967296) y2] at h3
  rw [h4] at r1
  rw [h2] at h1
  generalize 4294967296^(m+e)*(y*4294967296)=z1 at *
  generalize 4294967296^(m+e)*y2=z2 at *
  refine Nat.le_trans h1 (Nat.le_trans h3 ?_)
  rw [r1]
  exact Nat.le_trans (Nat.add_comm z1 z2▸Nat.le_refl _) (Nat.add_le_add_right (Nat.le_add_left _ _) _)
end Tor
end
section
namespace Tor
open Go Go.RowKit Go.Proofs
theorem AA (a b:Nat):VT.le (slT .one 2 (fun q => [one (.int .u32 (b:Int)),one (.int .u32 (a:Int))].reverse.getD q bO)) (slT .one 2 (fun q=>one (.int .u32 (([a,b].getD q 0:Nat):Int)))) :=
 dg Z (fun q hq=>by
  match q,hq with
  | 0, _ => rfl
  | 1, _ => rfl)
theorem Cj {k q:Nat} (hq:q<18446744073709551616) (hk:k≤1099511627776):VT.le (slT .one (k+2) (fun p=>if p<k then one (.int .u32 0) else (fun j=>one (.int .u32 (([q % 4294967296,q / 4294967296 % 4294967296].getD j 0:Nat):Int))) (p - k))) (pQ (q*4294967296^k)) :=
 VT.le_trans (dg (m:=(List.replicate k 0 ++ [q % 4294967296,q / 4294967296 % 4294967296]).length) (ψ:=gN (List.replicate k 0 ++ [q % 4294967296,q / 4294967296 % 4294967296])) (by simp) (fun p hp=>by
  unfold gN
  by_cases h:p<k
  ·rw [if_pos h]; simp [List.getD,List.getElem?_append,h]
  ·rw [if_neg h]; simp only [List.getD,List.getElem?_append,List.length_replicate,if_neg h])) (iT (fun d hd=>by
   rcases List.mem_append.1 hd with h | h
   ·rw [(List.mem_replicate.1 h).2]; decide
   ·rcases List.mem_cons.1 h with rfl | h
    ·exact Nat.mod_lt _ S
    ·rw [List.mem_singleton.1 h]; exact Nat.mod_lt _ S) (by
   rw [gl,eE,List.length_replicate,Nat.zero_add,Nat.mul_comm]
   congr 1
   simp only [lv]
   omega) (by simp;omega))
attribute [local irreducible] J PJ aP one slT cv bA bM exT cq eP aW aU slV VT.le Ret bO
theorem tf (r d:Nat) (hd:d≠0) (h:d≤r) (hl:(aL r).length≤1099511627776):Ok Tryz.prog 141 [cr (aL r),cr (aL d)] (aO ((xa r d:Nat):Int)):=by
 have hlen:=bZ h
 have hdl:(aL d).length≠0:=fun k=>hd (gF k)
 have hx:=bh (bf d) ((aL d).length - 1)
 have hy:=bh (bf r) ((aL r).length - 1)
 have hz:=bh (bf r) ((aL r).length - 2)
 unfold xa
 refine Ok.enter Tryz.func141 Z Tryz.ntmps141 Z (fun w O => ?_)
 by_cases hk:(aL r).length=(aL d).length
 ·rw [if_pos hk]
  refine ae (aj ?_)
  refine aX (T:=43) Z (ltN Z) (fun b4 => ?_)
  refine Ec (aa (ae (aT 17 aS X S (DZ Z (DY (aZ Z) (DZ Z (DY (aZ Z) (DY (cA _ _ Z Z Y Y) (DZ Z ?_)))))))))
  refine DY (aZ Z) (DZ Z (DZ Z (DY (aZ Z) (DY (cA _ 1 Z Z Y Y) (DY (ax Z Z Y) (DY (aJ Z) (DY (bS Z Y) (DY (eD (b:=1) Z Z Y) (Ea Z ?_)))))))))
  refine Ea Z (Ec (Ea Z (Ec (aa (ae (ae (aj (DZ Z (DY (sT Y (cn Z Z)) ?_)))))))))
  refine Ec (aa (aG Z (ae (aj (DZ Z (DZ Z (DY (cA _ 1 Z Z Y Y) (DY (ax Z Z Y) (DY (aJ Z) ?_)))))))))
  refine DY (bS Z Y) (DZ Z (DY (lD Z Z Y Y) (DY (om Z Z) ?_)))
  have hq:=Nat.div_le_self ((aL r).getD ((aL r).length - 1) 0) ((aL d).getD ((aL d).length - 1) 0+1)
  generalize (aL r).getD ((aL r).length - 1) 0 / ((aL d).getD ((aL d).length - 1) 0+1)=q at *
  refine DY (eZ Z Y Y) ?_
  refine DY (am (fZ _ Y Y) Z ⟨H,Ed⟩) ?_
  refine aC 0 Z Z Z Z Z (leN Z) Z (Ec (aa (aD (aI ?_))))
  refine aK Tryz.results141 (.cellB 0 Z Z Z (cj Y))
 ·rw [if_neg hk]
  refine ae (aj ?_)
  refine aX (T:=43) Z (ltN Z) (fun b4 => ?_)
  refine Ec (aa (ae (aT 17 aS X S (DZ Z (DY (aZ Z) (DZ Z (DY (aZ Z) (DY (cA _ _ Z Z Y Y) (DZ Z ?_)))))))))
  refine DY (aZ Z) (DZ Z (DZ Z (DY (aZ Z) (DY (cA _ 1 Z Z Y Y) (DY (ax Z Z Y) (DY (aJ Z) (DY (bS Z Y) (DY (eD (b:=1) Z Z Y) (Ea Z ?_)))))))))
  refine Ea Z (Ec (Ea Z (Ec (aa (ae (ae (aj (DZ Z (DY (sF Y (cn Z Z)) ?_)))))))))
  refine Ec (aa (az Z (av (aa (ae (aT 16 aS X S (DZ Z (DZ Z (DY (cA _ 1 Z Z Y Y) ?_)))))))))
  refine DY (ax Z Z Y) (DY (aJ Z) (DY (bS Z Y) (DY (i6 (b:=4294967296) Z Z Y) (DZ Z (DZ Z (DY (cA _ 2 Z Z Y Y) (DY (ax Z Z Y) (DY (aJ Z) (DY (bS Z Y) ?_)))))))))
  refine DY (eD Z Z Y) (DZ Z (DY (lD Z Z Y Y) (Ec (Ea Z (Ec (aa (ae (aj (DZ Z ?_)))))))))
  refine DY (cA _ 1 Z Z Y Y) ?_
  have hq:=Nat.div_le_self ((aL r).getD ((aL r).length - 1) 0*4294967296+(aL r).getD ((aL r).length - 2) 0) ((aL d).getD ((aL d).length - 1) 0+1)
  generalize ((aL r).getD ((aL r).length - 1) 0*4294967296+(aL r).getD ((aL r).length - 2) 0) / ((aL d).getD ((aL d).length - 1) 0+1)=q at *
  obtain ⟨k,hkk⟩ : ∃ k,k=(aL r).length - (aL d).length - 1:=⟨_,rfl⟩
  rw [← hkk]
  refine ci k k Z Z Z Z (Nat.le_refl _) Z Z Y Z Z (fun bz => ?_)
  refine Ea Z (Ec (aa (ae (aj (DZ Z (DZ Z (DY (cP Z) (DZ Z (DY (gX Z) ?_)))))))))
  refine DY (cP Z) (stS Z Z Z Z (PartsK.cons Z (PartsK.cons Z (PartsK.nil (lM (t:=63) Z (AA _ _) ?_)))))
  (refine de 0 Z Z Z (leN Z) ?_ ?_ Z (ltN Z) (fun sv64 cap64 => ?_);omega;omega)
  refine jy (t:=64) (j:=0) Z Z ?_
  have hq64:q<18446744073709551616:=by omega
  have hmd:=dJ false (q*4294967296^k)
  rw [if_neg S] at hmd
  refine DY (am (hmd) Z ⟨(Cj hq64 Y),H,Ed⟩) ?_
  refine aC 0 Z Z Z Z Z (leN Z) Z (Ec (aa (aD ?_)))
  refine aK Tryz.results141 (.cellB 0 Z Z Z (cj (by rw [hkk])))
theorem tg {d:Nat} (hd:d<4294967296):VT.le (slT .one 1 fun _=>one (.int .u32 (d:Int))) (pQ d) :=
 VT.le_trans (dg (m := [d].length) (ψ:=gN [d]) Z (fun q hq=>by
  have hq:q=0:=by omega
  subst hq;rfl)) (iT (fun x hx=>by rw [List.mem_singleton.1 hx]; exact hd) (by simp [lv]) (by simp))
theorem th {b:Nat} (hb:b≠0):0<(aL b).getD ((aL b).length - 1) 0:=by
 have hdl:(aL b).length≠0:=fun k=>hb (gF k)
 obtain ⟨m,hm⟩ : ∃ m,(aL b).length=m+1:=⟨(aL b).length - 1,by omega⟩
 obtain ⟨d1,d2⟩:=kO hm
 rw [hm,Nat.add_sub_cancel]
 rcases Nat.eq_zero_or_pos ((aL b).getD m 0) with h | h
 ·rw [h,Nat.mul_zero,Nat.add_zero] at d1
  have:=cG (n:=b) (k:=m) (by rw [d1]; exact d2)
  omega
 ·exact h
theorem pg {a s:Nat} (hs:s<4294967296):(aL (a*s)).length≤(aL a).length+1:=cG (by
 rw [Nat.pow_succ]
 have h1:=da a
 rcases Nat.eq_zero_or_pos s with h | h
 ·subst h;rw [Nat.mul_zero]; exact Nat.mul_pos (Nat.pow_pos S) S
 ·exact Nat.mul_lt_mul'' h1 hs)
theorem Ck {a b s q r:Nat} (hs:0<s) (hb:0<b) (h:q*(b*s)+r=a*s) (hr:r<b*s):q=a / b∧r / s=a % b:=by
 have h1:(a*s) / (b*s)=q:=by rw [← h,Nat.mul_comm q,Nat.mul_add_div Y,Nat.div_eq_of_lt hr,Nat.add_zero]
 have h2:(a*s) % (b*s)=r:=by rw [← h,Nat.mul_comm q,Nat.mul_add_mod,Nat.mod_eq_of_lt hr]
 rw [Nat.mul_div_mul_right _ _ hs] at h1
 rw [Nat.mul_mod_mul_right] at h2
 exact ⟨h1.symm,by rw [← h2,Nat.mul_div_cancel _ hs]⟩
theorem uD (a b:Nat) (hb:b≠0) (ha:(aL a).length≤1099511627700) (hbl:(aL b).length≤1099511627700):Ok Tryz.prog 134 [cr (aL a),cr (aL b)] (bM [aO ((a / b:Nat):Int),aO ((a % b:Nat):Int)]):=by
 have hbp:0<b:=by omega
 have hdl:(aL b).length≠0:=fun k=>hb (gF k)
 refine Ok.enter Tryz.func134 Z Tryz.ntmps134 Z (fun w O => ?_)
 by_cases h1:(aL b).length=1
 ·have hb1:=tb h1
  have hd:=bh (bf b) 0
  have hsh:=qx (aL a) b (bf a) Y Y Y
  rw [bY] at hsh
  have hr:=Nat.mod_lt a hbp
  have hm1:=dJ false (a / b)
  have hm2:=dJ false (a % b)
  rw [if_neg S] at hm1 hm2
  refine ae (aj ?_)
  refine aX (T:=43) Z (ltN Z) (fun b4 => ?_)
  refine aX (T:=43) Z (ltN Z) (fun b5 => ?_)
  refine Ec (aa (ae (ae (aj (DZ Z (DY (aZ Z) (DY (sT Y (cn Z Z)) (Ec (aa ?_)))))))))
  refine aG Z (ae (aj (DZ Z (DZ Z (DY (ei Z Z Y Y) (DY (aJ Z) ?_))))))
  refine DY (am (hsh) Z ⟨H,(ao (by rw [show (aL b).getD (Int.toNat 0) 0=b from hb1])),Ed⟩) ?_
  refine DZ Z (DY (aq Z Z) (DY (aq Z Z) (Ea Z (Ea Z (Ec (aa (ae (aj (DZ Z ?_)))))))))
  refine DY (am (hm1) Z ⟨H,H,Ed⟩) ?_
  refine DZ Z (jf Z Z Z Z ?_)
  refine DY (am (hm2) Z ⟨(tg Y),H,Ed⟩) ?_
  refine aC 1 Z Z Z Z Z (leN Z) Z (aC 0 Z Z Z Z Z (leN Z) Z (Ec (aa (aD (aI ?_)))))
  refine fw Tryz.results134 (.cellB 1 Z Z Z H) (.cellB 0 Z Z Z H)
 ·have hx:=bh (bf b) ((aL b).length - 1)
  have hx0:=th hb
  refine ae (aj ?_)
  refine aX (T:=43) Z (ltN Z) (fun b4 => ?_)
  refine aX (T:=43) Z (ltN Z) (fun b5 => ?_)
  refine Ec (aa (ae (ae (aj (DZ Z (DY (aZ Z) (DY (sF Y (cn Z Z)) (Ec (aa ?_)))))))))
  refine az Z (av (aa (ae (aj (Ea Z (Ec (aa (ae (ar ?_)))))))))
  refine cm (Γ' := [(0,_),(1,_),(4,_),(5,_),(8,_)]) DT (SubM.refl _) ?_
  refine bw (σ:=Nat) (Γk := [(0,_),(1,_),(4,_),(5,_)]) DT (fun s => [(8,one (.int .u32 (s:Nat)))]) (fun s M0=>M0) (fun s=>0<s∧s<4294967296) (fun s=>4294967296 - s) (1) (⟨by decide,by decide⟩) DU (.keep DX (.keep DX (.nil))) (fun s hs => ?_)
  refine bN (Γ' := [(8,_),(0,_),(1,_),(4,_),(5,_)]) (M' := [_,_]) Z Z ?_
  obtain ⟨s0,s1⟩:=hs
  have hb1:=Nat.mul_le_mul (show (aL b).getD ((aL b).length - 1) 0≤4294967295 by omega) (show s≤4294967295 by omega)
  have hb2:=Nat.mul_le_mul_right s hx0
  by_cases hc:(aL b).getD ((aL b).length - 1) 0*s<2147483648
  ·refine ae (ae (aj (DZ Z (DZ Z (DY (aZ Z) (DY (cA _ 1 Z Z Y Y) (DY (ax Z Z Y) (DY (aJ Z) (DY (bS Z Y) ?_)))))))))
   refine DZ Z (DY (bS Z Y) (DY (i6 Z Z Y) (DY (sT Y (a7 Z Z)) (Ec (aa (aG Z (av (aa (ar ?_)))))))))
   refine aj (DZ Z (DY (Ci (a:=2) Z Z Y) (Ea Z (Ec (aB ?_)))))
   refine aN (2*s) (⟨by omega,by omega⟩) Y DU (.keep DX (.keep DX (.nil)))
  ·have hma:=dJ false a
   have hmb:=dJ false b
   have hms:=dJ false s
   rw [if_neg S] at hma hmb hms
   have la:=pg (a:=a) s1
   have lb:=pg (a:=b) s1
   have ls:bJ ((s:Nat):Int):=gb (by rw [Int.natAbs_natCast]; exact Nat.lt_trans s1 W)
   have hMa:=dR (a:Int) (s:Int) (show (aL a).length≤_ by omega) ls
   have hMb:=dR (b:Int) (s:Int) (show (aL b).length≤_ by omega) ls
   rw [← Int.natCast_mul] at hMa hMb
   refine ae (ae (aj (DZ Z (DZ Z (DY (aZ Z) (DY (cA _ 1 Z Z Y Y) (DY (ax Z Z Y) (DY (aJ Z) (DY (bS Z Y) ?_)))))))))
   refine DZ Z (DY (bS Z Y) (DY (i6 Z Z Y) (DY (sF Y (a7 Z Z)) (Ec (aa (az Z (aY (aw (aw ?_)))))))))
   refine aE (aa (ae (aj (DZ Z (jf Z Z Z Z ?_)))))
   refine DY (am (hms) Z ⟨(tg s1),H,Ed⟩) ?_
   refine aX (T:=43) Z (ltN Z) (fun b9 => ?_)
   refine aC 0 Z Z Z Z Z (leN Z) Z (Ec (aa (ae ?_)))
   refine dU aS X X ?_
   refine ux (fun B=>ab Z) Z Z ?_
   refine uxk (hma) Z ⟨(cZ Y),H,Ed⟩ Z ?_
   refine ux (fun B=>ak 0 Z Z Z) Z Z ?_
   refine uxk (hMa) Z ⟨H,H,Ed⟩ Z ?_
   refine ux (fun B=>ab Z) Z Z ?_
   refine uxk (hmb) Z ⟨(cZ Y),H,Ed⟩ Z ?_
   refine ux (fun B=>ak 0 Z Z Z) Z Z ?_
   refine uxk (hMb) Z ⟨H,H,Ed⟩ Z ?_
   refine uB Z Z Z (BuildK.nil (ua Z (ua Z (ua Z (us Z (us Z (us Z ?_)))))))
   refine RunU.nil (fun γ => ?_)
   refine cF (M' := [_,_,_,_,_,_]) Z (t4 (fU.refl _) (.keep xS (.keep DX (.keep DX (SubM.refl _)))) (aa (ae (ar ?_))))
   have hbs:0<b*s:=Nat.mul_pos hbp s0
   refine cm (Γ' := [(4,_),(5,_),(8,_),(10,_),(11,_),(12,_)]) DT (SubM.refl _) ?_
   refine bw (σ:=Nat × Nat) (Γk := [(4,_),(5,_),(8,_),(10,_),(11,_),(12,_)]) DT (fun p => []) (fun p M0=>((M0.set 0 (aW (γ 12) 43 (Lay.agg 2).sz [(0,Lay.agg 2,aO (p.1:Int))])).set 2 (aW (γ 10) 43 (Lay.agg 2).sz [(0,Lay.agg 2,aO (p.2:Int))]))) (fun p=>p.1*(b*s)+p.2=a*s) (fun p=>p.2) ((0,a*s)) ((by simp)) DU (.keep (rC qi) (.keep DX (.keep DX (.keep DX (.keep DX (.keep DX (.nil))))))) (fun p hp => ?_)
   refine bN (Γ' := [(4,_),(5,_),(8,_),(10,_),(11,_),(12,_)]) (M' := [_,_,_,_,_,_]) Z Z ?_
   obtain ⟨q,r⟩:=p
   dsimp only at hp ⊢
   have hle:=mn r (b*s)
   by_cases hr:r<b*s
   ·obtain ⟨f1,f2⟩:=Ck s0 hbp hp hr
    have lr:(aL r).length≤1099511627776:=by
     have:=bZ (show r≤a*s by omega)
     omega
    have hsh:=qx (aL r) s (bf r) lr s0 s1
    rw [bY,f2] at hsh
    have hm2:=dJ false (a % b)
    rw [if_neg S] at hm2
    refine ae (ae (aj (DY (ah Z) (DY (bt 2 0 1 Z Z Z Z Z) (DY (ah Z) (DY (bt 1 0 1 Z Z Z Z Z) ?_))))))
    refine DY (sT (by assumption) (am (hle) Z ⟨H,H,Ed⟩)) ?_
    refine DY (bF Z) (Ec (aa (az Z (aY (aw (aw (aE (aa (ae ?_)))))))))
    refine aj (DY (ah Z) (DY (bt 2 0 1 Z Z Z Z Z) (DZ Z ?_)))
    refine DY (am (hsh) Z ⟨H,H,Ed⟩) ?_
    refine DZ Z (DY (aq Z Z) (DY (aq Z Z) (Ea Z (Ea Z (Ec (aa (ae (gY 3 aS X S (DY (ak 0 Z Z Z) ?_)))))))))
    refine DZ Z ?_
    refine DY (am (hm2) Z ⟨H,H,Ed⟩) ?_
    refine Ec (aC 5 Z Z Z Z Z (leN Z) Z (aC 4 Z Z Z Z Z (leN Z) Z (Ec (aa (aD ?_)))))
    refine fw Tryz.results134 (.cellB 5 Z Z Z (cj (by rw [f1]))) (.cellB 4 Z Z Z H)
   ·have lr:(aL r).length≤1099511627776:=by
     have:=bZ (show r≤a*s by omega)
     omega
    obtain ⟨e0,e1⟩:=yz (show b*s≠0 by omega) (Nat.le_of_not_lt hr)
    have hes:=tf r (b*s) Y (Nat.le_of_not_lt hr) lr
    generalize xa r (b*s)=e at *
    have hq0:q≤q*(b*s):=Nat.le_mul_of_pos_right _ hbs
    have he0:e≤e*(b*s):=Nat.le_mul_of_pos_right _ hbs
    have le0:bJ (e:Int):=Nat.le_trans (bZ (show (e:Int).natAbs≤r by omega)) lr
    have lq0:bJ (q:Int):=Nat.le_trans (bZ (show (q:Int).natAbs≤a*s by omega)) Y
    have lbs:bJ ((b*s:Nat):Int):=Nat.le_trans (bZ (show ((b*s:Nat):Int).natAbs≤b*s by omega)) Y
    have lrs:bJ (r:Int):=Nat.le_trans (bZ (show (r:Int).natAbs≤r by omega)) lr
    have les:bJ ((e*(b*s):Nat):Int):=Nat.le_trans (bZ (show ((e*(b*s):Nat):Int).natAbs≤r by omega)) lr
    have hmu:=dR (e:Int) ((b*s:Nat):Int) le0 lbs
    rw [← Int.natCast_mul] at hmu
    have hsu:=ms (r:Int) ((e*(b*s):Nat):Int) lrs les
    rw [← Int.ofNat_sub e1] at hsu
    have had:=iB (q:Int) (e:Int) lq0 le0
    rw [← Int.natCast_add] at had
    refine ae (ae (aj (DY (ah Z) (DY (bt 2 0 1 Z Z Z Z Z) (DY (ah Z) (DY (bt 1 0 1 Z Z Z Z Z) ?_))))))
    refine DY (sF (by assumption) (am (hle) Z ⟨H,H,Ed⟩)) ?_
    refine DY (bF Z) (Ec (aa (aG Z (av (aa (ar (ae (aj (DY (ah Z) ?_)))))))))
    refine DY (bt 2 0 1 Z Z Z Z Z) (DY (ah Z) (DY (bt 1 0 1 Z Z Z Z Z) ?_))
    refine DY (am (hes) Z ⟨H,H,Ed⟩) ?_
    refine aX (T:=43) Z (ltN Z) (fun b13 => ?_)
    refine aC 0 Z Z Z Z Z (leN Z) Z (Ec (aa (ae (aj (DY (ak 1 Z Z Z) (DY (ak 0 Z Z Z) ?_))))))
    refine DY (am (had) Z ⟨H,H,Ed⟩) ?_
    refine aC 1 Z Z Z Z Z (leN Z) Z (Ec (aa (aT 5 aS X S (DY (ak 3 Z Z Z) (DY (ak 0 Z Z Z) (DY (ak 2 Z Z Z) ?_))))))
    refine DY (am (hmu) Z ⟨H,H,Ed⟩) ?_
    refine DY (am (hsu) Z ⟨H,H,Ed⟩) ?_
    refine Ec (aC 3 Z Z Z Z Z (leN Z) Z (Ec (aB ?_)))
    refine aN ((q+e,r - e*(b*s))) ((by dsimp only;rw [Nat.add_mul]; omega)) Y DU (.drop (.keep DX (.keep DX (.keep DX (.keep DX (.keep DX (.keep DX (.nil))))))))
end Tor
end
section
namespace Tor
open Go Go.RowKit Go.Proofs
def dk (x:Int):Prop:=(aL x.natAbs).length≤1099511627700
theorem qy {x:Int} (h:x.natAbs<2^2048):dk x:=by
 have:(aL x.natAbs).length≤64:=cG (Nat.lt_of_lt_of_le h W)
 unfold dk;omega
theorem dk.small {x:Int} (h:dk x):bJ x:=by unfold dk at h;unfold Tor.bJ;omega
theorem jM {x y:Int} (h:dk y) (hl:x.natAbs≤y.natAbs):dk x:=Nat.le_trans (bZ hl) h
theorem jN {x y:Int} (h:bJ y) (hl:x.natAbs≤y.natAbs):bJ x:=Nat.le_trans (bZ hl) h
theorem pX (n:Nat):(aL (n+1)).length≤(aL n).length+1:=cG (by
 have h:=da n
 rw [Nat.pow_succ]
 have h0:0<4294967296^(aL n).length:=Nat.pow_pos S
 generalize 4294967296^(aL n).length=z at *
 omega)
theorem yA (x y:Int):Nat.gcd y.natAbs (x % y).natAbs=Nat.gcd x.natAbs y.natAbs:=by
 have h:Int.gcd y (x % y)=Int.gcd y x:=by rw [Int.emod_def]; exact Int.gcd_sub_mul_left_right y x (x / y)
 rw [Nat.gcd_comm x.natAbs]; exact h
theorem tj (x:Int) {y:Int} (hy:y≠0):(x % y).natAbs<y.natAbs:=by
 have h1:=Int.emod_nonneg x hy
 have h2:=Int.emod_lt x hy
 omega
attribute [local irreducible] J PJ aP one slT cv bA bM exT cq eP aW aU slV VT.le Ret bO
theorem qA (x:Int):Ok Tryz.prog 76 [pQ x.natAbs,one (.bool (decide (x<0)))] (aO x):=by
 have h:=dJ (decide (x<0)) x.natAbs
 have e:(if decide (x<0)=true then -(x.natAbs:Int) else (x.natAbs:Int))=x:=by
  by_cases hx:x<0
  ·rw [if_pos (by simpa using hx)]; omega
  ·rw [if_neg (by simpa using hx)]; omega
 rw [e] at h
 exact h
set_option maxRecDepth 20000 in
theorem iF (a b:Int) (hb:b≠0) (ha:dk a) (hbs:dk b):Ok Tryz.prog 127 [aO a,aO b] (bM [aO (a / b),aO (a % b),one (.int .i64 0)]):=by
 obtain ⟨g1,g2,g3⟩:=vO (a:=a) hb
 have hB:b.natAbs≠0:=by omega
 have ha':(aL a.natAbs).length≤1099511627700:=ha
 have hb':(aL b.natAbs).length≤1099511627700:=hbs
 have hdiv:=uD a.natAbs b.natAbs hB ha' hb'
 have hlt:=Nat.mod_lt a.natAbs (Nat.pos_of_ne_zero hB)
 have hql:=Nat.div_le_self a.natAbs b.natAbs
 have hma:=qA a
 have hmb:=qA b
 have hsb:dQ b≠0:=by unfold dQ;rw [if_neg hb]; split <;> decide
 have hmb2:=dJ false b.natAbs
 rw [if_neg S] at hmb2
 have hsg:=ef ((a.natAbs % b.natAbs:Nat):Int)
 have hof:=fZ 1 S S
 have sq:bJ ((a.natAbs / b.natAbs:Nat):Int):=jN ha.small (by rw [Int.natAbs_natCast]; exact hql)
 have s1:bJ 1:=gb W
 have had:=iB ((a.natAbs / b.natAbs:Nat):Int) 1 sq s1
 have hsu:=ms (b.natAbs:Int) ((a.natAbs % b.natAbs:Nat):Int) (jN hbs.small Y) (jN hbs.small (by rw [Int.natAbs_natCast]; exact Nat.le_of_lt hlt))
 have hsu2:=ms b ((a.natAbs % b.natAbs:Nat):Int) hbs.small (jN hbs.small (by rw [Int.natAbs_natCast]; exact Nat.le_of_lt hlt))
 have hn1:=jl ((a.natAbs / b.natAbs:Nat):Int) sq
 have sq1:bJ (((a.natAbs / b.natAbs:Nat):Int)+1):=by
  have h1:=pX (a.natAbs / b.natAbs)
  have h2:=bZ hql
  have e:(((a.natAbs / b.natAbs:Nat):Int)+1).natAbs=a.natAbs / b.natAbs+1:=by generalize a.natAbs / b.natAbs=z;omega
  unfold Tor.bJ
  rw [e]
  omega
 have hn2:=jl (((a.natAbs / b.natAbs:Nat):Int)+1) sq1
 refine Ok.enter Tryz.func127 Z Tryz.ntmps127 Z (fun w O => ?_)
 by_cases hn:a<0
 ·by_cases hr:a.natAbs % b.natAbs=0
  ·obtain ⟨k1,k2⟩:=g2 hn hr
   have hs0:dQ ((a.natAbs % b.natAbs:Nat):Int)=0:=by rw [hr]; rfl
   by_cases hm:b<0
   ·rw [if_pos hm] at k1
    refine ae (aj ?_)
    refine aM Z Z (ltN Z) (fun b2 => ?_)
    refine aM Z Z (ltN Z) (fun b3 => ?_)
    refine aX (T:=43) Z (ltN Z) (fun b4 => ?_)
    refine aX (T:=43) Z (ltN Z) (fun b5 => ?_)
    refine Ea Z (Ec (aa (ae (gY 9 aS X S (DY (ah Z) (DY (ak 3 Z Z Z) (DY (ah Z) (DY (sT (by assumption) (ak 3 Z Z Z)) ?_))))))))
    refine DY (am (hma) Z ⟨(cZ Y),(ao (by rw [decide_eq_true hn])),Ed⟩) ?_
    refine DY (ah Z) (DY (ak 2 Z Z Z) (DY (ah Z) (DY (sT (by assumption) (ak 2 Z Z Z)) (Ec ?_))))
    refine DY (am (hmb) Z ⟨(cZ Y),(ao (by rw [decide_eq_true hm])),Ed⟩) ?_
    refine aH 3 Z Z Z Z (aH 2 Z Z Z Z (Ec (aa (ae (ae (aj (DY (ay 2 Z Z) ?_)))))))
    refine DY (am (ef _) Z ⟨H,Ed⟩) ?_
    refine DY (sF (by assumption) (cn Z Z)) (Ec (aa (az Z (av (aa (ae (aj (DY (ah Z) (DY (ak 3 Z Z Z) ?_)))))))))
    refine DY (ah Z) (DY (ak 2 Z Z Z) ?_)
    refine DY (am (hdiv) Z ⟨H,H,Ed⟩) ?_
    refine DZ Z (DY (aq Z Z) (DY (aq Z Z) ?_))
    refine aX (T:=43) Z (ltN Z) (fun b7 => ?_)
    refine aX (T:=43) Z (ltN Z) (fun b8 => ?_)
    refine aC 1 Z Z Z Z Z (leN Z) Z (aC 0 Z Z Z Z Z (leN Z) Z (Ec (aa (ae (ae (aj (DY (ah Z) (DY (sT (by assumption) (ak 5 Z Z Z)) (DZ Z ?_)))))))))
    refine Eb (ak 0 Z Z Z) ?_
    refine Eb (am (hsg) Z ⟨H,Ed⟩) ?_
    refine Eb (sF Y (ej Z Z)) (DY (aV Z Z) (Ec (aa (az Z (av (aa (ae (ae (aj ?_)))))))))
    refine DY (ah Z) (DY (sT (by assumption) (ak 5 Z Z Z)) (DY (ah Z) (DY (sT (by assumption) (ak 4 Z Z Z)) (DY (ka Z Z) (Ec (aa (az Z (av (aa ?_)))))))))
    refine ae ?_
    refine kI [⟨5,b5,43,Lay.agg 2⟩,⟨4,b4,43,Lay.agg 2⟩] [_,_] [_,_,_,_] aS X Z ((dy 2 Z).trans (.cons _ ((dy 2 Z).trans (.cons _ (List.Perm.refl _))))) Z (And.intro Z (And.intro Z (trivial))) ?_
    refine ux (fun B=>ak 1 Z Z Z) Z Z ?_
    refine ux (fun B=>ak 0 Z Z Z) Z Z ?_
    refine us Z (us Z ?_)
    refine ux (fun B=>ai Z) Z Z ?_
    refine RunU.nil ⟨And.intro Z (And.intro Z (And.intro Z (And.intro Z (trivial)))),?_⟩
    refine cF (M' := [_,_,_,_,_,_]) Z (aa (aD ?_))
    refine jd Tryz.results127 (.cellB 1 Z Z Z (cj (by rw [k1]))) (.cellB 0 Z Z Z (cj (by rw [k2,hr]; rfl))) (.tmp Z H)
   ·rw [if_neg hm] at k1
    refine ae (aj ?_)
    refine aM Z Z (ltN Z) (fun b2 => ?_)
    refine aM Z Z (ltN Z) (fun b3 => ?_)
    refine aX (T:=43) Z (ltN Z) (fun b4 => ?_)
    refine aX (T:=43) Z (ltN Z) (fun b5 => ?_)
    refine Ea Z (Ec (aa (ae (gY 9 aS X S (DY (ah Z) (DY (ak 3 Z Z Z) (DY (ah Z) (DY (sT (by assumption) (ak 3 Z Z Z)) ?_))))))))
    refine DY (am (hma) Z ⟨(cZ Y),(ao (by rw [decide_eq_true hn])),Ed⟩) ?_
    refine DY (ah Z) (DY (ak 2 Z Z Z) (DY (ah Z) (DY (sF (by assumption) (ak 2 Z Z Z)) (Ec ?_))))
    refine DY (am (hmb) Z ⟨(cZ Y),(ao (by rw [decide_eq_false hm])),Ed⟩) ?_
    refine aH 3 Z Z Z Z (aH 2 Z Z Z Z (Ec (aa (ae (ae (aj (DY (ay 2 Z Z) ?_)))))))
    refine DY (am (ef _) Z ⟨H,Ed⟩) ?_
    refine DY (sF (by assumption) (cn Z Z)) (Ec (aa (az Z (av (aa (ae (aj (DY (ah Z) (DY (ak 3 Z Z Z) ?_)))))))))
    refine DY (ah Z) (DY (ak 2 Z Z Z) ?_)
    refine DY (am (hdiv) Z ⟨H,H,Ed⟩) ?_
    refine DZ Z (DY (aq Z Z) (DY (aq Z Z) ?_))
    refine aX (T:=43) Z (ltN Z) (fun b7 => ?_)
    refine aX (T:=43) Z (ltN Z) (fun b8 => ?_)
    refine aC 1 Z Z Z Z Z (leN Z) Z (aC 0 Z Z Z Z Z (leN Z) Z (Ec (aa (ae (ae (aj (DY (ah Z) (DY (sT (by assumption) (ak 5 Z Z Z)) (DZ Z ?_)))))))))
    refine Eb (ak 0 Z Z Z) ?_
    refine Eb (am (hsg) Z ⟨H,Ed⟩) ?_
    refine Eb (sF Y (ej Z Z)) (DY (aV Z Z) (Ec (aa (az Z (av (aa (ae (ae (aj ?_)))))))))
    refine DY (ah Z) (DY (sT (by assumption) (ak 5 Z Z Z)) (DY (ah Z) (DY (sF (by assumption) (ak 4 Z Z Z)) (DY (ka Z Z) (Ec (aa (aG Z (aj (DY (ak 1 Z Z Z) ?_)))))))))
    refine DY (am (hn1) Z ⟨H,Ed⟩) ?_
    refine aC 1 Z Z Z Z Z (leN Z) Z (Ec (aa (ae ?_)))
    refine kI [⟨5,b5,43,Lay.agg 2⟩,⟨4,b4,43,Lay.agg 2⟩] [_,_] [_,_,_,_] aS X Z ((dy 2 Z).trans (.cons _ ((dy 2 Z).trans (.cons _ (List.Perm.refl _))))) Z (And.intro Z (And.intro Z (trivial))) ?_
    refine ux (fun B=>ak 1 Z Z Z) Z Z ?_
    refine ux (fun B=>ak 0 Z Z Z) Z Z ?_
    refine us Z (us Z ?_)
    refine ux (fun B=>ai Z) Z Z ?_
    refine RunU.nil ⟨And.intro Z (And.intro Z (And.intro Z (And.intro Z (trivial)))),?_⟩
    refine cF (M' := [_,_,_,_,_,_]) Z (aa (aD ?_))
    refine jd Tryz.results127 (.cellB 1 Z Z Z (cj (by rw [k1]))) (.cellB 0 Z Z Z (cj (by rw [k2,hr]; rfl))) (.tmp Z H)
  ·obtain ⟨k1,k2⟩:=g3 hn hr
   have hs0:dQ ((a.natAbs % b.natAbs:Nat):Int)=1:=by unfold dQ;rw [if_neg Y,if_neg Y]
   by_cases hm:b<0
   ·rw [if_pos hm] at k1
    refine ae (aj ?_)
    refine aM Z Z (ltN Z) (fun b2 => ?_)
    refine aM Z Z (ltN Z) (fun b3 => ?_)
    refine aX (T:=43) Z (ltN Z) (fun b4 => ?_)
    refine aX (T:=43) Z (ltN Z) (fun b5 => ?_)
    refine Ea Z (Ec (aa (ae (gY 9 aS X S (DY (ah Z) (DY (ak 3 Z Z Z) (DY (ah Z) (DY (sT (by assumption) (ak 3 Z Z Z)) ?_))))))))
    refine DY (am (hma) Z ⟨(cZ Y),(ao (by rw [decide_eq_true hn])),Ed⟩) ?_
    refine DY (ah Z) (DY (ak 2 Z Z Z) (DY (ah Z) (DY (sT (by assumption) (ak 2 Z Z Z)) (Ec ?_))))
    refine DY (am (hmb) Z ⟨(cZ Y),(ao (by rw [decide_eq_true hm])),Ed⟩) ?_
    refine aH 3 Z Z Z Z (aH 2 Z Z Z Z (Ec (aa (ae (ae (aj (DY (ay 2 Z Z) ?_)))))))
    refine DY (am (ef _) Z ⟨H,Ed⟩) ?_
    refine DY (sF (by assumption) (cn Z Z)) (Ec (aa (az Z (av (aa (ae (aj (DY (ah Z) (DY (ak 3 Z Z Z) ?_)))))))))
    refine DY (ah Z) (DY (ak 2 Z Z Z) ?_)
    refine DY (am (hdiv) Z ⟨H,H,Ed⟩) ?_
    refine DZ Z (DY (aq Z Z) (DY (aq Z Z) ?_))
    refine aX (T:=43) Z (ltN Z) (fun b7 => ?_)
    refine aX (T:=43) Z (ltN Z) (fun b8 => ?_)
    refine aC 1 Z Z Z Z Z (leN Z) Z (aC 0 Z Z Z Z Z (leN Z) Z (Ec (aa (ae (ae (aj (DY (ah Z) (DY (sT (by assumption) (ak 5 Z Z Z)) (DZ Z ?_)))))))))
    refine Eb (ak 0 Z Z Z) ?_
    refine Eb (am (hsg) Z ⟨H,Ed⟩) ?_
    refine Eb (sT Y (ej Z Z)) (DY (aV Z Z) (Ec (aa (aG Z (ae (aT 2 aS X S (DY (ak 1 Z Z Z) ?_)))))))
    refine DY (am (hof) Z ⟨H,Ed⟩) ?_
    refine Ec ?_
    refine DY (am (had) Z ⟨H,H,Ed⟩) ?_
    refine aC 1 Z Z Z Z Z (leN Z) Z (Ec (aa (aT 5 aS X S (DY (ah Z) (DY (ak 4 Z Z Z) ?_)))))
    refine DY (am (hmb2) Z ⟨(cZ Y),H,Ed⟩) ?_
    refine DY (ak 0 Z Z Z) ?_
    refine DY (am (hsu) Z ⟨H,H,Ed⟩) ?_
    refine Ec (aC 0 Z Z Z Z Z (leN Z) Z (Ec (aa (ae (ae (aj (DY (ah Z) (DY (sT (by assumption) (ak 5 Z Z Z)) (DY (ah Z) ?_)))))))))
    refine DY (sT (by assumption) (ak 4 Z Z Z)) (DY (ka Z Z) (Ec (aa (az Z (av (aa (ae ?_)))))))
    refine kI [⟨5,b5,43,Lay.agg 2⟩,⟨4,b4,43,Lay.agg 2⟩] [_,_] [_,_,_,_] aS X Z ((dy 2 Z).trans (.cons _ ((dy 2 Z).trans (.cons _ (List.Perm.refl _))))) Z (And.intro Z (And.intro Z (trivial))) ?_
    refine ux (fun B=>ak 1 Z Z Z) Z Z ?_
    refine ux (fun B=>ak 0 Z Z Z) Z Z ?_
    refine us Z (us Z ?_)
    refine ux (fun B=>ai Z) Z Z ?_
    refine RunU.nil ⟨And.intro Z (And.intro Z (And.intro Z (And.intro Z (trivial)))),?_⟩
    refine cF (M' := [_,_,_,_,_,_]) Z (aa (aD ?_))
    refine jd Tryz.results127 (.cellB 1 Z Z Z (cj (by rw [k1,Int.natCast_add]; rfl))) (.cellB 0 Z Z Z (cj (by rw [k2,Int.ofNat_sub (Nat.le_of_lt hlt)]))) (.tmp Z H)
   ·rw [if_neg hm] at k1
    refine ae (aj ?_)
    refine aM Z Z (ltN Z) (fun b2 => ?_)
    refine aM Z Z (ltN Z) (fun b3 => ?_)
    refine aX (T:=43) Z (ltN Z) (fun b4 => ?_)
    refine aX (T:=43) Z (ltN Z) (fun b5 => ?_)
    refine Ea Z (Ec (aa (ae (gY 9 aS X S (DY (ah Z) (DY (ak 3 Z Z Z) (DY (ah Z) (DY (sT (by assumption) (ak 3 Z Z Z)) ?_))))))))
    refine DY (am (hma) Z ⟨(cZ Y),(ao (by rw [decide_eq_true hn])),Ed⟩) ?_
    refine DY (ah Z) (DY (ak 2 Z Z Z) (DY (ah Z) (DY (sF (by assumption) (ak 2 Z Z Z)) (Ec ?_))))
    refine DY (am (hmb) Z ⟨(cZ Y),(ao (by rw [decide_eq_false hm])),Ed⟩) ?_
    refine aH 3 Z Z Z Z (aH 2 Z Z Z Z (Ec (aa (ae (ae (aj (DY (ay 2 Z Z) ?_)))))))
    refine DY (am (ef _) Z ⟨H,Ed⟩) ?_
    refine DY (sF (by assumption) (cn Z Z)) (Ec (aa (az Z (av (aa (ae (aj (DY (ah Z) (DY (ak 3 Z Z Z) ?_)))))))))
    refine DY (ah Z) (DY (ak 2 Z Z Z) ?_)
    refine DY (am (hdiv) Z ⟨H,H,Ed⟩) ?_
    refine DZ Z (DY (aq Z Z) (DY (aq Z Z) ?_))
    refine aX (T:=43) Z (ltN Z) (fun b7 => ?_)
    refine aX (T:=43) Z (ltN Z) (fun b8 => ?_)
    refine aC 1 Z Z Z Z Z (leN Z) Z (aC 0 Z Z Z Z Z (leN Z) Z (Ec (aa (ae (ae (aj (DY (ah Z) (DY (sT (by assumption) (ak 5 Z Z Z)) (DZ Z ?_)))))))))
    refine Eb (ak 0 Z Z Z) ?_
    refine Eb (am (hsg) Z ⟨H,Ed⟩) ?_
    refine Eb (sT Y (ej Z Z)) (DY (aV Z Z) (Ec (aa (aG Z (ae (aT 2 aS X S (DY (ak 1 Z Z Z) ?_)))))))
    refine DY (am (hof) Z ⟨H,Ed⟩) ?_
    refine Ec ?_
    refine DY (am (had) Z ⟨H,H,Ed⟩) ?_
    refine aC 1 Z Z Z Z Z (leN Z) Z (Ec (aa (aT 5 aS X S (DY (ah Z) (DY (ak 4 Z Z Z) ?_)))))
    refine DY (am (hmb) Z ⟨(cZ Y),(ao (by rw [decide_eq_false hm])),Ed⟩) ?_
    refine DY (ak 0 Z Z Z) ?_
    refine DY (am (hsu2) Z ⟨H,H,Ed⟩) ?_
    refine Ec (aC 0 Z Z Z Z Z (leN Z) Z (Ec (aa (ae (ae (aj (DY (ah Z) (DY (sT (by assumption) (ak 5 Z Z Z)) (DY (ah Z) ?_)))))))))
    refine DY (sF (by assumption) (ak 4 Z Z Z)) (DY (ka Z Z) (Ec (aa (aG Z (aj (DY (ak 1 Z Z Z) ?_))))))
    refine DY (am (hn2) Z ⟨H,Ed⟩) ?_
    refine aC 1 Z Z Z Z Z (leN Z) Z (Ec (aa (ae ?_)))
    refine kI [⟨5,b5,43,Lay.agg 2⟩,⟨4,b4,43,Lay.agg 2⟩] [_,_] [_,_,_,_] aS X Z ((dy 2 Z).trans (.cons _ ((dy 2 Z).trans (.cons _ (List.Perm.refl _))))) Z (And.intro Z (And.intro Z (trivial))) ?_
    refine ux (fun B=>ak 1 Z Z Z) Z Z ?_
    refine ux (fun B=>ak 0 Z Z Z) Z Z ?_
    refine us Z (us Z ?_)
    refine ux (fun B=>ai Z) Z Z ?_
    refine RunU.nil ⟨And.intro Z (And.intro Z (And.intro Z (And.intro Z (trivial)))),?_⟩
    refine cF (M' := [_,_,_,_,_,_]) Z (aa (aD ?_))
    refine jd Tryz.results127 (.cellB 1 Z Z Z (cj (by rw [k1,Int.natCast_add]; rfl))) (.cellB 0 Z Z Z (cj (by rw [k2,Int.ofNat_sub (Nat.le_of_lt hlt),Int.natAbs_of_nonneg (show 0≤b by omega)]))) (.tmp Z H)
 ·obtain ⟨k1,k2⟩:=g1 Y
  by_cases hm:b<0
  ·rw [if_pos hm] at k1
   refine ae (aj ?_)
   refine aM Z Z (ltN Z) (fun b2 => ?_)
   refine aM Z Z (ltN Z) (fun b3 => ?_)
   refine aX (T:=43) Z (ltN Z) (fun b4 => ?_)
   refine aX (T:=43) Z (ltN Z) (fun b5 => ?_)
   refine Ea Z (Ec (aa (ae (gY 9 aS X S (DY (ah Z) (DY (ak 3 Z Z Z) (DY (ah Z) (DY (sF (by assumption) (ak 3 Z Z Z)) ?_))))))))
   refine DY (am (hma) Z ⟨(cZ Y),(ao (by rw [decide_eq_false hn])),Ed⟩) ?_
   refine DY (ah Z) (DY (ak 2 Z Z Z) (DY (ah Z) (DY (sT (by assumption) (ak 2 Z Z Z)) (Ec ?_))))
   refine DY (am (hmb) Z ⟨(cZ Y),(ao (by rw [decide_eq_true hm])),Ed⟩) ?_
   refine aH 3 Z Z Z Z (aH 2 Z Z Z Z (Ec (aa (ae (ae (aj (DY (ay 2 Z Z) ?_)))))))
   refine DY (am (ef _) Z ⟨H,Ed⟩) ?_
   refine DY (sF (by assumption) (cn Z Z)) (Ec (aa (az Z (av (aa (ae (aj (DY (ah Z) (DY (ak 3 Z Z Z) ?_)))))))))
   refine DY (ah Z) (DY (ak 2 Z Z Z) ?_)
   refine DY (am (hdiv) Z ⟨H,H,Ed⟩) ?_
   refine DZ Z (DY (aq Z Z) (DY (aq Z Z) ?_))
   refine aX (T:=43) Z (ltN Z) (fun b7 => ?_)
   refine aX (T:=43) Z (ltN Z) (fun b8 => ?_)
   refine aC 1 Z Z Z Z Z (leN Z) Z (aC 0 Z Z Z Z Z (leN Z) Z (Ec (aa (ae (ae (aj (DY (ah Z) (DY (sF (by assumption) (ak 5 Z Z Z)) (DZ Z ?_)))))))))
   refine sg0 Z Z Z Z (sg0 Z Z Z Z (sg0 Z Z Z Z (DY (a6 Z Z) (Ec (aa (az Z (av (aa (ae ?_)))))))))
   refine ae (aj (DY (ah Z) (DY (sF (by assumption) (ak 5 Z Z Z)) (DY (ah Z) (DY (sT (by assumption) (ak 4 Z Z Z)) (DY (ka Z Z) (Ec (aa (aG Z ?_)))))))))
   refine aj (DY (ak 1 Z Z Z) ?_)
   refine DY (am (hn1) Z ⟨H,Ed⟩) ?_
   refine aC 1 Z Z Z Z Z (leN Z) Z (Ec (aa (ae ?_)))
   refine kI [⟨5,b5,43,Lay.agg 2⟩,⟨4,b4,43,Lay.agg 2⟩] [_,_] [_,_,_,_] aS X Z ((dy 2 Z).trans (.cons _ ((dy 2 Z).trans (.cons _ (List.Perm.refl _))))) Z (And.intro Z (And.intro Z (trivial))) ?_
   refine ux (fun B=>ak 1 Z Z Z) Z Z ?_
   refine ux (fun B=>ak 0 Z Z Z) Z Z ?_
   refine us Z (us Z ?_)
   refine ux (fun B=>ai Z) Z Z ?_
   refine RunU.nil ⟨And.intro Z (And.intro Z (And.intro Z (And.intro Z (trivial)))),?_⟩
   refine cF (M' := [_,_,_,_,_,_]) Z (aa (aD ?_))
   refine jd Tryz.results127 (.cellB 1 Z Z Z (cj (by rw [k1]))) (.cellB 0 Z Z Z (cj (by rw [k2]))) (.tmp Z H)
  ·rw [if_neg hm] at k1
   refine ae (aj ?_)
   refine aM Z Z (ltN Z) (fun b2 => ?_)
   refine aM Z Z (ltN Z) (fun b3 => ?_)
   refine aX (T:=43) Z (ltN Z) (fun b4 => ?_)
   refine aX (T:=43) Z (ltN Z) (fun b5 => ?_)
   refine Ea Z (Ec (aa (ae (gY 9 aS X S (DY (ah Z) (DY (ak 3 Z Z Z) (DY (ah Z) (DY (sF (by assumption) (ak 3 Z Z Z)) ?_))))))))
   refine DY (am (hma) Z ⟨(cZ Y),(ao (by rw [decide_eq_false hn])),Ed⟩) ?_
   refine DY (ah Z) (DY (ak 2 Z Z Z) (DY (ah Z) (DY (sF (by assumption) (ak 2 Z Z Z)) (Ec ?_))))
   refine DY (am (hmb) Z ⟨(cZ Y),(ao (by rw [decide_eq_false hm])),Ed⟩) ?_
   refine aH 3 Z Z Z Z (aH 2 Z Z Z Z (Ec (aa (ae (ae (aj (DY (ay 2 Z Z) ?_)))))))
   refine DY (am (ef _) Z ⟨H,Ed⟩) ?_
   refine DY (sF (by assumption) (cn Z Z)) (Ec (aa (az Z (av (aa (ae (aj (DY (ah Z) (DY (ak 3 Z Z Z) ?_)))))))))
   refine DY (ah Z) (DY (ak 2 Z Z Z) ?_)
   refine DY (am (hdiv) Z ⟨H,H,Ed⟩) ?_
   refine DZ Z (DY (aq Z Z) (DY (aq Z Z) ?_))
   refine aX (T:=43) Z (ltN Z) (fun b7 => ?_)
   refine aX (T:=43) Z (ltN Z) (fun b8 => ?_)
   refine aC 1 Z Z Z Z Z (leN Z) Z (aC 0 Z Z Z Z Z (leN Z) Z (Ec (aa (ae (ae (aj (DY (ah Z) (DY (sF (by assumption) (ak 5 Z Z Z)) (DZ Z ?_)))))))))
   refine sg0 Z Z Z Z (sg0 Z Z Z Z (sg0 Z Z Z Z (DY (a6 Z Z) (Ec (aa (az Z (av (aa (ae ?_)))))))))
   refine ae (aj (DY (ah Z) (DY (sF (by assumption) (ak 5 Z Z Z)) (DY (ah Z) (DY (sF (by assumption) (ak 4 Z Z Z)) (DY (ka Z Z) (Ec (aa (az Z ?_)))))))))
   refine av (aa (ae ?_))
   refine kI [⟨5,b5,43,Lay.agg 2⟩,⟨4,b4,43,Lay.agg 2⟩] [_,_] [_,_,_,_] aS X Z ((dy 2 Z).trans (.cons _ ((dy 2 Z).trans (.cons _ (List.Perm.refl _))))) Z (And.intro Z (And.intro Z (trivial))) ?_
   refine ux (fun B=>ak 1 Z Z Z) Z Z ?_
   refine ux (fun B=>ak 0 Z Z Z) Z Z ?_
   refine us Z (us Z ?_)
   refine ux (fun B=>ai Z) Z Z ?_
   refine RunU.nil ⟨And.intro Z (And.intro Z (And.intro Z (And.intro Z (trivial)))),?_⟩
   refine cF (M' := [_,_,_,_,_,_]) Z (aa (aD ?_))
   refine jd Tryz.results127 (.cellB 1 Z Z Z (cj (by rw [k1]))) (.cellB 0 Z Z Z (cj (by rw [k2]))) (.tmp Z H)
theorem rD (a b:Int) (ha:dk a) (hb:dk b):Ok Tryz.prog 93 [aO a,aO b] (aO (Nat.gcd a.natAbs b.natAbs)):=by
 refine Ok.enter Tryz.func93 Z Tryz.ntmps93 Z (fun w O => ?_)
 refine ae (aj ?_)
 refine aM Z Z (ltN Z) (fun b2 => ?_)
 refine aM Z Z (ltN Z) (fun b3 => ?_)
 refine aX (T:=43) Z (ltN Z) (fun b4 => ?_)
 refine Ec (aa (ae (ar (cm (Γ' := [(2,_),(3,_),(4,_)]) DT (SubM.refl _) ?_))))
 refine bw (σ:=Int × Int) (Γk := [(2,_),(3,_),(4,_)]) DT (fun p => []) (fun p M0=>((M0.set 1 (aW b3 43 (Lay.agg 2).sz [(0,Lay.agg 2,aO p.2)])).set 2 (aW b2 43 (Lay.agg 2).sz [(0,Lay.agg 2,aO p.1)]))) (fun p=>Nat.gcd p.1.natAbs p.2.natAbs=Nat.gcd a.natAbs b.natAbs∧dk p.1∧dk p.2) (fun p=>p.2.natAbs) ((a,b)) (⟨rfl,ha,hb⟩) DU (.keep DX (.keep (rC H) (.keep (rC H) (.nil)))) (fun p hp => ?_)
 refine bN (Γ' := [(2,_),(3,_),(4,_)]) (M' := [_,_,_]) Z Z ?_
 obtain ⟨x,y⟩:=p
 dsimp only at hp ⊢
 obtain ⟨p1,p2,p3⟩:=hp
 have hsg:=ef y
 by_cases hy:y=0
 ·have hs0:dQ y=0:=by rw [hy]; rfl
  rw [hy] at p1
  rw [← p1,Int.natAbs_zero,Nat.gcd_zero_right]
  have hx:(aL x.natAbs).length≤1099511627700:=p2
  have hm:=dJ false x.natAbs
  rw [if_neg S] at hm
  refine ae (ae (aj (DY (ak 1 Z Z Z) ?_)))
  refine DY (am (hsg) Z ⟨H,Ed⟩) ?_
  refine DY (sF Y (cE Z Z)) (Ec (aa (az Z (aY (aw (aw (aE (aa (ae ?_)))))))))
  refine aj (DY (ah Z) (DY (bt 2 0 1 Z Z Z Z Z) ?_))
  refine DY (am (hm) Z ⟨(cZ Y),H,Ed⟩) ?_
  refine aC 0 Z Z Z Z Z (leN Z) Z (Ec (aa (aD ?_)))
  refine aK Tryz.results93 (.cellB 0 Z Z Z H)
 ·have hs0:dQ y≠0:=by unfold dQ;rw [if_neg hy]; split <;> decide
  have hdm:=iF x y hy p2 p3
  have hlt:=tj x hy
  refine ae (ae (aj (DY (ak 1 Z Z Z) ?_)))
  refine DY (am (hsg) Z ⟨H,Ed⟩) ?_
  refine DY (sT (by assumption) (cE Z Z)) (Ec (aa (aG Z (av (aa (ar (ae (aj (DY (ak 2 Z Z Z) ?_)))))))))
  refine DY (ak 1 Z Z Z) ?_
  refine DY (am (hdm) Z ⟨H,H,Ed⟩) ?_
  refine DZ Z (DY (aq Z Z) (DY (aq Z Z) (DY (aq Z Z) ?_)))
  refine aX (T:=43) Z (ltN Z) (fun b5 => ?_)
  refine aX (T:=43) Z (ltN Z) (fun b6 => ?_)
  refine aC 1 Z Z Z Z Z (leN Z) Z (aC 0 Z Z Z Z Z (leN Z) Z (Ea Z (Ec (aa ?_))))
  refine z9 [⟨⟨3,b3,43,Lay.agg 2⟩,_⟩,⟨⟨2,b2,43,Lay.agg 2⟩,_⟩] [_,_,_] aS X ((dy 3 Z).trans (.cons _ ((dy 3 Z).trans (.cons _ (List.Perm.refl _))))) Z (And.intro Z (And.intro Z (trivial))) ?_
  refine wl 0 Z X (fun B=>ak 0 Z Z Z) Z ?_
  refine wx (fun B=>ak 0 Z Z Z) Z ?_
  refine ws Z (ws Z ?_)
  refine RunY.nil ⟨And.intro Z (And.intro Z (And.intro Z (And.intro Z (trivial)))),?_⟩
  refine cF (M' := [_,_,_,_,_]) Z (aB (vi ((dy 4 Z).trans (.cons _ ((dy 0 Z).trans (.cons _ ((dy 0 Z).trans (.cons _ (List.Perm.refl _))))))) ?_))
  refine aN ((y,x % y)) (⟨by rw [← p1]; exact yA x y,p3,jM p3 (Nat.le_of_lt hlt)⟩) (by assumption) DU (.keep DX (.keep DX (.keep DX (SubM.nilR _))))
end Tor
end
section
namespace Tor
open Go Go.RowKit Go.Proofs
attribute [local irreducible] J PJ aP one slT cv bA bM exT cq eP aW aU slV VT.le Ret bO
theorem vS (n d:Int) (hd:d≠0) (hn:dk n) (hds:dk d):Ok Tryz.prog 94 [aO n,aO d] (bM [bx (Rat.divInt n d),one (.int .i64 0)]):=by
 have hsi:=ef d
 have hn1:=jl n hn.small
 have hd1:=jl d hds.small
 have e1:dk (-n):=jM hn Y
 have e2:dk (-d):=jM hds Y
 have g0:=yx (n:=n) hd
 have g1:dk ((Nat.gcd n.natAbs d.natAbs:Nat):Int):=jM hds (by rw [Int.natAbs_natCast]; exact Nat.le_of_dvd Y (Nat.gcd_dvd_right _ _))
 unfold bx fO
 refine Ok.enter Tryz.func94 Z Tryz.ntmps94 Z (fun w O => ?_)
 by_cases h:d<0
 ·obtain ⟨l1,l2⟩:=vR (n:=n) h
  have hs:dQ d = -1:=by unfold dQ;rw [if_neg hd,if_pos h]
  have hg:=rD (-n) (-d) e1 e2
  rw [Int.natAbs_neg,Int.natAbs_neg] at hg
  have hm1:=iF (-n) _ g0 e1 g1
  have hm2:=iF (-d) _ g0 e2 g1
  have d1:((Nat.gcd n.natAbs d.natAbs:Nat):Int)∣n:=Int.gcd_dvd_left ..
  have d2:((Nat.gcd n.natAbs d.natAbs:Nat):Int)∣d:=Int.gcd_dvd_right ..
  rw [Int.ediv_neg, ← Int.neg_ediv_of_dvd d1] at l1
  rw [Int.ediv_neg, ← Int.neg_ediv_of_dvd d2] at l2
  refine ae (aj ?_)
  refine aM Z Z (ltN Z) (fun b2 => ?_)
  refine aM Z Z (ltN Z) (fun b3 => ?_)
  refine aF (T:=45) Z Z Z (fun b4 => ?_)
  refine Ea Z (Ec (aa (ae (ae (aj (DY (ay 1 Z Z) ?_))))))
  refine DY (am (hsi) Z ⟨H,Ed⟩) ?_
  refine DY (sF Y (cn Z Z)) (Ec (aa (az Z (av (aa (ae (ae (aj (DY (ay 1 Z Z) ?_)))))))))
  refine DY (am (hsi) Z ⟨H,Ed⟩) ?_
  refine DY (sT Y (a7 Z Z)) (Ec (aa (aG Z (gY 3 aS X S (DY (ay 2 Z Z) ?_)))))
  refine DY (am (hn1) Z ⟨H,Ed⟩) ?_
  refine DY (ay 1 Z Z) (Ec ?_)
  refine DY (am (hd1) Z ⟨H,Ed⟩) ?_
  refine aH 2 Z Z Z Z (aH 1 Z Z Z Z (Ec (aa (ae (aj (DY (ay 2 Z Z) (DY (ay 1 Z Z) ?_)))))))
  refine DY (am (hg) Z ⟨H,H,Ed⟩) ?_
  refine aX (T:=43) Z (ltN Z) (fun b6 => ?_)
  refine aC 0 Z Z Z Z Z (leN Z) Z (Ec (aa (ae (aj (DY (ay 3 Z Z) (DY (ak 0 Z Z Z) ?_))))))
  refine DY (am (hm1) Z ⟨H,H,Ed⟩) ?_
  refine DZ Z (DY (aq Z Z) (DY (aq Z Z) (DY (aq Z Z) ?_)))
  refine aX (T:=43) Z (ltN Z) (fun b7 => ?_)
  refine aX (T:=43) Z (ltN Z) (fun b8 => ?_)
  refine aC 1 Z Z Z Z Z (leN Z) Z (aC 0 Z Z Z Z Z (leN Z) Z (Ea Z (Ec (aa (ae (aj (DY (ay 4 Z Z) (DY (ak 2 Z Z Z) ?_))))))))
  refine DY (am (hm2) Z ⟨H,H,Ed⟩) ?_
  refine DZ Z (DY (aq Z Z) (DY (aq Z Z) (DY (aq Z Z) ?_)))
  refine aX (T:=43) Z (ltN Z) (fun b10 => ?_)
  refine aX (T:=43) Z (ltN Z) (fun b11 => ?_)
  refine aC 1 Z Z Z Z Z (leN Z) Z (aC 0 Z Z Z Z Z (leN Z) Z (Ea Z (Ec (aa (ae (aj (DY (ak 3 Z Z Z) (DY (ak 1 Z Z Z) (stB Z Z Z ?_)))))))))
  refine BuildK.cons Z Z Z (BuildK.cons Z Z Z (BuildK.nil (aH 5 Z Z Z Z (Ea Z (Ec (aa (aD ?_)))))))
  refine fw Tryz.results94 (.cellW 5 Z Z (jn l1 l2)) (.tmp Z H)
 ·obtain ⟨l1,l2⟩:=vQ (n:=n) (show 0<d by omega)
  have hs:dQ d=1:=by unfold dQ;rw [if_neg hd,if_neg h]
  have hg:=rD n d hn hds
  have hm1:=iF n _ g0 hn g1
  have hm2:=iF d _ g0 hds g1
  refine ae (aj ?_)
  refine aM Z Z (ltN Z) (fun b2 => ?_)
  refine aM Z Z (ltN Z) (fun b3 => ?_)
  refine aF (T:=45) Z Z Z (fun b4 => ?_)
  refine Ea Z (Ec (aa (ae (ae (aj (DY (ay 1 Z Z) ?_))))))
  refine DY (am (hsi) Z ⟨H,Ed⟩) ?_
  refine DY (sF Y (cn Z Z)) (Ec (aa (az Z (av (aa (ae (ae (aj (DY (ay 1 Z Z) ?_)))))))))
  refine DY (am (hsi) Z ⟨H,Ed⟩) ?_
  refine DY (sF Y (a7 Z Z)) (Ec (aa (az Z (av (aa (ae (aj (DY (ay 2 Z Z) (DY (ay 1 Z Z) ?_)))))))))
  refine DY (am (hg) Z ⟨H,H,Ed⟩) ?_
  refine aX (T:=43) Z (ltN Z) (fun b6 => ?_)
  refine aC 0 Z Z Z Z Z (leN Z) Z (Ec (aa (ae (aj (DY (ay 3 Z Z) (DY (ak 0 Z Z Z) ?_))))))
  refine DY (am (hm1) Z ⟨H,H,Ed⟩) ?_
  refine DZ Z (DY (aq Z Z) (DY (aq Z Z) (DY (aq Z Z) ?_)))
  refine aX (T:=43) Z (ltN Z) (fun b7 => ?_)
  refine aX (T:=43) Z (ltN Z) (fun b8 => ?_)
  refine aC 1 Z Z Z Z Z (leN Z) Z (aC 0 Z Z Z Z Z (leN Z) Z (Ea Z (Ec (aa (ae (aj (DY (ay 4 Z Z) (DY (ak 2 Z Z Z) ?_))))))))
  refine DY (am (hm2) Z ⟨H,H,Ed⟩) ?_
  refine DZ Z (DY (aq Z Z) (DY (aq Z Z) (DY (aq Z Z) ?_)))
  refine aX (T:=43) Z (ltN Z) (fun b10 => ?_)
  refine aX (T:=43) Z (ltN Z) (fun b11 => ?_)
  refine aC 1 Z Z Z Z Z (leN Z) Z (aC 0 Z Z Z Z Z (leN Z) Z (Ea Z (Ec (aa (ae (aj (DY (ak 3 Z Z Z) (DY (ak 1 Z Z Z) (stB Z Z Z ?_)))))))))
  refine BuildK.cons Z Z Z (BuildK.cons Z Z Z (BuildK.nil (aH 5 Z Z Z Z (Ea Z (Ec (aa (aD ?_)))))))
  refine fw Tryz.results94 (.cellW 5 Z Z (jn l1 l2)) (.tmp Z H)
theorem uE (a b c d:Int):Ok Tryz.prog 24 [fO a b,fO c d] (one (.bool (decide (a=c) && decide (b=d)))):=by
 have h1:=oS a c
 have h2:=oS b d
 unfold fO
 refine Ok.enter Tryz.func24 Z Tryz.ntmps24 Z (fun w O => ?_)
 by_cases c1:a=c
 ·rw [decide_eq_true c1] at h1 ⊢
  refine ae (aj ?_)
  refine aM Z Z (ltN Z) (fun b2 => ?_)
  refine aM Z Z (ltN Z) (fun b3 => ?_)
  refine Ea Z (Ec (aa (ae (aj (DY (ah Z) (DY (ak 1 Z Z Z) (DY (ah Z) (DY (ak 0 Z Z Z) ?_))))))))
  refine DY (am (h1) Z ⟨H,H,Ed⟩) ?_
  refine DZ Z (Eb (ah Z) (Eb (ak 1 Z Z Z) (Eb (ah Z) (Eb (ak 0 Z Z Z) ?_))))
  refine Eb (am (h2) Z ⟨H,H,Ed⟩) ?_
  refine DY (aV Z Z) (Ea Z (Ec (aa (aD ?_))))
  refine aK Tryz.results24 (.tmp Z H)
 ·rw [decide_eq_false c1] at h1 ⊢
  refine ae (aj ?_)
  refine aM Z Z (ltN Z) (fun b2 => ?_)
  refine aM Z Z (ltN Z) (fun b3 => ?_)
  refine Ea Z (Ec (aa (ae (aj (DY (ah Z) (DY (ak 1 Z Z Z) (DY (ah Z) (DY (ak 0 Z Z Z) ?_))))))))
  refine DY (am (h1) Z ⟨H,H,Ed⟩) ?_
  refine DZ Z (sg0 Z Z Z Z (sg0 Z Z Z Z (sg0 Z Z Z Z (sg0 Z Z Z Z (sg0 Z Z Z Z (DY (a6 Z Z) (Ea Z (Ec (aa ?_)))))))))
  refine aD ?_
  refine aK Tryz.results24 (.tmp Z H)
theorem kP (q r:Rat):Ok Tryz.prog 24 [bx q,bx r] (one (.bool (decide (q=r)))):=by
 have h:=uE q.num q.den r.num r.den
 have e:(decide (q.num=r.num) && decide ((q.den:Int)=(r.den:Int)))=decide (q=r):=by
  rw [← Bool.decide_and]
  exact decide_eq_decide.2 ⟨fun ⟨h1,h2⟩=>Rat.ext h1 Y,fun h=>by rw [h]; exact ⟨rfl,rfl⟩⟩
 rw [e] at h
 exact h
theorem ph (x:Int) (hx:bJ x):Ok Tryz.prog 92 [aO x] (one (.bool true)):=by
 have hx':(aL x.natAbs).length≤1099511627776:=hx
 have h:=qp (decide (x<0)) (aL x.natAbs) Y
 have e:fJ (decide (x<0)) (aL x.natAbs)=true:=by
  unfold fJ
  by_cases h0:(aL x.natAbs).length=0
  ·have:=gF h0
   rw [if_pos h0,decide_eq_false Y]; rfl
  ·rw [if_neg h0]
   have h1:x.natAbs≠0:=fun k=>h0 (by rw [k]; rfl)
   have:=th h1
   exact decide_eq_true Y
 rw [e] at h
 exact h
theorem uF (q:Rat) (h1:dk q.num) (h2:dk (q.den:Int)):Ok Tryz.prog 55 [bx q] (one (.bool true)):=by
 have v1:=ph q.num h1.small
 have v2:=ph (q.den:Int) h2.small
 have hsi:=ef (q.den:Int)
 have hd:=q.den_nz
 have hs:dQ (q.den:Int)=1:=by unfold dQ;rw [if_neg Y,if_neg Y]
 have hg:=rD q.num (q.den:Int) h1 h2
 rw [Int.natAbs_natCast,show Nat.gcd q.num.natAbs q.den=1 from q.reduced] at hg
 have ho:=fZ 1 S S
 have hc:=sV ((1:Nat):Int) 1 (gb W) (gb W)
 rw [show fp ((1:Nat):Int) 1=0 from rfl] at hc
 unfold bx fO
 refine Ok.enter Tryz.func55 Z Tryz.ntmps55 Z (fun w O => ?_)
 refine ae (aj ?_)
 refine aM Z Z (ltN Z) (fun b1 => ?_)
 refine Ea Z (Ec (aa (ae (ae (aj (DY (ah Z) (DY (ak 0 Z Z Z) ?_)))))))
 refine DY (am (v1) Z ⟨H,Ed⟩) ?_
 refine DY (bF Z) (DZ Z (Eb (ah Z) (Eb (ak 0 Z Z Z) ?_)))
 refine Eb (am (v2) Z ⟨H,Ed⟩) ?_
 refine Eb (bF Z) (DY (a6 Z Z) (DZ Z (Eb (ah Z) (Eb (ak 0 Z Z Z) ?_))))
 refine Eb (am (hsi) Z ⟨H,Ed⟩) ?_
 refine Eb (sF Y (a7 Z Z)) (DY (a6 Z Z) (Ec (aa (az Z (av (aa (ae (aj (DY (ah Z) ?_)))))))))
 refine DY (ak 0 Z Z Z) (DY (ah Z) (DY (ak 0 Z Z Z) ?_))
 refine DY (am (hg) Z ⟨H,H,Ed⟩) ?_
 refine DY (am (ho) Z ⟨H,Ed⟩) ?_
 refine DY (am (hc) Z ⟨H,H,Ed⟩) ?_
 refine DY (sT Y (cn Z Z)) (Ea Z (Ec (aa (aD ?_))))
 refine aK Tryz.results55 (.tmp Z H)
end Tor
end
section
namespace Tor
open Go Go.RowKit Go.Proofs
def lz (n:Nat) (x:Int):Prop:=(aL x.natAbs).length≤n
theorem lz.small {n:Nat} {x:Int} (h:lz n x) (hn:n≤1099511627776):bJ x:=Nat.le_trans h hn
theorem lz.small0 {n:Nat} {x:Int} (h:lz n x) (hn:n≤1099511627700):dk x:=Nat.le_trans h hn
theorem lz.mono {n m:Nat} {x:Int} (h:lz n x) (hn:n≤m):lz m x:=Nat.le_trans h hn
theorem yC {n:Nat} {x y:Int} (h:lz n y) (hl:x.natAbs≤y.natAbs):lz n x:=Nat.le_trans (bZ hl) h
theorem lz.lt {n:Nat} {x:Int} (h:lz n x):x.natAbs<4294967296^n:=Nat.lt_of_lt_of_le (da _) (Nat.pow_le_pow_right S h)
theorem fx {n m:Nat} {x y:Int} (hx:lz n x) (hy:lz m y):lz (n+m) (x*y):=cG (by
 rw [Int.natAbs_mul,Nat.pow_add]
 have h1:=hx.lt
 have h2:=hy.lt
 exact Nat.mul_lt_mul'' h1 h2)
theorem uG {n:Nat} {x y:Int} (hx:lz n x) (hy:lz n y):lz (n+1) (x+y):=cG (by
 have h1:=hx.lt
 have h2:=hy.lt
 rw [Nat.pow_succ]
 generalize 4294967296^n=z at *
 omega)
theorem Cl {n:Nat} {x:Int} (h:lz n x):lz n (-x):=yC h Y
theorem AB (n:Nat):lz n 0:=Nat.zero_le _
theorem uH {n:Nat} (h:1≤n):lz n 1:=Nat.le_trans (cG (k:=1) S) h
attribute [local irreducible] J PJ aP one slT cv bA bM exT cq eP aW aU slV VT.le Ret bO xO
attribute [local irreducible] aO cu
end Tor
end
section
namespace Tor
open Go Go.RowKit Go.Proofs
abbrev tk (l:List Nat):Nat→VT:=fun q=>one (.int .i64 (l.getD q 0:Nat))
theorem yD {sv:Option Nat} {T:TypeId} {cap c:Nat} {l:List Nat} : Own.le (aU sv T .one cap (l.length+1) (fun q=>if q<l.length then tk l q else one (.int .i64 (c:Nat)))) (aU sv T .one cap (l ++ [c]).length (tk (l ++ [c]))):=gC (by simp) (fun q hq=>by
 show _=one (Value.int .i64 ((l ++ [c]).getD q 0:Nat))
 by_cases h:q<l.length
 ·rw [if_pos h]; show one (Value.int .i64 (l.getD q 0:Nat))=_;simp [List.getD,List.getElem?_append_left h]
 ·have:q=l.length:=by omega
  subst this;rw [if_neg h]; simp [List.getD])
attribute [local irreducible] J PJ aP one slT cv bA bM exT cq eP aW aU slV VT.le Ret bO xO
attribute [local irreducible] aO cu
end Tor
end
section
namespace Tor
open Go Go.RowKit Go.Proofs
abbrev DI (l:List Nat):VT:=slT .one l.length (tk l)
attribute [local irreducible] J PJ aP one slT cv bA bM exT cq eP aW aU slV VT.le Ret bO xO
attribute [local irreducible] aO cu
end Tor
end
section
namespace Tor
open Go Go.RowKit Go.Proofs
theorem AC (n d:Int) (h:d≠0):(Rat.divInt n d).den≤d.natAbs:=by
 rw [Rat.den_divInt,if_neg h]
 exact Nat.div_le_self _ _
theorem AD (n d:Int):(Rat.divInt n d).num.natAbs≤n.natAbs:=by
 rw [Rat.num_divInt]
 refine Nat.le_trans (Int.natAbs_ediv_le_natAbs _ _) ?_
 rw [Int.natAbs_mul]
 have:d.sign.natAbs≤1:=by rw [Int.natAbs_sign]; split <;> omega
 exact Nat.le_trans (Nat.mul_le_mul_right _ this) Y
theorem tn (a b:Rat):a+b=Rat.divInt (a.num*b.den+b.num*a.den) (a.den*b.den):=by
 rw [Rat.add_def', ← Rat.divInt_ofNat]; simp
theorem tp (a b:Rat):a*b=Rat.divInt (a.num*b.num) (a.den*b.den):=by
 rw [Rat.mul_def', ← Rat.divInt_ofNat]; simp
theorem xb (a:Rat):Rat.divInt a.num a.den=a:=by
 rw [Rat.divInt_ofNat,Rat.mkRat_self]
theorem tq (a b:Rat):a / b=Rat.divInt (a.num*b.den) (a.den*b.num):=by
 rw [Rat.div_def,Rat.inv_def]
 conv=>lhs;rw [← xb a]
 rw [Rat.divInt_mul_divInt]
def qz (n:Nat) (q:Rat):Prop:=lz n q.num∧lz n (q.den:Int)
theorem qz.mono {n m:Nat} {q:Rat} (h:qz n q) (hn:n≤m):qz m q:=⟨h.1.mono hn,h.2.mono hn⟩
theorem lN {n:Nat} {a d:Int} (ha:lz n a) (hd:lz n d) (h:d≠0):qz n (Rat.divInt a d):=⟨yC ha (AD a d),yC hd (by rw [Int.natAbs_natCast]; exact AC a d h)⟩
theorem gO {n:Nat} {a:Int} (hn:1≤n) (h:lz n a):qz n (a:Rat):=⟨by rw [Rat.num_intCast]; exact h,by rw [Rat.den_intCast]; exact uH hn⟩
theorem gx (q:Rat):(q.den:Int)≠0:=by have:=q.den_nz;omega
theorem uI {n:Nat} {q:Rat} (h:qz n q):qz n (-q):=⟨by rw [Rat.neg_num]; exact Cl h.1,by rw [Rat.neg_den]; exact h.2⟩
theorem yE {n m:Nat} {p q:Rat} (hp:qz n p) (hq:qz m q):qz (n+m+1) (p+q):=by
 rw [tn]
 have h1:=fx hp.1 hq.2
 have h2:=fx hq.1 hp.2
 rw [Nat.add_comm m n] at h2
 exact lN (uG h1 h2) ((fx hp.2 hq.2).mono Y) (Int.mul_ne_zero (gx p) (gx q))
theorem uJ {n m:Nat} {p q:Rat} (hp:qz n p) (hq:qz m q):qz (n+m+1) (p - q):=by
 rw [Rat.sub_eq_add_neg]; exact yE hp (uI hq)
theorem fe {n m:Nat} {p q:Rat} (hp:qz n p) (hq:qz m q):qz (n+m) (p*q):=by
 rw [tp]
 exact lN (fx hp.1 hq.1) (fx hp.2 hq.2) (Int.mul_ne_zero (gx p) (gx q))
theorem mA {n m:Nat} {p q:Rat} (hp:qz n p) (hq:qz m q) (h:q≠0):qz (n+m) (p / q):=by
 rw [tq]
 exact lN (fx hp.1 hq.2) (fx hp.2 hq.1) (Int.mul_ne_zero (gx p) (fun e=>h (Rat.num_eq_zero.1 e)))
theorem AE (n:Nat) (hn:1≤n):qz n 0:=gO (a:=0) hn (AB n)
theorem Cm (n:Nat) (hn:1≤n):qz n 1:=gO (a:=1) hn (uH hn)
attribute [local irreducible] J PJ aP one slT cv bA bM exT cq eP aW aU slV VT.le Ret bO xO
attribute [local irreducible] aO
theorem jO (a:Int):Ok Tryz.prog 25 [aO a] (bx (a:Rat)):=by
 have h1:=fZ 1 S S
 unfold bx
 rw [Rat.num_intCast,Rat.den_intCast]
 refine Ok.enter Tryz.func25 Z Tryz.ntmps25 Z (fun w O => ?_)
 refine ae (aj ?_)
 refine lW Z Z (ltN Z) (fun b1 => ?_)
 refine aF (T:=45) Z Z Z (fun b2 => ?_)
 refine Ec (aa (ae (aT 2 aS X S (DY (ak 1 Z Z Z) ?_))))
 refine DY (am (h1) Z ⟨H,Ed⟩) ?_
 refine Ec (stB Z Z Z (BuildK.cons Z Z Z (BuildK.cons Z Z Z (BuildK.nil (aH 0 Z Z Z Z (Ec (aa (aD ?_))))))))
 refine aK Tryz.results25 (.cellW 0 Z Z (jn Z Z))
theorem eA (n:Int) (h1 : -9223372036854775808≤n) (h2:n≤9223372036854775807):Ok Tryz.prog 20 [one (.int .i64 n)] (bx (n:Rat)):=by
 have ho:=fZ n h1 h2
 refine Ok.enter Tryz.func20 Z Tryz.ntmps20 Z (fun w O => ?_)
 refine ae (aj ?_)
 refine aF (T:=45) Z Z Z (fun b2 => ?_)
 refine Ec (aa (ae (aj (DZ Z ?_))))
 refine DY (am (ho) Z ⟨H,Ed⟩) ?_
 refine DY (am (jO _) Z ⟨H,Ed⟩) ?_
 refine aH 0 Z Z Z Z (Ec (aa (aD ?_)))
 refine aK Tryz.results20 (.cellW 0 Z Z H)
theorem kQ (q:Rat):Ok Tryz.prog 19 [bx q] (one (.int .i64 (dQ q.num))):=by
 unfold bx fO
 refine Ok.enter Tryz.func19 Z Tryz.ntmps19 Z (fun w O => ?_)
 refine ae (aj ?_)
 refine aM Z Z (ltN Z) (fun b1 => ?_)
 refine Ea Z (Ec (aa (ae (aj (DY (ah Z) (DY (ak 0 Z Z Z) ?_))))))
 refine DY (am (ef _) Z ⟨H,Ed⟩) ?_
 refine Ea Z (Ec (aa (aD ?_)))
 refine aK Tryz.results19 (.tmp Z H)
theorem tr (q:Rat) (h:bJ q.num):Ok Tryz.prog 53 [bx q] (bx (-q)):=by
 have hn:=jl q.num h
 rw [← Rat.neg_num] at hn
 unfold bx fO
 refine Ok.enter Tryz.func53 Z Tryz.ntmps53 Z (fun w O => ?_)
 refine ae (aj ?_)
 refine aM Z Z (ltN Z) (fun b1 => ?_)
 refine aF (T:=45) Z Z Z (fun b2 => ?_)
 refine Ec (aa (ae (aT 6 aS X S (DY (ah Z) (DY (ak 1 Z Z Z) ?_)))))
 refine DY (am (hn) Z ⟨H,Ed⟩) ?_
 refine DY (ah Z) (DY (ak 1 Z Z Z) (stB Z Z Z (BuildK.cons Z Z Z (BuildK.cons Z Z Z (BuildK.nil (Ec (aH 0 Z Z Z Z (Ec (aa ?_)))))))))
 refine aD ?_
 refine aK Tryz.results53 (.cellW 0 Z Z (jn Z (by rw [Rat.neg_den])))
theorem rE (n d:Int) (hd:d≠0) (hn:dk n) (hds:dk d):Ok Tryz.prog 57 [aO n,aO d] (bx (Rat.divInt n d)):=by
 have h:=vS n d hd hn hds
 unfold bx fO at *
 refine Ok.enter Tryz.func57 Z Tryz.ntmps57 Z (fun w O => ?_)
 refine ae (aj ?_)
 refine lW Z Z (ltN Z) (fun b2 => ?_)
 refine lW Z Z (ltN Z) (fun b3 => ?_)
 refine aF (T:=45) Z Z Z (fun b4 => ?_)
 refine Ec (aa (ae (aj (DY (ak 2 Z Z Z) (DY (ak 1 Z Z Z) ?_)))))
 refine DY (am (h) Z ⟨H,H,Ed⟩) ?_
 refine DZ Z (DY (aq Z Z) (DY (aq Z Z) ?_))
 refine aF (T:=45) Z Z Z (fun b5 => ?_)
 refine aH 0 Z Z Z Z (Ea Z (Ec (aa (ae (aj (DY (ay 0 Z Z) (aH 1 Z Z Z Z (Ec (aa ?_)))))))))
 refine aD ?_
 refine aK Tryz.results57 (.cellW 1 Z Z H)
theorem pj (p q:Rat) (n m:Nat) (hp:qz n p) (hq:qz m q) (h:n+m+1≤1099511627700):Ok Tryz.prog 22 [bx p,bx q] (bx (p+q)):=by
 have m1:=fx hp.1 hq.2
 have m2:=fx hq.1 hp.2
 have m3:=fx hp.2 hq.2
 rw [Nat.add_comm m n] at m2
 have c1:=dR p.num q.den (hp.1.small Y) (hq.2.small Y)
 have c2:=dR q.num p.den (hq.1.small Y) (hp.2.small Y)
 have c3:=dR (p.den:Int) q.den (hp.2.small Y) (hq.2.small Y)
 have c4:=iB (p.num*q.den) (q.num*p.den) (m1.small Y) (m2.small Y)
 have c5:=rE (p.num*q.den+q.num*p.den) (p.den*q.den) (Int.mul_ne_zero (gx p) (gx q)) ((uG m1 m2).small0 h) (m3.small0 Y)
 rw [tn]
 unfold bx fO at *
 refine Ok.enter Tryz.func22 Z Tryz.ntmps22 Z (fun w O => ?_)
 refine ae (aj ?_)
 refine aM Z Z (ltN Z) (fun b2 => ?_)
 refine aM Z Z (ltN Z) (fun b3 => ?_)
 refine aF (T:=45) Z Z Z (fun b4 => ?_)
 refine Ec (aa (ae ?_))
 refine dU aS X X ?_
 refine ux (fun B=>ah Z) Z Z ?_
 refine ux (fun B=>ak 2 Z Z Z) Z Z ?_
 refine ux (fun B=>ah Z) Z Z ?_
 refine ux (fun B=>ak 1 Z Z Z) Z Z ?_
 refine uxk (c1) Z ⟨H,H,Ed⟩ Z ?_
 refine ux (fun B=>ah Z) Z Z ?_
 refine ux (fun B=>ak 1 Z Z Z) Z Z ?_
 refine ux (fun B=>ah Z) Z Z ?_
 refine ux (fun B=>ak 2 Z Z Z) Z Z ?_
 refine uxk (c2) Z ⟨H,H,Ed⟩ Z ?_
 refine uxk (c4) Z ⟨H,H,Ed⟩ Z ?_
 refine ua Z (us Z ?_)
 refine RunU.nil (fun γ => ?_)
 refine cF (M' := [_,_,_,_]) Z (aa (ae (aT 7 aS X S (DY (ak 0 Z Z Z) (DY (ah Z) (DY (ak 3 Z Z Z) (DY (ah Z) (DY (ak 2 Z Z Z) ?_))))))))
 refine DY (am (c3) Z ⟨H,H,Ed⟩) ?_
 refine DY (am (c5) Z ⟨H,H,Ed⟩) ?_
 refine Ec (aH 1 Z Z Z Z (Ec (aa (aD ?_))))
 refine aK Tryz.results22 (.cellW 1 Z Z H)
theorem pk (p q:Rat) (n m:Nat) (hp:qz n p) (hq:qz m q) (h:n+m+1≤1099511627700):Ok Tryz.prog 50 [bx p,bx q] (bx (p - q)):=by
 have c1:=tr q (hq.1.small Y)
 have c2:=pj p (-q) n m hp (uI hq) h
 rw [← Rat.sub_eq_add_neg] at c2
 refine Ok.enter Tryz.func50 Z Tryz.ntmps50 Z (fun w O => ?_)
 refine ae (aj ?_)
 refine aM Z Z (ltN Z) (fun b2 => ?_)
 refine aM Z Z (ltN Z) (fun b3 => ?_)
 refine aF (T:=45) Z Z Z (fun b4 => ?_)
 refine Ec (aa (ae (aT 4 aS X S (DY (ay 2 Z Z) (DY (ay 1 Z Z) ?_)))))
 refine DY (am (c1) Z ⟨H,Ed⟩) ?_
 refine DY (am (c2) Z ⟨H,H,Ed⟩) ?_
 refine Ec (aH 0 Z Z Z Z (Ec (aa (aD ?_))))
 refine aK Tryz.results50 (.cellW 0 Z Z H)
theorem eJ (p q:Rat) (n m:Nat) (hp:qz n p) (hq:qz m q) (h:n+m≤1099511627700):Ok Tryz.prog 21 [bx p,bx q] (bx (p*q)):=by
 have c1:=dR p.num q.num (hp.1.small Y) (hq.1.small Y)
 have c2:=dR (p.den:Int) q.den (hp.2.small Y) (hq.2.small Y)
 have c3:=rE (p.num*q.num) (p.den*q.den) (Int.mul_ne_zero (gx p) (gx q)) ((fx hp.1 hq.1).small0 h) ((fx hp.2 hq.2).small0 h)
 rw [tp]
 unfold bx fO at *
 refine Ok.enter Tryz.func21 Z Tryz.ntmps21 Z (fun w O => ?_)
 refine ae (aj ?_)
 refine aM Z Z (ltN Z) (fun b2 => ?_)
 refine aM Z Z (ltN Z) (fun b3 => ?_)
 refine aF (T:=45) Z Z Z (fun b4 => ?_)
 refine Ec (aa (ae (aT 11 aS X S (DY (ah Z) (DY (ak 2 Z Z Z) (DY (ah Z) (DY (ak 1 Z Z Z) ?_)))))))
 refine DY (am (c1) Z ⟨H,H,Ed⟩) ?_
 refine DY (ah Z) (DY (ak 2 Z Z Z) (DY (ah Z) (DY (ak 1 Z Z Z) ?_)))
 refine DY (am (c2) Z ⟨H,H,Ed⟩) ?_
 refine DY (am (c3) Z ⟨H,H,Ed⟩) ?_
 refine Ec (aH 0 Z Z Z Z (Ec (aa (aD ?_))))
 refine aK Tryz.results21 (.cellW 0 Z Z H)
theorem yF (p q:Rat) (n m:Nat) (hp:qz n p) (hq:qz m q) (h:n+m≤1099511627700) (h0:q≠0):Ok Tryz.prog 85 [bx p,bx q] (bM [bx (p / q),one (.int .i64 0)]):=by
 have c1:=dR p.num q.den (hp.1.small Y) (hq.2.small Y)
 have c2:=dR (p.den:Int) q.num (hp.2.small Y) (hq.1.small Y)
 have c3:=vS (p.num*q.den) (p.den*q.num) (Int.mul_ne_zero (gx p) (fun e=>h0 (Rat.num_eq_zero.1 e))) ((fx hp.1 hq.2).small0 h) ((fx hp.2 hq.1).small0 h)
 rw [tq]
 unfold bx fO at *
 refine Ok.enter Tryz.func85 Z Tryz.ntmps85 Z (fun w O => ?_)
 refine ae (aj ?_)
 refine aM Z Z (ltN Z) (fun b2 => ?_)
 refine aM Z Z (ltN Z) (fun b3 => ?_)
 refine aF (T:=45) Z Z Z (fun b4 => ?_)
 refine Ea Z (Ec (aa (ae (aT 13 aS X S (DY (ah Z) (DY (ak 2 Z Z Z) (DY (ah Z) (DY (ak 1 Z Z Z) ?_))))))))
 refine DY (am (c1) Z ⟨H,H,Ed⟩) ?_
 refine DY (ah Z) (DY (ak 2 Z Z Z) (DY (ah Z) (DY (ak 1 Z Z Z) ?_)))
 refine DY (am (c2) Z ⟨H,H,Ed⟩) ?_
 refine DY (am (c3) Z ⟨H,H,Ed⟩) ?_
 refine DY (aq Z Z) (DY (aq Z Z) (Ec (aH 0 Z Z Z Z (Ea Z (Ec (aa (aD ?_)))))))
 refine fw Tryz.results85 (.cellW 0 Z Z H) (.tmp Z H)
theorem qB (p q:Rat) (n m:Nat) (hp:qz n p) (hq:qz m q) (h:n+m≤1099511627700) (h0:q≠0):Ok Tryz.prog 48 [bx p,bx q] (bx (p / q)):=by
 have c:=yF p q n m hp hq h h0
 unfold bx fO at *
 refine Ok.enter Tryz.func48 Z Tryz.ntmps48 Z (fun w O => ?_)
 refine ae (aj ?_)
 refine aM Z Z (ltN Z) (fun b2 => ?_)
 refine aM Z Z (ltN Z) (fun b3 => ?_)
 refine aF (T:=45) Z Z Z (fun b4 => ?_)
 refine Ec (aa (ae (aj (DY (ay 2 Z Z) (DY (ay 1 Z Z) ?_)))))
 refine DY (am (c) Z ⟨H,H,Ed⟩) ?_
 refine DZ Z (DY (aq Z Z) (DY (aq Z Z) ?_))
 refine aF (T:=45) Z Z Z (fun b5 => ?_)
 refine aH 0 Z Z Z Z (Ea Z (Ec (aa (ae (aj (DY (ay 0 Z Z) (aH 1 Z Z Z Z (Ec (aa ?_)))))))))
 refine aD ?_
 refine aK Tryz.results48 (.cellW 1 Z Z H)
theorem nt (n d:Int) (hd:d≠0) (n1 : -9223372036854775808≤n) (n2:n≤9223372036854775807) (d1 : -9223372036854775808≤d) (d2:d≤9223372036854775807):Ok Tryz.prog 42 [one (.int .i64 n),one (.int .i64 d)] (bx (Rat.divInt n d)):=by
 have o1:=fZ n n1 n2
 have o2:=fZ d d1 d2
 have c:=rE n d hd (qy Y) (qy Y)
 refine Ok.enter Tryz.func42 Z Tryz.ntmps42 Z (fun w O => ?_)
 refine ae (aj ?_)
 refine aF (T:=45) Z Z Z (fun b4 => ?_)
 refine Ec (aa (ae (ae (aj (DZ Z (DY (sF (by assumption) (cn Z Z)) (Ec (aa (az Z ?_)))))))))
 refine av (aa (ae (aj (DZ Z ?_))))
 refine DY (am (o1) Z ⟨H,Ed⟩) ?_
 refine DZ Z ?_
 refine DY (am (o2) Z ⟨H,Ed⟩) ?_
 refine DY (am (c) Z ⟨H,H,Ed⟩) ?_
 refine aH 0 Z Z Z Z (Ec (aa (aD ?_)))
 refine aK Tryz.results42 (.cellW 0 Z Z H)
theorem kR (n m:Nat) (l k:Nat→Rat) (hn:n≤1048576):Ok Tryz.prog 14 [slT (.agg 4) n (fun i=>bx (l i)),slT (.agg 4) m (fun i=>bx (k i))] (one (.bool (decide (n=m ∧ ∀ i,i<n→l i=k i)))):=by
 refine Ok.enter Tryz.func14 Z Tryz.ntmps14 Z (fun w O => ?_)
 by_cases h:n=m
 ·subst h
  refine ae (aj (Ea Z (Ec (aa (ae (ae (aj (DZ Z (DY (aZ Z) ?_)))))))))
  refine DZ Z (DY (aZ Z) (DY (sF Y (cE Z Z)) (Ec (aa (az Z (av (aa (ae (ae ?_)))))))))
  refine aj (Ea Z (Ec (aa (ar (cm (Γ' := [(0,_),(1,_),(4,_),(5,_)]) DT (SubM.refl _) ?_)))))
  refine bw (σ:=Nat) (Γk := [(0,_),(1,_)]) DT (fun i => [(5,one (.int .i64 (i:Nat)))]) (fun i M0=>M0) (fun i=>i≤n ∧ ∀ q,q<i→l q=k q) (fun i=>n - i) (0) (⟨Nat.zero_le _,fun q h=>absurd h (Nat.not_lt_zero _)⟩) DU (.nil) (fun i hi => ?_)
  refine bN (Γ' := [(5,_),(0,_),(1,_)]) (M' := []) Z Z ?_
  obtain ⟨hi,hq⟩:=hi
  by_cases hin:i<n
  ·have hs:=kP (l i) (k i)
   by_cases he:l i=k i
   ·rw [decide_eq_true he] at hs
    refine ae (ae (aj (DZ Z (DZ Z (DY (aZ Z) (DY (sT Y (a7 Z Z)) (Ec (aa (aG Z ?_)))))))))
    refine av (aa (ae (ar (ae (aT 10 aS X S (DZ Z (DZ Z (DY (ax Z Z Y) (DY (aJ Z) ?_)))))))))
    refine DZ Z (DZ Z (DY (ax Z Z Y) (DY (aJ Z) ?_)))
    refine DY (am (hs) Z ⟨H,H,Ed⟩) ?_
    refine DY (bF Z) (Ec (Ec (aa (az Z (av (aB (aa (aj (DZ Z ?_)))))))))
    refine DY (bn _ 1 Z Z Y) (Ea Z (Ec ?_))
    refine aN (i+1) (⟨hin,fun q h=>by by_cases h3:q=i;exact h3▸he;exact hq q Y⟩) Y DU (.nil)
   ·rw [decide_eq_false he] at hs
    rw [decide_eq_false (fun h=>he (h.2 i hin))]
    refine ae (ae (aj (DZ Z (DZ Z (DY (aZ Z) (DY (sT Y (a7 Z Z)) (Ec (aa (aG Z ?_)))))))))
    refine av (aa (ae (ar (ae (aT 10 aS X S (DZ Z (DZ Z (DY (ax Z Z Y) (DY (aJ Z) ?_)))))))))
    refine DZ Z (DZ Z (DY (ax Z Z Y) (DY (aJ Z) ?_)))
    refine DY (am (hs) Z ⟨H,H,Ed⟩) ?_
    refine DY (bF Z) (Ec (Ec (aa (aG Z (ae (aj (Ea Z (Ec (aa ?_)))))))))
    refine aD (a9 (aI (aI (a9 (aI ?_)))))
    refine aK Tryz.results14 (.tmp Z H)
  ·rw [decide_eq_true ⟨rfl,fun q h=>hq q Y⟩]
   refine ae (ae (aj (DZ Z (DZ Z (DY (aZ Z) (DY (sF Y (a7 Z Z)) (Ec (aa (az Z ?_)))))))))
   refine aY (aw (aw (aE (aa (ae (aj (Ea Z (Ec (aa ?_)))))))))
   refine aD ?_
   refine aK Tryz.results14 (.tmp Z H)
 ·rw [decide_eq_false (fun k=>h k.1)]
  refine ae (aj (Ea Z (Ec (aa (ae (ae (aj (DZ Z (DY (aZ Z) ?_)))))))))
  refine DZ Z (DY (aZ Z) (DY (sT Y (cE Z Z)) (Ec (aa (aG Z (ae (aj (Ea Z (Ec ?_)))))))))
  refine aa (aD (aI ?_))
  refine aK Tryz.results14 (.tmp Z H)
theorem gc (n m:Nat) (l:Nat→Rat) (z:Nat) (hn:n≤1048576) (hz:z≤1099511627700) (hl : ∀ i,i<n→qz z (l i)):Ok Tryz.prog 18 [slT (.agg 4) n (fun i=>bx (l i)),one (.int .i64 (m:Nat))] (one (.bool (decide (n=m)))):=by
 refine Ok.enter Tryz.func18 Z Tryz.ntmps18 Z (fun w O => ?_)
 by_cases h:n=m
 ·subst h
  rw [decide_eq_true Z]
  refine ae (aj (Ea Z (Ec (aa (ae (ae (aj (DZ Z (DY (aZ Z) ?_)))))))))
  refine DZ Z (DY (sF Y (cE Z Z)) (Ec (aa (az Z (av (aa (ae (ae (aj ?_)))))))))
  refine Ea Z (Ec (aa (ar (cm (Γ' := [(0,_),(4,_),(5,_)]) DT (SubM.refl _) ?_))))
  refine bw (σ:=Nat) (Γk := [(0,_)]) DT (fun i => [(5,one (.int .i64 (i:Nat)))]) (fun i M0=>M0) (fun i=>i≤n) (fun i=>n - i) (0) (Nat.zero_le _) DU (.nil) (fun i hi => ?_)
  refine bN (Γ' := [(5,_),(0,_)]) (M' := []) Z Z ?_
  by_cases hin:i<n
  ·have hs:=uF (l i) ((hl i hin).1.small0 hz) ((hl i hin).2.small0 hz)
   refine ae (ae (aj (DZ Z (DZ Z (DY (aZ Z) (DY (sT Y (a7 Z Z)) (Ec (aa (aG Z ?_)))))))))
   refine av (aa (ae (ar (ae (aj (DZ Z (DZ Z (DY (ax Z Z Y) (DY (aJ Z) ?_)))))))))
   refine DY (am (hs) Z ⟨H,Ed⟩) ?_
   refine DY (bF Z) (Ec (aa (az Z (av (aB (aa (aj (DZ Z (DY (bn _ 1 Z Z Y) ?_)))))))))
   refine Ea Z (Ec ?_)
   refine aN (i+1) (hin) Y DU (.nil)
  ·refine ae (ae (aj (DZ Z (DZ Z (DY (aZ Z) (DY (sF Y (a7 Z Z)) (Ec (aa (az Z ?_)))))))))
   refine aY (aw (aw (aE (aa (ae (aj (Ea Z (Ec (aa ?_)))))))))
   refine aD ?_
   refine aK Tryz.results18 (.tmp Z H)
 ·rw [decide_eq_false h]
  refine ae (aj (Ea Z (Ec (aa (ae (ae (aj (DZ Z (DY (aZ Z) ?_)))))))))
  refine DZ Z (DY (sT Y (cE Z Z)) (Ec (aa (aG Z (ae (aj (Ea Z (Ec (aa ?_)))))))))
  refine aD (aI ?_)
  refine aK Tryz.results18 (.tmp Z H)
end Tor
end
