/-
  Theorems that the proofs of laws of this seat rest on.
  No condition.
-/
import Derived.Test.YtamglpeiacmooaaGreatZB5
set_option maxHeartbeats 20000000
set_option linter.unusedVariables false
set_option linter.unusedSimpArgs false
section
namespace Tor
open Go Go.RowKit Go.Proofs
theorem wc:VT.le (one (.slice none 0 0)) (kQ 0):=VT.le_trans gu (fA (l := []) (fun _ h=>by cases h) Z)
theorem sh {a b:Nat} : (kP a b<0)=(a<b):=by unfold kP;split <;> simp_all <;> (try split) <;> omega
theorem qc {b:Nat} (h:(aK b).length=1):(aK b).getD 0 0=b:=by
 have h1:=bI (l:=aK b) (k:=0) S
 rw [List.take_of_length_le S,bU] at h1
 simpa [lv] using h1.symm
theorem wd {v:Nat} (h:v<4294967296):VT.le (slT .one 1 fun _=>one (.int .u32 (v:Nat))) (kQ v) :=
 VT.le_trans (cL (m := [v].length) (ψ:=fun i=>one (.int .u32 ([v].getD i 0:Nat))) Z (fun q hq=>by
  have hq:q<1:=hq
  have:q=0:=by omega
  subst this;rfl)) (fA (l := [v]) (fun d hd=>by simp at hd;omega) (by simp [lv]))
def lA:Nat→Nat→List Nat
 | 0, _ => []
 | n + 1, v => v % 4294967296 :: lA n (v / 4294967296)
theorem mC : ∀ n v,(lA n v).length=n
 | 0, _ => rfl
 | n + 1, v => by rw [lA, List.length_cons, mC n]
theorem mD : ∀ n v,bB (lA n v)
 | 0, _ => fun d hd => by cases hd
 | n + 1, v => fun d hd => by
  rw [lA] at hd
  rcases List.mem_cons.1 hd with rfl | hd
  ·exact Nat.mod_lt _ Y
  ·exact mD n _ d hd
theorem mE : ∀ n v,v<4294967296^n→lv (lA n v)=v
 | 0, v, h => by simp at h; subst h; rfl
 | n + 1, v, h => by
  have:v / 4294967296<4294967296^n:=Nat.div_lt_of_lt_mul (by rw [Nat.mul_comm, ← Nat.pow_succ]; exact h)
  rw [lA,lv,mE n _ this]; omega
theorem qd : ∀ {z:List Nat},bB z→z=lA z.length (lv z)
 | [], _ => rfl
 | d :: z, h => by
  have hd:=h.head
  have ih:=qd h.tail
  rw [List.length_cons,lA,lv]
  rw [show (d+4294967296*lv z) % 4294967296=d by omega,show (d+4294967296*lv z) / 4294967296=lv z by omega, ← ih]
theorem uS {l:List Nat} {s:Nat} (hl:bB l) (hs:s<32):lv l*2^s<4294967296^(l.length+1):=by
 rw [Nat.pow_succ]
 have h1:2^s≤4294967296:=Nat.pow_le_pow_right (n:=2) Y (show s≤32 by omega)
 exact Nat.lt_of_lt_of_le (Nat.mul_lt_mul_of_pos_right (gf hl) (Nat.two_pow_pos s)) (Nat.mul_le_mul_left _ h1)
def xw (l:List Nat) (s:Nat) (hl:bB l) (hs:s<32):oO l s:=⟨(0,lA (l.length+1) (lv l*2^s)),mC _ _,mD _ _,mE _ _ (uS hl hs)⟩
theorem tq (l:List Nat) (s:Nat) (hl:bB l) (h1:l.length≤1099511627776) (hs:s<32):Ok Tryz.prog 124 [cg l,one (.int .i64 (s:Nat))] (slT .one (l.length+1) (fK (lA (l.length+1) (lv l*2^s)))) :=
 (qa l s hl h1 hs).ok fun p=>by
  have h:=qd p.2.2.1
  rw [p.2.1,p.2.2.2] at h
  rw [← h]
  exact Ent.sl List.mem_cons_self
theorem tr {z:List Nat} {q m:Nat} (h:q<m):fK z (Int.toNat 0+q)=fK (z.take m) q:=by
 have e:Int.toNat 0+q=q:=Nat.zero_add q
 rw [e]
 unfold fK
 rw [show (z.take m).getD q 0=z.getD q 0 by simp [List.getD,List.getElem?_take,h]]
theorem we {br:Option Nat} {T:TypeId} {n i s:Nat} {U:List Nat} (hi:i<n):Own.le (a8 br T .one n n (upd (fun q=>one (.int .u32 ((if q<i then (eC U s n).getD q 0 else 0:Nat):Int))) i (one (.int .u32 (((U.getD (i+1) 0*4294967296+U.getD i 0) / 2^s % 4294967296:Nat):Int)))))
  (a8 br T .one n n (fun q=>one (.int .u32 ((if q<i+1 then (eC U s n).getD q 0 else 0:Nat):Int)))):=cy (fun q hq=>by
 unfold upd
 by_cases h:q=i
 ·subst h;rw [if_pos Z,if_pos (Nat.lt_succ_self q),v9 U s hi]; rfl
 ·rw [if_neg h]
  dsimp only
  by_cases h2:q<i
  ·rw [if_pos h2,if_pos (Nat.lt_succ_of_lt h2)]
  ·rw [if_neg h2,if_neg S])
attribute [local irreducible] J PJ aQ one slT cA bG bZ exT cE eP aX a8 slV VT.le Ret bS
set_option maxRecDepth 20000 in
theorem tt (a b:Nat) (hb:b≠0) (ha:(aK a).length≤1099511627776):Ok Tryz.prog 115 [cg (aK a),cg (aK b)] (bZ [kQ (a / b),kQ (a % b)]):=by
 have hcl:=mu (aK a) ha
 have hcm:=jE a b
 refine Ok.enter Tryz.func115 Z Tryz.ntmps115 Z (fun w O => ?_)
 by_cases h1:a<b
 ·rw [Nat.div_eq_of_lt h1,Nat.mod_eq_of_lt h1]
  have hlt:kP a b<0:=by rw [sh]; exact h1
  refine ah (aj (An Z (An Z (Ap (aa (ah (ar (ah (aj ?_)))))))))
  refine Am Z (Am Z ?_)
  refine Al (am (hcm) Z ⟨W,W,Aq⟩) ?_
  refine Al (sT (by assumption) (aS Z Z)) (An Z (Ap (aa (az Z (ah (aj (Am Z ?_)))))))
  refine Al (am (hcl) Z ⟨W,Aq⟩) ?_
  refine An Z (An Z (Ap (aa (aG (a6 (aB ?_))))))
  refine gr Tryz.results115 (.tmp Z (wc)) (.tmp Z (cU _))
 ·have hlt : ¬ kP a b<0:=by rw [sh]; exact h1
  have hlen:=co (Nat.le_of_not_lt h1)
  by_cases h2:(aK a).length≤2
  ·have hw1:=sf (aK a) (bh a) h2
   have hw2:=sf (aK b) (bh b) S
   rw [bU] at hw1 hw2
   have a64:a<18446744073709551616:=Nat.lt_of_lt_of_le (dC a) (Nat.pow_le_pow_right (n:=4294967296) Y h2)
   have b64:b<18446744073709551616:=by omega
   have q64:a / b<18446744073709551616:=Nat.lt_of_le_of_lt (Nat.div_le_self _ _) a64
   have r64:a % b<18446744073709551616:=Nat.lt_of_le_of_lt (Nat.mod_le _ _) a64
   have hk1:=ke (a / b) q64
   have hk2:=ke (a % b) r64
   refine ah (aj (An Z (An Z (Ap (aa (ah (ar (ah (aj ?_)))))))))
   refine Am Z (Am Z ?_)
   refine Al (am (hcm) Z ⟨W,W,Aq⟩) ?_
   refine Al (sF (by assumption) (aS Z Z)) (An Z (Ap (aa (aA Z (ah (aj (Am Z (Al (be Z) (Al (sT S (eR Z Z)) ?_)))))))))
   refine An Z (Ap (aa (az Z (ah (aj (Am Z ?_))))))
   refine Al (am (hw1) Z ⟨W,Aq⟩) ?_
   refine Am Z ?_
   refine Al (am (hw2) Z ⟨W,Aq⟩) ?_
   refine An Z (An Z (Ap (aa (ah (aZ 9 aV X Y (Am Z (Am Z (Al (jz Z Z S S) ?_))))))))
   refine Al (am (hk1) Z ⟨W,Aq⟩) ?_
   refine Am Z (Am Z (Al (oc _ Z Z Z S) ?_))
   refine Al (am (hk2) Z ⟨W,Aq⟩) ?_
   refine An Z (Ap (An Z (Ap (aa (aG (a6 (aB ?_)))))))
   refine gr Tryz.results115 (.tmp Z W) (.tmp Z W)
  ·by_cases h3:(aK b).length=1
   ·have hb1:=qc h3
    have hd:=bk (bh b) 0
    have hsh:=uP (aK a) b (bh a) ha S S
    rw [bU] at hsh
    have hr:=Nat.mod_lt a (show 0<b by omega)
    refine ah (aj (An Z (An Z (Ap (aa (ah (ar (ah (aj ?_)))))))))
    refine Am Z (Am Z ?_)
    refine Al (am (hcm) Z ⟨W,W,Aq⟩) ?_
    refine Al (sF (by assumption) (aS Z Z)) (An Z (Ap (aa (aA Z (ah (aj (Am Z (Al (be Z) (Al (sF S (eR Z Z)) ?_)))))))))
    refine An Z (Ap (aa (aA Z (ah (aj (Am Z (Al (be Z) (Al (sT S (cj Z Z)) (An Z ?_)))))))))
    refine Ap (aa (az Z (ah (aj (Am Z (Am Z (Al (ed Z Z S S) (Al (aH Z) ?_))))))))
    refine Al (am (hsh) Z ⟨W,(aq (by rw [show (aK b).getD (Int.toNat 0) 0=b from hb1])),Aq⟩) ?_
    refine Am Z (Al (aN Z Z) (Al (aN Z Z) (An Z (An Z (Ap (aa (ah (aj (Am Z ?_)))))))))
    refine Am Z (pt Z Z Z Z (An Z (An Z (Ap (aa (aG (a6 (aB ?_))))))))
    refine gr Tryz.results115 (.tmp Z W) (.tmp Z (wd S))
   ·have hdb:aK b ≠ []:=fun h=>hb (by rw [← bU b,h]; rfl)
    obtain ⟨k,hk⟩ : ∃ k,(aK b).length=k+2:=⟨(aK b).length - 2,by have:=List.length_pos_iff.2 hdb;omega⟩
    obtain ⟨e,he⟩ : ∃ e,(aK a).length=k+2+e:=⟨(aK a).length - (k+2),by omega⟩
    have hx:=bk (bh b) ((aK b).length - 1)
    have S0:=xv hk
    rw [show k+1=(aK b).length - 1 by omega] at S0
    have hlz:=vY ((aK b).getD ((aK b).length - 1) 0) hx
    generalize 32 - gI ((aK b).getD ((aK b).length - 1) 0)=s at S0 hlz
    have s32:=S0.s32
    have hsv:=tq (aK b) s (bh b) S s32
    have hsu:=qa (aK a) s (bh a) ha s32
    refine ah (aj (An Z (An Z (Ap (aa (ah (ar (ah (aj ?_)))))))))
    refine Am Z (Am Z ?_)
    refine Al (am (hcm) Z ⟨W,W,Aq⟩) ?_
    refine Al (sF (by assumption) (aS Z Z)) (An Z (Ap (aa (aA Z (ah (aj (Am Z (Al (be Z) (Al (sF S (eR Z Z)) ?_)))))))))
    refine An Z (Ap (aa (aA Z (ah (aj (Am Z (Al (be Z) (Al (sF S (cj Z Z)) (An Z ?_)))))))))
    refine Ap (aa (aA Z (au (aD (aa (ah (aj (Am Z (Am Z ?_)))))))))
    refine Al (be Z) (Al (dt _ 1 Z Z S S) (Al (ax Z Z S) (Al (aH Z) ?_)))
    refine Al (am (hlz) Z ⟨W,Aq⟩) ?_
    refine Am Z (Al (be Z) (An Z (An Z (Ap (aa (ah (bV (Γ' := [(0,_),(1,_),(4,_),(5,_),(10,_),(11,_)]) Ag (SubM.refl _) ?_)))))))
    refine xh (σ:=oO (aK a) s) 2 (xw (aK a) s (bh a) s32) (fun p=>one (slV (some p.1.1) ((aK a).length+1) ((aK a).length+1))) (fun p => [a8 (some p.1.1) 90 .one ((aK a).length+1) ((aK a).length+1) (fK p.1.2)]) aV X Y ?_
    refine vx Z (fun s B=>ae Z) Z ?_
    refine vx Z (fun s B=>ae Z) Z ?_
    refine vc Z hsu (fun s=>rfl) ⟨W,W,Aq⟩ Z ?_
    refine vx Z (fun s B=>ae Z) Z ?_
    refine vx Z (fun s B=>ae Z) Z ?_
    refine vx Z (fun s B=>am hsv Z ⟨W,W,Aq⟩) Z ?_
    refine vx Z (fun s B=>ae Z) Z ?_
    refine vx Z (fun s B=>ae Z) Z ?_
    refine vx Z (fun s B=>fx Z Z Z Z (fun _=>rfl) S S S S) Z ?_
    refine vd Z X (fun s B=>ai Z) Z ?_
    refine vx Z (fun s B=>ai Z) Z ?_
    refine .nil (fun p => ?_)
    obtain ⟨⟨bu,U⟩,hu1,hu2,hu3⟩:=p
    dsimp only at hu1 hu2 hu3 ⊢
    rw [bU] at hu3
    rw [he] at hu1
    rw [bU,hk,he]
    obtain ⟨z,hz⟩ : ∃ z,z=lA (k+2+1) (b*2^s):=⟨_,rfl⟩
    have z1:=mC (k+2+1) (b*2^s)
    have z2:=mD (k+2+1) (b*2^s)
    have z3:=mE (k+2+1) (b*2^s) (Nat.lt_of_lt_of_le S0.hi (Nat.pow_le_pow_right Y S))
    rw [← hz] at z1 z2 z3 ⊢
    obtain ⟨v1,v2,v3,v4⟩:=S0.v z2 z1 z3
    refine nW (Γ' := [(0,slT .one (k+2+e) (fK (aK a))),(4,_),(5,_),(10,_),(11,one (.int .i64 ((k+2:Nat):Int))),(12,one (slV (some bu) (k+2+e+1) (k+2+e+1))),(13,cg (z.take (k+2)))]) (.cons Z (cL he (fun _ _=>rfl)) (.cons Z W (.cons Z W (.cons Z W (.cons Z W (.cons Z W (.cons Z ?_ .nil))))))) (SubM.refl _) ?_
    ·exact cL (by rw [v2]; omega) (fun q hq=>tr S)
    generalize z.take (k+2)=v at *
    have hV0:0<b*2^s:=Nat.mul_pos S (Nat.two_pow_pos s)
    have hVn:=S0.hi
    have hA:=S0.u he
    refine aa (ah (aj (Am Z (Al (be Z) (Am Z (Al (dt _ _ Z Z S S) (Al (bn _ 1 Z Z S) ?_)))))))
    refine cK (e+1) (e+1) Z Z S S (Nat.le_refl _) Z Z S Z Z (fun bz => ?_)
    refine An Z (Ap (aa (ah (ah (aj (Am Z (Al (be Z) (Am Z (Al (dt _ _ Z Z S S) ?_)))))))))
    refine An Z (Ap (aa (ar (bV (Γ' := [(4,_),(5,_),(10,_),(11,_),(12,_),(13,_),(14,_),(15,_)]) Ag (SubM.refl _) ?_))))
    refine bv (σ:=List Nat × List Nat × Nat) (Γk := [(4,_),(5,_),(10,_),(11,_),(12,_),(13,_),(14,_)]) Ag (fun p => [(15,one (.int .i64 ((p.2.2:Nat) - 1:Int)))]) (fun p M0=>((M0.set 0 (a8 (some bz) 90 .one (e+1) (e+1) (fK p.2.1))).set 1 (a8 (some bu) 90 .one (k+2+e+1) (k+2+e+1) (fK p.1)))) (fun p=>DivR (b*2^s) (a*2^s) (k+2) e p) (fun p=>p.2.2) ((U,List.replicate (e+1) 0,e+1)) (DivR.start hu2 hu1 hu3 hA) Ah (.keep (cy (fun q _=>by unfold fK;rw [cH]; rfl)) (.keep Ak (.nil))) (fun p hp => ?_)
    refine bK (Γ' := [(15,_),(4,_),(5,_),(10,_),(11,_),(12,_),(13,_),(14,_)]) (M' := [_,_]) Z Z ?_
    obtain ⟨U1,Q,c⟩:=p
    dsimp only at hp ⊢
    have hu1:U1.length=k+2+e+1:=hp.lu
    have hq1:Q.length=e+1:=hp.lq
    have hcl:c≤e+1:=hp.le
    refine ah (ah (aj (Am Z (Al (fd Z Z) (Ap (aa ?_))))))
    cases c with
    | zero =>
     refine lF Z S (aU (av (av (aC (aa (ah (aj (Am Z ?_))))))))
     obtain ⟨f1,f2⟩:=hp.finish S
     refine cK (k+2) (k+2) Z Z Z Z (Nat.le_refl _) Z Z S Z Z (fun br => ?_)
     refine An Z (Ap (aa (ah (ah (aj (Am Z (Am Z (Ap (aa ?_)))))))))
     refine ar (bV (Γ' := [(4,_),(5,_),(10,_),(12,_),(14,_),(16,_),(102,_),(103,_)]) Ag (SubM.refl _) ?_)
     refine bv (σ:=Nat) (Γk := [(4,_),(5,_),(10,_),(12,_),(14,_),(16,_),(102,_)]) Ag (fun i => [(103,one (.int .i64 (i:Nat)))]) (fun i M0=>(M0.set 0 (a8 (some br) 90 .one (k+2) (k+2) (fun q=>one (.int .u32 ((if q<i then (eC U1 s (k+2)).getD q 0 else 0:Nat):Int)))))) (fun i=>i≤k+2) (fun i=>k+2 - i) (0) (Nat.zero_le _) Ah (.keep Ak (.keep Ak (.keep Ak (.nil)))) (fun i hi => ?_)
     refine bK (Γ' := [(103,_),(4,_),(5,_),(10,_),(12,_),(14,_),(16,_),(102,_)]) (M' := [_,_,_]) Z Z (ah (aj (Al (aS Z Z) (Ap (aa (ah ?_))))))
     refine mY Z (fun hc => ?_) (fun hc => ?_)
     ·have hik:i<k+2:=by omega
      have g0:=bk (show bB U1 from hp.limU) i
      have g1:=bk (show bB U1 from hp.limU) (i+1)
      refine au (aa (ah (ar (ah (aj (Am Z (An Z (Ap (aa ?_)))))))))
      refine aZ 18 aV X Y (Am Z (Am Z (Am Z (Am Z (Al (bn _ 1 Z Z S) (Al (an Z Z S) (Al (aI 2 Z Z S) (Al (bL Z S) (Al (jC (s:=32) Z Z S S) ?_)))))))))
      refine Am Z (Am Z (Al (an Z Z S) (Al (aI 2 Z Z S) (Al (bL Z S) (Al (kN Z Z S S) (Am Z ?_))))))
      refine Al (mc Z Z (by (show _<64;omega))) ?_
      refine Al (cM Z) (Ap (Al (an Z Z S) ?_))
      (refine bD 0 Z Z Z ?_ Z ?_;omega)
      refine Ap (aD (aa (aj (Al (bn _ 1 Z Z S) (Am Z (Ap ?_))))))
      refine aJ (i+1) (by assumption) S Ah (.keep (we hik) (.keep Ak (.keep Ak (.nil))))
     ·have hik:i=k+2:=by omega
      subst hik
      refine aU (av (av (aC (aa (ah (aj (Am Z (Am Z (An Z ?_)))))))))
      refine An Z (Ap (aa (aG ?_)))
      have hlU:lv U1<4294967296^(k+2):=Nat.lt_trans (show lv (U1.drop 0)<_ from hp.lt) hVn
      have hrv:lv (eC U1 s (k+2))=a % b:=by rw [v7 hp.limU s32 (by dsimp only;omega) hlU,f2,Nat.mul_div_cancel _ (Nat.two_pow_pos s)]
      refine dz (t:=5) (i:=0) Z Z (dz (t:=4) (i:=0) Z Z ?_)
      refine gr Tryz.results115 (.tmp Z (VT.le_trans (cL (m:=Q.length) (ψ:=fK Q) hq1.symm (fun _ _=>rfl)) (fA hp.limQ f1))) (.tmp Z (VT.le_trans (cL (m:=(eC U1 s (k+2)).length) (ψ:=fK (eC U1 s (k+2))) (wa _ _ _).symm (fun q hq=>by rw [if_pos hq])) (fA (v8 _ _ _) hrv)))
    | succ j =>
     obtain ⟨p1,p2,p3,p4⟩:=hp.pre hVn
     have en:((j+1:Nat):Int) - 1=(j:Nat):=by omega
     rw [en]
     refine lE Z S (au (aa (ah (ar (aj (Am Z (Am Z (Am Z (Am Z ?_)))))))))
     refine Am Z (Am Z (Al (bn _ _ Z Z S) (Al (bn _ 1 Z Z S) (Al (ug Z Z Z S S S) (Am Z ?_)))))
     refine fR (Min := [a8 (some bu) 90 .one (k+2+e+1) (k+2+e+1) (fK U1)]) (Kp := [a8 (some bz) 90 .one (e+1) (e+1) (fK Q)]) (uQ bu (k+2+e+1) j (k+2+e+1 - j) k U1 v hp.limU v1 hu1 S v2 S v4 (by rw [v3]; exact p4)) Z ⟨aq (by rw [show j+(k+2)+1 - j=k+3 by omega]; rfl),W,Aq⟩ (List.Perm.swap _ _ _) Z Z (fun r => ?_)
     obtain ⟨U2,o1,o2,o3⟩:=r
     dsimp only
     refine t4 (List.Perm.swap _ _ _) (Al (an Z Z S) ?_)
     (refine bD 0 Z Z Z ?_ Z ?_;omega)
     refine Ap (aD (aa (aj (Am Z (Al (ey Z Z (aR S S)) (An Z (Ap ?_)))))))
     refine aJ ((U2,Q.set j (lv (win U1 j (k+3)) / lv v),j)) (hp.step hV0 hVn o1 o2 (by rw [o3,v3]) (by rw [v3])) (by (simp only []; omega)) Ah (.keep (fH S Z) (.keep Ak (.nil)))
end Tor
end
section
namespace Tor
open Go Go.RowKit Go.Proofs
theorem wg {A B:Nat} (hB:0<B) (h:A % B=0):(-(A:Int)) / B = -((A / B:Nat):Int)∧(-(A:Int)) % B=0:=by
 have hm:=Nat.div_add_mod A B
 refine (Int.ediv_emod_unique S).2 ⟨?_,by omega,by omega⟩
 have e:((B*(A / B)+A % B:Nat):Int)=(A:Int):=by rw [hm]
 rw [h] at e
 rw [Int.natCast_add,Int.natCast_mul] at e
 rw [Int.mul_neg]; omega
theorem wh {A B:Nat} (hB:0<B) (h:A % B≠0):(-(A:Int)) / B = -((A / B+1:Nat):Int)∧(-(A:Int)) % B=((B - A % B:Nat):Int):=by
 have hm:=Nat.div_add_mod A B
 have hl:=Nat.mod_lt A hB
 refine (Int.ediv_emod_unique S).2 ⟨?_,by omega,by omega⟩
 have e:((B*(A / B)+A % B:Nat):Int)=(A:Int):=by rw [hm]
 rw [Int.natCast_add,Int.natCast_mul] at e
 rw [Int.mul_neg,Int.natCast_add,Int.mul_add]
 omega
theorem si {a b:Int} (hb:b≠0):(0≤a→a / b=(if b<0 then -((a.natAbs / b.natAbs:Nat):Int) else ((a.natAbs / b.natAbs:Nat):Int))∧a % b=((a.natAbs % b.natAbs:Nat):Int)) ∧
  (a<0→a.natAbs % b.natAbs=0→a / b=(if b<0 then ((a.natAbs / b.natAbs:Nat):Int) else -((a.natAbs / b.natAbs:Nat):Int))∧a % b=0) ∧
  (a<0→a.natAbs % b.natAbs≠0→a / b=(if b<0 then ((a.natAbs / b.natAbs+1:Nat):Int) else -((a.natAbs / b.natAbs+1:Nat):Int))∧a % b=((b.natAbs - a.natAbs % b.natAbs:Nat):Int)):=by
 have hB:0<b.natAbs:=by omega
 generalize hA:a.natAbs=A
 generalize hBb:b.natAbs=B at *
 have key:(0≤a→a / (B:Int)=((A / B:Nat):Int)∧a % (B:Int)=((A % B:Nat):Int)) ∧
   (a<0→A % B=0→a / (B:Int) = -((A / B:Nat):Int)∧a % (B:Int)=0) ∧
   (a<0→A % B≠0→a / (B:Int) = -((A / B+1:Nat):Int)∧a % (B:Int)=((B - A % B:Nat):Int)):=by
  refine ⟨fun h => ?_,fun h h0 => ?_,fun h h0 => ?_⟩
  ·have:a=(A:Int):=by omega
   rw [this]; exact ⟨(Int.natCast_ediv A B).symm,(Int.natCast_emod A B).symm⟩
  ·have:a = -(A:Int):=by omega
   rw [this]; exact wg hB h0
  ·have:a = -(A:Int):=by omega
   rw [this]; exact wh hB h0
 by_cases hn:b<0
 ·have e:b = -(B:Int):=by omega
  simp only [if_pos hn]
  rw [e,Int.ediv_neg,Int.emod_neg]
  refine ⟨fun h => ?_,fun h h0 => ?_,fun h h0 => ?_⟩
  ·obtain ⟨k1,k2⟩:=key.1 h;exact ⟨by rw [k1],k2⟩
  ·obtain ⟨k1,k2⟩:=key.2.1 h h0;exact ⟨by rw [k1,Int.neg_neg],k2⟩
  ·obtain ⟨k1,k2⟩:=key.2.2 h h0;exact ⟨by rw [k1,Int.neg_neg],k2⟩
 ·have e:b=(B:Int):=by omega
  simp only [if_neg hn]
  rw [e]; exact key
theorem gW {v:Nat} (h:(aK v).length=0):v=0:=by
 rw [← bU v,List.length_eq_zero_iff.1 h]; rfl
theorem qe:aK 1 = [1]:=by rw [gc Y]; rfl
theorem uT:VT.le (slT .one 1 fun _=>one (.int .u32 1)) (cg (aK 1)):=by
 rw [qe]
 exact cL Z (fun q hq=>by
  have hq:q=0:=by omega
  subst hq;rfl)
theorem sj (p:Prop) [Decidable p] (x:Int):(if (!(true == decide p))=true then -x else x)=(if p then x else -x):=by by_cases h:p <;> simp [h]
theorem wi (p:Prop) [Decidable p] (x:Int):(if (!(false == decide p))=true then -x else x)=(if p then -x else x):=by by_cases h:p <;> simp [h]
attribute [local irreducible] J PJ aQ one slT cA bG bZ exT cE eP aX a8 slV VT.le Ret bS
set_option maxRecDepth 20000 in
theorem nG (a b:Int) (hb:b≠0) (ha:ci a) (hbs:ci b):Ok Tryz.prog 100 [bm a,bm b] (bZ [bm (a / b),bm (a % b),one (.int .i64 0)]):=by
 obtain ⟨g1,g2,g3⟩:=si (a:=a) hb
 have hb0:(aK b.natAbs).length≠0:=fun h=>hb (by have:=gW h;omega)
 have hB:b.natAbs≠0:=by omega
 have hdiv:=tt a.natAbs b.natAbs hB ha
 have ha':(aK a.natAbs).length≤1099511627776:=ha
 have hb':(aK b.natAbs).length≤1099511627776:=hbs
 have hlt:=Nat.mod_lt a.natAbs (Nat.pos_of_ne_zero hB)
 have hr0:(aK (a.natAbs % b.natAbs)).length=0↔a.natAbs % b.natAbs=0:=⟨gW,fun h=>by rw [h]; rfl⟩
 have hql:(aK (a.natAbs / b.natAbs)).length≤1099511627776:=Nat.le_trans (co (Nat.div_le_self _ _)) ha'
 have hmin:=ml b.natAbs (a.natAbs % b.natAbs) (Nat.le_of_lt hlt) hb'
 have hplus:=r4 (a.natAbs / b.natAbs) 1 hql (by rw [qe]; decide)
 have hv1:=fun n=>ee n (a.natAbs / b.natAbs)
 have hv2:=fun n=>ee n (a.natAbs % b.natAbs)
 have hv3:=fun n=>ee n (a.natAbs / b.natAbs+1)
 have hv4:=fun n=>ee n (b.natAbs - a.natAbs % b.natAbs)
 unfold bm at *
 refine Ok.enter Tryz.func100 Z Tryz.ntmps100 Z (fun w O => ?_)
 by_cases hn:a<0
 ·by_cases hr:a.natAbs % b.natAbs=0
  ·have hr1:=hr0.2 hr
   refine ah (aj ?_)
   refine aY Z Z (ltN Z) (fun b2 => ?_)
   refine aY Z Z (ltN Z) (fun b3 => ?_)
   refine aT (T:=55) Z (ltN Z) (fun b4 => ?_)
   refine aT (T:=55) Z (ltN Z) (fun b5 => ?_)
   refine An Z (Ap (aa (ah (aZ 7 aV X Y (Al (ab Z) (Al (ak 3 Z Z Z) ?_))))))
   refine Al (am (dE _) Z ⟨(cU _),Aq⟩) ?_
   refine Al (ab Z) (Al (ak 2 Z Z Z) ?_)
   refine Al (am (dE _) Z ⟨(cU _),Aq⟩) ?_
   refine An Z (Ap (An Z (Ap (aa (ah (ah (aj (Am Z (Al (be Z) ?_)))))))))
   refine Al (sF S (cj Z Z)) (Ap (aa (aA Z (au (aa (ah (aj (Am Z (Am Z ?_)))))))))
   refine Al (am (hdiv) Z ⟨W,W,Aq⟩) ?_
   refine Am Z (Al (aN Z Z) (Al (aN Z Z) (An Z (An Z (Ap (aa (ah (aj (Am Z ?_)))))))))
   refine Al (am (dE _) Z ⟨W,Aq⟩) ?_
   refine An Z (Ap (aa (ah (ah (aj (Al (ab Z) (Al (sT (by assumption) (ak 3 Z Z Z)) (Am Z (Ao (ae Z) ?_)))))))))
   refine Ao (be Z) (Ao (sF S (dS Z Z)) (Al (aE Z Z) (Ap (aa (aA Z (au (aa (ah (aj ?_)))))))))
   refine Al (ab Z) (Al (sT (by assumption) (ak 3 Z Z Z)) (Al (ab Z) (Al (ak 2 Z Z Z) (Al (f7 Z Z) (Am Z ?_)))))
   refine Al (am (hv1 _) Z ⟨W,W,Aq⟩) ?_
   refine Am Z ?_
   refine Al (am (hv2 _) Z ⟨W,(cU _),Aq⟩) ?_
   refine aF 1 Z Z Z Z Z (leN Z) Z (aF 0 Z Z Z Z Z (leN Z) Z (An Z (Ap (aa (aG ?_)))))
   refine jR Tryz.results100 (.cellB 1 Z Z Z (bY (by rw [(g2 hn hr).1]; exact sj _ _))) (.cellB 0 Z Z Z (bY (by rw [(g2 hn hr).2,hr]; rfl))) (.tmp Z W)
  ·have hr1:(aK (a.natAbs % b.natAbs)).length≠0:=fun h=>hr (hr0.1 h)
   refine ah (aj ?_)
   refine aY Z Z (ltN Z) (fun b2 => ?_)
   refine aY Z Z (ltN Z) (fun b3 => ?_)
   refine aT (T:=55) Z (ltN Z) (fun b4 => ?_)
   refine aT (T:=55) Z (ltN Z) (fun b5 => ?_)
   refine An Z (Ap (aa (ah (aZ 7 aV X Y (Al (ab Z) (Al (ak 3 Z Z Z) ?_))))))
   refine Al (am (dE _) Z ⟨(cU _),Aq⟩) ?_
   refine Al (ab Z) (Al (ak 2 Z Z Z) ?_)
   refine Al (am (dE _) Z ⟨(cU _),Aq⟩) ?_
   refine An Z (Ap (An Z (Ap (aa (ah (ah (aj (Am Z (Al (be Z) ?_)))))))))
   refine Al (sF S (cj Z Z)) (Ap (aa (aA Z (au (aa (ah (aj (Am Z (Am Z ?_)))))))))
   refine Al (am (hdiv) Z ⟨W,W,Aq⟩) ?_
   refine Am Z (Al (aN Z Z) (Al (aN Z Z) (An Z (An Z (Ap (aa (ah (aj (Am Z ?_)))))))))
   refine Al (am (dE _) Z ⟨W,Aq⟩) ?_
   refine An Z (Ap (aa (ah (ah (aj (Al (ab Z) (Al (sT (by assumption) (ak 3 Z Z Z)) (Am Z (Ao (ae Z) ?_)))))))))
   refine Ao (be Z) (Ao (sT S (dS Z Z)) (Al (aE Z Z) (Ap (aa (az Z (aj (Am Z ?_)))))))
   refine Al (am (dE _) Z ⟨W,Aq⟩) ?_
   refine pt Z Z Z Z ?_
   refine Al (am (hplus) Z ⟨W,(uT),Aq⟩) ?_
   refine Am Z (Am Z ?_)
   refine Al (am (hmin) Z ⟨W,W,Aq⟩) ?_
   refine An Z (An Z (Ap (aa (ah (aj (Al (ab Z) (Al (sT (by assumption) (ak 3 Z Z Z)) (Al (ab Z) (Al (ak 2 Z Z Z) ?_)))))))))
   refine Al (f7 Z Z) (Am Z ?_)
   refine Al (am (hv3 _) Z ⟨W,W,Aq⟩) ?_
   refine Am Z ?_
   refine Al (am (hv4 _) Z ⟨W,W,Aq⟩) ?_
   refine aF 1 Z Z Z Z Z (leN Z) Z (aF 0 Z Z Z Z Z (leN Z) Z (An Z (Ap (aa (aG ?_)))))
   refine jR Tryz.results100 (.cellB 1 Z Z Z (bY (by rw [(g3 hn hr).1]; exact sj _ _))) (.cellB 0 Z Z Z (bY (by rw [(g3 hn hr).2]; rfl))) (.tmp Z W)
 ·refine ah (aj ?_)
  refine aY Z Z (ltN Z) (fun b2 => ?_)
  refine aY Z Z (ltN Z) (fun b3 => ?_)
  refine aT (T:=55) Z (ltN Z) (fun b4 => ?_)
  refine aT (T:=55) Z (ltN Z) (fun b5 => ?_)
  refine An Z (Ap (aa (ah (aZ 7 aV X Y (Al (ab Z) (Al (ak 3 Z Z Z) ?_))))))
  refine Al (am (dE _) Z ⟨(cU _),Aq⟩) ?_
  refine Al (ab Z) (Al (ak 2 Z Z Z) ?_)
  refine Al (am (dE _) Z ⟨(cU _),Aq⟩) ?_
  refine An Z (Ap (An Z (Ap (aa (ah (ah (aj (Am Z (Al (be Z) ?_)))))))))
  refine Al (sF S (cj Z Z)) (Ap (aa (aA Z (au (aa (ah (aj (Am Z (Am Z ?_)))))))))
  refine Al (am (hdiv) Z ⟨W,W,Aq⟩) ?_
  refine Am Z (Al (aN Z Z) (Al (aN Z Z) (An Z (An Z (Ap (aa (ah (aj (Am Z ?_)))))))))
  refine Al (am (dE _) Z ⟨W,Aq⟩) ?_
  refine An Z (Ap (aa (ah (ah (aj (Al (ab Z) (Al (sF (by assumption) (ak 3 Z Z Z)) (Am Z (sg0 Z Z Z Z ?_)))))))))
  refine sg0 Z Z Z Z (sg0 Z Z Z Z (Al (ay Z Z) (Ap (aa (aA Z (au (aa (ah (aj ?_)))))))))
  refine Al (ab Z) (Al (sF (by assumption) (ak 3 Z Z Z)) (Al (ab Z) (Al (ak 2 Z Z Z) (Al (f7 Z Z) (Am Z ?_)))))
  refine Al (am (hv1 _) Z ⟨W,W,Aq⟩) ?_
  refine Am Z ?_
  refine Al (am (hv2 _) Z ⟨W,(cU _),Aq⟩) ?_
  refine aF 1 Z Z Z Z Z (leN Z) Z (aF 0 Z Z Z Z Z (leN Z) Z (An Z (Ap (aa (aG ?_)))))
  refine jR Tryz.results100 (.cellB 1 Z Z Z (bY (by rw [(g1 S).1]; exact wi _ _))) (.cellB 0 Z Z Z (bY (by rw [(g1 S).2]; rfl))) (.tmp Z W)
end Tor
end
section
namespace Tor
open Go Go.RowKit Go.Proofs
section
variable {P:Program} {E:Env} {Γ:Ctx} {M:Mem} {d:Option Tmp} {ty:TypeId} {pos:String} {af:Array Edge} {gd:Option (Nat × Bool)}
theorem xx {T T':TypeId} {x y:Operand} {a b:Nat} (hx:aO Γ x=some (one (.int .u32 (a:Int)))) (hy:aO Γ y=some (one (.int .u32 (b:Int)))) (h:a*b<4294967296) :
  aQ P E Γ M ⟨d, .binOp .mul T x y T',ty,pos,af,gd⟩ (one (.int .u32 ((a*b:Nat):Int))) :=
 lk hx hy (by
  rw [lZ, ← Int.natCast_mul]
  generalize a*b=z at *
  omega)
theorem tu {L:Lay} {k m j:Nat} {c c':Array Value} {x:Value} (h:bP (.agg m) c k=some (.agg c')) (hx:bP L c' j=some x):bP L c (k+j)=some x:=by
 simp only [bP] at h
 split at h
 ·rename_i hk
  cases h
  cases L with
  | one =>
   simp only [bP] at hx ⊢
   rw [cP] at hx
   split at hx
   ·exact hx
   ·cases hx
  | agg n =>
   simp only [bP] at hx ⊢
   have hs:(c.extract k (k+m)).size=m:=by simp;omega
   rw [hs] at hx
   split at hx
   ·rename_i hj
    rw [if_pos S]
    rw [← hx]
    congr 2
    apply Array.ext_getElem?
    intro i
    rw [cP,cP,cP]
    by_cases hi:i<n
    ·rw [if_pos hi,if_pos hi,if_pos S,Nat.add_assoc]
    ·rw [if_neg hi,if_neg hi]
   ·cases hx
 ·cases h
theorem aw {T T':TypeId} {L:Lay} [LayOf P T L] {x:Operand} {b o m m':Nat} {cs cs':cf} {φ:VT} (i k j:Nat) (hx:aO Γ x=some (one (.pointer (some ⟨b,o,none⟩)))) (hM:M[i]? = some (aX b T' m cs))
  (hl:fC cs k=some (.agg m',bG m' cs')) (ho:o=k+j) (hl2:fC cs' j=some (L, φ)):aQ P E Γ M ⟨d, .load T x,ty,pos,af,gd⟩ φ :=
 aQ.ofRun fun a w hb hf=>by
  have h1:a.eval x = .pointer (some ⟨b,o,none⟩):=hf x _ (by simp [Op.operands]) hx
  obtain ⟨c,hc,_,_,hcs⟩:=dZ hb hM
  obtain ⟨v,hx',c',rfl,hs',_,hcs'⟩:=hcs _ (ep hl)
  obtain ⟨y,hy,hp⟩:=hcs' _ (ep hl2)
  refine ⟨y,?_,hp⟩
  have h2:=tu hx' hy
  subst ho
  simp only [execOp,h1,Instr.loadAt,Instr.sureAddr,Sem.run_bind,Sem.run_pure,Result.andThen_ok,dI hc h2]
theorem wj {b:Nat} {T:TypeId} {m:Nat} {cs:cf} {φ:VT} (h:VT.le (bG m cs) φ):Own.le (aX b T m cs) (aX b T m [(0, .agg m, φ)]) :=
 ⟨rfl,fun g h' ⟨c,hb,hs,ha,hc⟩=>⟨c,hb,hs,ha,fun q hq=>by
  rw [List.mem_singleton.1 hq]
  exact ⟨.agg c,by subst hs;simp [bP],h _ _ ⟨c,rfl,hs,ha,hc⟩⟩⟩⟩
theorem iu {ops:Array Oper} {i:Nat} {os:List Oper} {K:List Deferred→Ctx→Mem→Prop} {D:List Deferred} {t:Nat} {φ ψ:VT} (ht:bJ Γ t=some φ) (hle:VT.le φ ψ) (h:Run P E ops false i D ((t, ψ) :: Γ) M os K):Run P E ops false i D Γ M os K :=
 .conv (fun a w hS=>hS.sub (fun s χ hs=>by
  rw [bq] at hs
  split at hs
  ·rename_i e;subst e;cases hs;exact ⟨φ,ht,hle⟩
  ·exact ⟨χ,hs,W⟩) (SubM.refl _)) h
end
attribute [local irreducible] J PJ aQ one slT cA bG bZ exT cE eP aX a8 slV VT.le Ret bS
theorem nH (l:List Nat) (d:Nat) (hl:bB l) (h1:l.length≤1099511627776) (hd0:0<d) (hd:d<4294967296):Ok Tryz.prog 112 [cg l,one (.int .u32 (d:Nat))] (bZ [m0 (lv l / d),one (.int .u32 ((lv l % d:Nat):Int))]):=by
 refine Ok.enter Tryz.func112 Z Tryz.ntmps112 Z (fun w O => ?_)
 refine ah (aj (An Z (An Z (Ap (aa (ah (aj (Am Z (Al (be Z) ?_)))))))))
 refine cK l.length l.length Z Z Z Z (Nat.le_refl _) Z Z S Z Z (fun bz => ?_)
 refine An Z (An Z (Ap (aa (ah (ah (aj (Am Z (Al (be Z) (Al (ey Z Z (aR S S)) ?_)))))))))
 refine An Z (Ap (aa (ar (bV (Γ' := [(0,_),(1,_),(4,_),(5,_),(6,_),(7,_),(8,_)]) Ag (SubM.refl _) ?_))))
 refine bv (σ:=List Nat × Nat × Nat) (Γk := [(0,_),(1,_),(4,_),(5,_),(6,_)]) Ag (fun s => [(8,one (.int .i64 ((s.2.1:Nat) - 1:Int))),(7,one (.int .u64 (s.2.2:Nat)))]) (fun s M0=>(M0.set 0 (a8 (some bz) 90 .one l.length l.length (fun q=>one (.int .u32 (s.1.getD q 0:Nat)))))) (fun s=>ShortR l d s) (fun s=>s.2.1) ((List.replicate l.length 0,l.length,0)) (ShortR.start hd0) Ah (.keep (cy (fun q _=>by rw [cH]; rfl)) (.nil)) (fun s hs => ?_)
 refine bK (Γ' := [(8,_),(7,_),(0,_),(1,_),(4,_),(5,_),(6,_)]) (M' := [_]) Z Z ?_
 obtain ⟨z,n,r⟩:=s
 dsimp only at hs ⊢
 refine ah (ah (aj (Am Z (Al (fd Z Z) (Ap (aa ?_))))))
 cases n with
 | zero =>
  obtain ⟨f1,f2⟩:=hs.finish
  have hlen:z.length=l.length:=hs.len
  have hr:r<d:=hs.r
  rw [← f1, ← f2]
  refine lF Z S (aU (av (av (aC (aa (ah (aj (Am Z (Am Z ?_)))))))))
  refine Al (cM Z) (An Z (An Z (Ap (aa (aG (dz (t:=4) (i:=0) Z Z ?_))))))
  refine gr Tryz.results112 (.tmp Z (VT.le_trans (cL (m:=z.length) (ψ:=fun i=>one (.int .u32 (z.getD i 0:Nat))) hlen.symm (fun q hq=>rfl)) (gy (l:=z) hs.lim Z S))) (.tmp Z (aq (by congr 1;omega)))
 | succ n =>
  have hx:=bk hl n
  have hr:r<d:=hs.r
  have hb:=ShortR.bound hx hr hd
  have hst:=hs.step hl hd
  have hn:n<l.length:=hs.le
  have hzn:n<z.length:=by have:=hs.len;dsimp only at this;omega
  have en:((n+1:Nat):Int) - 1=(n:Nat):=by omega
  rw [en]
  refine lE Z S (au (aa (ah (ar (ah (aj (Am Z (Al (gF (b:=4294967296) Z Z S) (Am Z ?_)))))))))
  refine Am Z (Al (ax Z Z S) (Al (aH Z) (Al (bL Z S) (Al (d5 Z Z S) (An Z (Ap (aa (ah (aj ?_)))))))))
  refine Am Z (Am Z (Am Z (Am Z (Al (bL Z S) (Al (jz Z Z S S) (Al (cM Z) (Al (an Z Z S) ?_)))))))
  (refine bD 0 Z Z Z ?_ Z ?_;omega)
  refine Ap (aa (aj (Am Z (Am Z (Al (bL Z S) (Al (oc _ Z Z Z S) (An Z (Ap (aD ?_)))))))))
  refine aa (aj (Am Z (Al (ey Z Z (aR S S)) (An Z (Ap ?_)))))
  refine aJ ((z.set n ((r*4294967296+l.getD n 0) / d),n,(r*4294967296+l.getD n 0) % d)) (hst) (by (simp only []; omega)) Ah (.keep (oN hzn (Nat.mod_eq_of_lt hb.2)) (.nil))
def tv (r d:Nat):Nat :=
 if (aK r).length=(aK d).length then max 1 ((aK r).getD ((aK r).length - 1) 0 / ((aK d).getD ((aK d).length - 1) 0+1))
 else (((aK r).getD ((aK r).length - 1) 0*4294967296+(aK r).getD ((aK r).length - 2) 0) / ((aK d).getD ((aK d).length - 1) 0+1))*4294967296^((aK r).length - (aK d).length - 1)
theorem jg {v:Nat} {n:Nat} (h:(aK v).length=n+1):v=lv ((aK v).take n)+4294967296^n*(aK v).getD n 0∧lv ((aK v).take n)<4294967296^n:=by
 have h1:=bI (l:=aK v) (k:=n) S
 rw [List.take_of_length_le S,bU] at h1
 exact ⟨h1,by have:=mB (bh v) n;rwa [← uO] at this⟩
theorem uU {r d:Nat} (hd:d≠0) (h:d≤r):0<tv r d∧tv r d*d≤r:=by
 have hlen:=co h
 have hdl:(aK d).length≠0:=fun k=>hd (gW k)
 obtain ⟨m,hm⟩ : ∃ m,(aK d).length=m+1:=⟨(aK d).length - 1,by omega⟩
 obtain ⟨e,he⟩ : ∃ e,(aK r).length=m+1+e:=⟨(aK r).length - (m+1),by omega⟩
 have hdt:=bk (bh d) m
 obtain ⟨d1,d2⟩:=jg hm
 unfold tv
 rw [hm,he]
 simp only [Nat.add_sub_cancel] at *
 generalize hx:(aK d).getD m 0=x at *
 generalize lv ((aK d).take m)=dl at *
 have hdlt:d<4294967296^m*(x+1):=by rw [Nat.mul_add]; omega
 cases e with
 | zero =>
  rw [if_pos Z]
  obtain ⟨r1,r2⟩:=jg he
  simp only [Nat.add_zero,Nat.add_sub_cancel] at *
  generalize (aK r).getD m 0=y at *
  generalize lv ((aK r).take m)=rl at *
  refine ⟨by omega,?_⟩
  rcases Nat.eq_zero_or_pos (y / (x+1)) with hq | hq
  ·rw [hq]; simpa using h
  ·rw [Nat.max_eq_right hq]
   have h1:y / (x+1)*d≤y / (x+1)*(4294967296^m*(x+1)):=Nat.mul_le_mul_left _ (Nat.le_of_lt hdlt)
   have h2:y / (x+1)*(4294967296^m*(x+1))=4294967296^m*(y / (x+1)*(x+1)):=by rw [Nat.mul_left_comm]
   have h3:4294967296^m*(y / (x+1)*(x+1))≤4294967296^m*y:=Nat.mul_le_mul_left _ (Nat.div_mul_le_self _ _)
   omega
 | succ e =>
  rw [if_neg S]
  rw [show m+1+(e+1) - 1=m+e+1 by omega,show m+1+(e+1) - 2=m+e by omega,show m+1+(e+1) - (m+1) - 1=e by omega]
  obtain ⟨r1,r2⟩:=jg (show (aK r).length=(m+e+1)+1 by omega)
  have r3:=bI (l:=aK r) (k:=m+e) S
  have hy0:(aK r).getD (m+e+1) 0≠0:=by
   intro hy
   have:=di (n:=r) (k:=m+e+1) (by rw [hy,Nat.mul_zero,Nat.add_zero] at r1;rw [r1]; exact r2)
   omega
  generalize (aK r).getD (m+e+1) 0=y at *
  generalize (aK r).getD (m+e) 0=y2 at *
  rw [r3] at r1
  generalize lv ((aK r).take (m+e))=rl at *
  have hqp:0<(y*4294967296+y2) / (x+1):=Nat.div_pos S S
  have hle:=Nat.div_mul_le_self (y*4294967296+y2) (x+1)
  generalize (y*4294967296+y2) / (x+1)=q at *
  refine ⟨Nat.mul_pos hqp (Nat.pow_pos Y),?_⟩
  have h1:q*4294967296^e*d≤q*4294967296^e*(4294967296^m*(x+1)):=Nat.mul_le_mul_left _ (Nat.le_of_lt hdlt)
  have h2:q*4294967296^e*(4294967296^m*(x+1))=4294967296^(m+e)*(q*(x+1)):=by
   rw [Nat.pow_add]; ac_rfl
  have h3:4294967296^(m+e)*(q*(x+1))≤4294967296^(m+e)*(y*4294967296+y2):=Nat.mul_le_mul_left _ hle
  have h4:4294967296^(m+e+1)*y=4294967296^(m+e)*(y*4294967296):=by rw [Nat.pow_succ]; ac_rfl
  rw [Nat.mul_add (4294967296^(m+e)) (y*4294967296) y2] at h3
  rw [h4] at r1
  rw [h2] at h1
  generalize 4294967296^(m+e)*(y*4294967296)=z1 at *
  generalize 4294967296^(m+e)*y2=z2 at *
  refine Nat.le_trans h1 (Nat.le_trans h3 ?_)
  rw [r1]
  exact Nat.le_trans (Nat.add_comm z1 z2▸Nat.le_refl _) (Nat.add_le_add_right (Nat.le_add_left _ _) _)
end Tor
end
section
namespace Tor
open Go Go.RowKit Go.Proofs
instance:Idle Tryz.prog 110:=Idle.of Tryz.func110 Z Tryz.ntmps110 Tryz.results110
instance:Idle Tryz.prog 78:=Idle.of Tryz.func78 Z Tryz.ntmps78 Tryz.results78
attribute [local irreducible] J PJ aQ one slT cA bG bZ exT cE eP aX a8 slV VT.le Ret bS
attribute [local irreducible] bX
theorem xy (r c:Nat) (hr:r≤1048576) (hc0:c≤1048576):OkM Tryz.prog 87 [one (.int .i64 r),one (.int .i64 c)] (gS r c) (fun s => [bO s.1.2.1 s.1.2.2 r c s.1.1,bg c s.1.1 (fun _ _=>0)]):=by
 refine OkM.enterD Tryz.func87 Z Tryz.ntmps87 Z (fun w O => ?_)
 have e1:max (r:Int) 0=r:=by omega
 have e2:max (c:Int) 0=c:=by omega
 refine ah (aj ?_)
 refine a7 (T:=29) Z Z Z (fun b => ?_)
 refine Ap (aa (ah (aj (rI Z (Ap (aa (ah (aj (Am Z ?_)))))))))
 refine Al (pn Z Z) (Am Z (Al (pn Z Z) (An Z (An Z (Ap (aa (ah (aj (Am Z ?_)))))))))
 rw [e1,e2]
 refine cK r r Z Z Z Z (Nat.le_refl _) Z Z S Z Z (fun bo => ?_)
 refine An Z (Ap (aa (ah (ah (aj (Am Z (Al (jx Z) (Am Z (Ap ?_)))))))))
 refine aa (ar ?_)
 refine iM (ConvM.rows0 (T:=55) (L := .agg 2) (c:=c) (φ:=fun _ _=>bm 0) _) ?_
 refine cO (σ:=List Nat) (fun s => [(0,one (.int .i64 r)),(1,one (.int .i64 c)),(4,one (.pointer (some ⟨b,0,none⟩))),(5,one (slV (some bo) r r)),(14,one (.int .i64 r)),(15,one (.int .i64 s.length))])
  (fun s => [a8 (some bo) 57 .one r r (fun q=>if q<s.length then one (slV (some (s.getD q 0)) c c) else bS),aX b 29 3 (dw #[Value.int IntKind.i64 0,Value.int IntKind.i64 0,Value.slice none 0 0] [(0,Lay.one),(1,Lay.one),(2,Lay.one)]),bg c s (fun _ _=>0)])
  (fun s=>s.length≤r) (fun s=>r - s.length) [] (Nat.zero_le _) Ai (.keep (eW fun q hq=>by rw [if_neg (by simp)]; exact kS _) (SubM.refl _)) (fun bs hk => ?_)
 refine ah (aj (Al (aS Z Z) (Ap (aa (ah ?_)))))
 refine a5 Z (fun hc => ?_) (fun hc => ?_) <;> simp only [decide_eq_true_eq,decide_eq_false_iff_not,ne_eq,Decidable.not_not] at hc
 ·refine au (aa (ah (ar (ah (aj (Am Z (An Z (Ap (aa ?_)))))))))
  refine aj (Am Z (Am Z (Am Z ?_)))
  refine cK c c Z Z Z Z (Nat.le_refl _) Z Z S Z Z (fun bz => ?_)
  (refine Al (an Z Z ?_) ?_;omega)
  (refine bD 1 Z Z Z ?_ Z ?_;omega)
  refine Ap (aD (aa (aj ?_)))
  (refine Al (cq Z Z (aR ?_ ?_)) ?_;omega;omega)
  refine Am Z (Ap (gv (ConvM.row (k:=2) Z) (bM (s:=bs) (bs ++ [bz]) (by simp;omega) (by simp;omega) (.cons Z W (.cons Z W (.cons Z W (.cons Z W (.cons Z W (.cons Z (aq (by simp)) .nil)))))) ?_)))
  refine .keep (cy (fun q hq => ?_)) (.keep Ak (.keep (jU fun i j hi hj => ?_) .nil))
  ·unfold upd
   by_cases h:q=bs.length
   ·subst h;simp
   ·rw [if_neg h]
    show (if q<bs.length then one (slV (some (bs.getD q 0)) c c) else bS)=_
    by_cases h2:q<bs.length
    ·rw [if_pos h2,if_pos (by simp;omega)]; simp [List.getElem?_append_left h2]
    ·rw [if_neg h2,if_neg (by simp;omega)]
  ·simp only
   split
   ·exact VT.le_refl _
   ·exact iS
 ·have hlen:bs.length=r:=by omega
  subst hlen
  refine aU (av (av (aC (aa (ah (aj (Am Z (Am Z (Am Z ?_)))))))))
  refine stB Z Z Z (BuildK.cons Z Z Z (BuildK.cons Z Z Z (BuildK.cons Z Z Z (BuildK.nil (aW 1 Z Z Z Z (Ap (aa (aG ?_))))))))
  refine n8 (iB ⟨(bs,some bo,bs.length),rfl,fun h=>by cases h⟩ Tryz.results87 (.cellW 1 Z Z W) ?_)
  refine .keep (cy fun q hq => ?_) (.drop (SubM.refl _))
  rw [if_pos hq]
attribute [local irreducible] bm
theorem qf (n:Nat) (hn:n≤1048576):Ok Tryz.prog 47 [one (.int .i64 n)] (bp n n (fun i j=>if i=j then 1 else 0)):=by
 refine Ok.enter Tryz.func47 Z Tryz.ntmps47 Z (fun w O => ?_)
 refine ah (aj ?_)
 refine a7 (T:=29) Z Z Z (fun b => ?_)
 refine Ap (aa (ah (aj (Am Z (Am Z ?_)))))
 refine eu (xy n n hn hn) Z ⟨W,W,Aq⟩ Z Z (fun s => ?_)
 obtain ⟨⟨bs,sv1,cap1⟩,hlen,hsv⟩:=s
 simp only at hlen hsv
 unfold gS
 refine a7 (T:=29) Z Z Z (fun b => ?_)
 refine aW 0 Z Z Z Z (Ap (aa (ah (ah (aj (Al (ab Z) (Al (ak 0 Z Z Z) (Al (jx Z) (Am Z ?_)))))))))
 refine Ap (aa (ar ?_))
 rename_i b2
 refine cO (σ:=Nat) (fun i => [(2,one (.pointer (some ⟨b2,0,none⟩))),(3,one (.pointer (some ⟨b,0,none⟩))),(10,one (.int .i64 n)),(11,one (.int .i64 (i:Nat)))])
  (fun i => [aX b 29 3 [(0, .one,one (.int .i64 n)),(1, .one,one (.int .i64 n)),(2, .one,one (slV sv1 n cap1))],bO sv1 cap1 n n bs,bg n bs (fun q k=>if q<i then (if q=k then 1 else 0) else 0),
   aX b2 29 3 (dw #[Value.int IntKind.i64 0,Value.int IntKind.i64 0,Value.slice none 0 0] [(0,Lay.one),(1,Lay.one),(2,Lay.one)])])
  (fun i=>i≤n) (fun i=>n - i) 0 (Nat.zero_le _) Ai (.keep Ak (.keep Ak (.keep (du fun i j hi hj=>by simp) (SubM.refl _)))) (fun i hi => ?_)
 refine ah (aj (Al (aS Z Z) (Ap (aa (ah ?_)))))
 refine a5 Z (fun hc => ?_) (fun hc => ?_) <;> simp only [decide_eq_true_eq,decide_eq_false_iff_not,ne_eq,Decidable.not_not] at hc
 ·obtain ⟨bo,rfl⟩:=jf hsv S
  refine au (aa (ah (ar (ah (aj (Am Z (An Z (Ap (aa ?_)))))))))
  refine aZ 8 aV X Y (Al (ab Z) (Al (ak 0 Z Z Z) (Am Z ?_)))
  (refine Al (an Z Z ?_) ?_;omega)
  (refine Al (aI 1 Z Z ?_) ?_;omega)
  refine Am Z ?_
  refine Al (am (wQ 1 Y Y) Z ⟨W,Aq⟩) ?_
  (refine Al (an Z Z ?_) ?_;omega)
  refine Ap ?_
  (refine a9 2 Z Z Z (bC ?_) ?_ Z ?_;omega;omega)
  refine Ap (aD (aa (aj ?_)))
  (refine Al (cq Z Z (aR ?_ ?_)) ?_;omega;omega)
  refine Am Z (Ap ?_)
  refine bM (s:=i) (i+1) (show _ from by omega) S Ai (.keep Ak (.keep Ak (.keep (dM fun q k hq hk => ?_) (SubM.refl _))))
  unfold eO
  by_cases h:q=i
  ·subst h
   by_cases h2:k=q
   ·subst h2;simp
   ·have h3 : ¬ q=k:=fun e=>h2 e.symm
    simp [h2,h3]
  ·have h3:q<i+1↔q<i:=by omega
   simp [h,h3]
 ·have hin:i=n:=by omega
  subst hin
  refine aU (av (av (aC (aa (ah (aj (Al (aL 0 Z Z) (aW 3 Z Z Z Z (Ap ?_)))))))))
  refine aa (aG ?_)
  have hperm : ∀ (x y z u:Own), [x,y,z,u].Perm ([y,z] ++ [x,u]):=fun x y z u=>(List.Perm.swap y x _).trans (List.Perm.cons y (List.Perm.swap z x _))
  refine fQ [bO sv1 cap1 i i bs,bg i bs (fun q k=>if q<i then (if q=k then 1 else 0) else 0)] (hperm _ _ _ _) (.keep (vF.refl _) (.keep (vF.box (jd hlen ⟨by simp,by simp,by simp⟩)) .nil)) (qN.refl _) ?_
  refine aP Tryz.results47 (.cellW 1 Z Z ?_)
  exact kn fun a b ha hb=>by simp [ha]
end Tor
end
section
namespace Tor
open Go Go.RowKit Go.Proofs
def nI (ok:Bool) (e:Int) (r c:Nat) (F:Nat→Nat→Int):VT:=bZ [bp (if ok then r else 0) (if ok then c else 0) F,one (.int .i64 (if ok then 0 else e))]
theorem qg (F:Nat→Nat→Int):VT.le (bG 3 (dw #[Value.int IntKind.i64 0,Value.int IntKind.i64 0,Value.slice none 0 0] [(0,Lay.one),(1,Lay.one),(2,Lay.one)])) (bp 0 0 F):=by
 unfold bp
 refine ej (fun q hq => ?_)
 rcases List.mem_cons.1 hq with rfl | hq
 ·exact ⟨_,List.mem_cons_self,W⟩
 rcases List.mem_cons.1 hq with rfl | hq
 ·exact ⟨_,List.mem_cons_of_mem _ List.mem_cons_self,W⟩
 rcases List.mem_cons.1 hq with rfl | hq
 ·exact ⟨_,List.mem_cons_of_mem _ (List.mem_cons_of_mem _ List.mem_cons_self),gu⟩
 ·cases hq
attribute [local irreducible] J PJ aQ one slT cA bG bZ exT cE eP aX a8 slV VT.le Ret bS
attribute [local irreducible] bm
end Tor
end
section
namespace Tor
open Go Go.RowKit Go.Proofs
def e9 (F:Nat→Nat→Int) (i j:Nat):Nat→Nat→Int:=fun q k=>if q<i∨(q=i∧k<j) then F q k else 0
theorem tw {T:TypeId} {c:Nat} {bs:List Nat} {F:Nat→Nat→Int} {i j:Nat} (x:Int) (hx:x=F i j) :
  Own.le (bX T (.agg 2) c bs (eO (fun q k=>bm (e9 F i j q k)) i j (bm x))) (bX T (.agg 2) c bs (fun q k=>bm (e9 F i (j+1) q k))):=by
 subst hx
 refine dM fun q k hq hk => ?_
 unfold eO e9
 by_cases h:q=i∧k=j
 ·obtain ⟨rfl,rfl⟩:=h;simp
 ·rw [if_neg h]
  have e:(q<i∨q=i∧k<j+1)↔(q<i∨q=i∧k<j):=by omega
  simp only [e]
theorem mF {c:Nat} {bs:List Nat} {F:Nat→Nat→Int} {i:Nat} : Own.le (bg c bs (e9 F i c)) (bg c bs (e9 F (i+1) 0)):=by
 refine du fun q k hq hk => ?_
 unfold e9
 have e:(q<i∨q=i∧k<c)↔(q<i+1∨q=i+1∧k<0):=by omega
 simp only [e]
attribute [local irreducible] J PJ aQ one slT cA bG bZ exT cE eP aX a8 slV VT.le Ret bS
attribute [local irreducible] bm bX
end Tor
end
section
namespace Tor
open Go Go.RowKit Go.Proofs
attribute [local irreducible] J PJ aQ one slT cA bG bZ exT cE eP aX a8 slV VT.le Ret bS
theorem qh (ra ca:Nat) (F:Nat→Nat→Int) (rb cb:Nat) (G:Nat→Nat→Int) (h1:ra≤1048576) (h2:ca≤1048576) (h4:cb≤1048576) (hF : ∀ i j,cx (F i j)) (hG : ∀ i j,cx (G i j)) :
  Ok Tryz.prog 45 [bp ra ca F,bp rb cb G] (nI (decide (ca=rb)) 50 ra cb (fG ca F G)):=by
 unfold nI
 refine Ok.enterD Tryz.func45 Z Tryz.ntmps45 Z (fun w O => ?_)
 unfold bp
 refine ah (aj ?_)
 refine aY Z Z (ltN Z) (fun b => ?_)
 refine aY Z Z (ltN Z) (fun b => ?_)
 refine a7 (T:=29) Z Z Z (fun b => ?_)
 refine An Z (Ap (aa (ah (aj (rI Z (Ap (aa (ah (ah ?_)))))))))
 refine aj (Al (aL 2 Z Z) (Al (aL 1 Z Z) (stS Z Z Z Z (PartsK.cons Z (PartsK.cons Z (PartsK.nil ?_))))))
 refine Al (am (nB ra ca F rb cb G) Z ⟨mv,Aq⟩) ?_
 refine Al (bx Z) (Am Z (Ao (ab Z) (Ao (ak 2 Z Z Z) (Ao (ab Z) (Ao (ak 1 Z Z Z) (Ao (dy Z Z) (Al (ay Z Z) (Ap (aa ?_)))))))))
 rename_i ba bb
 refine a5 Z (fun hc => ?_) (fun hc => ?_) <;> simp only [decide_eq_true_eq,decide_eq_false_iff_not,ne_eq,Decidable.not_not] at hc
 ·have hne : ¬ ca=rb:=by omega
  refine ah (aj (stB Z Z Z (BuildK.nil (aW 0 Z Z Z Z (An Z (Ap (aa (aG (aB ?_)))))))))
  refine n8 (gr Tryz.results45 (.cellW 0 Z Z ?_) (.tmp Z (aq ?_)))
  ·rw [decide_eq_false hne]; exact qg _
  ·rw [decide_eq_false hne]; rfl
 ·have he:ca=rb:=by omega
  subst he
  refine au (aa (ah ?_))
  refine qS aV X X (fun a1 w1 hS1 => ?_)
  refine ux (fun B=>ab Z) Z Z ?_
  refine ux (fun B=>ak 2 Z Z Z) Z Z ?_
  refine ux (fun B=>ab Z) Z Z ?_
  refine ux (fun B=>ak 1 Z Z Z) Z Z ?_
  refine ux (fun B=>ab Z) Z Z ?_
  refine ux (fun B=>ak 2 Z Z Z) Z Z ?_
  refine ux (fun B=>ig w1.heap.size ra Z Z Z Z Z Z Z ?_) Z Z ?_
  ·omega
  refine uB Z Z Z (BuildK.cons Z Z Z (BuildK.cons Z Z Z (BuildK.cons Z Z Z (BuildK.nil (ua Z (us Z ?_))))))
  refine .nil (fun γ a2 w2 hS2 hx hk2 => ?_)
  obtain ⟨b2,hS3⟩:=jB (t:=6) (b:=γ 6) (T:=29) (m:=3) (k:=2) (n:=ra) (cs1 := [(0, .one,one (.int .i64 ra)),(1, .one,one (.int .i64 cb))])
   (Γk := [(2,one (.pointer (some ⟨ba,0,none⟩))),(3,one (.pointer (some ⟨bb,0,none⟩))),(4,one (.pointer (some ⟨b,0,none⟩)))])
   hS1 Z hS2 hx hk2 (.cons Z X (.cons Z X (.cons Z X .nil))) Z Z (fun q hq=>by
    rcases List.mem_cons.1 hq with rfl | hq
    ·exact ⟨_,rfl,rfl⟩
    rcases List.mem_cons.1 hq with rfl | hq
    ·exact ⟨_,rfl,rfl⟩
    cases hq)
  generalize γ 6=b6 at hS3
  refine qT ?_ hS3
  clear hS3 hS2 hx hk2 hS1
  refine aa (ah (ah (aj (Al (ab Z) (Al (ak 4 Z Z Z) (Al (be Z) (Am Z (Ap (aa ?_)))))))))
  refine ar ?_
  refine cO (σ:=Nat) (fun i => [(3,one (.pointer (some ⟨bb,0,none⟩))),(4,one (.pointer (some ⟨b,0,none⟩))),(6,one (.pointer (some ⟨b6,0,none⟩))),(31,slT .one ra (fun i=>cX ca (F i))),(32,one (.int .i64 ra)),(33,one (.int .i64 (i:Nat)))])
   (fun i => [aX b6 29 3 [(2, .one,one (slV (some b2) ra ra)),(0, .one,one (.int .i64 ra)),(1, .one,one (.int .i64 cb))],a8 (some b2) 57 .one ra ra (fun q=>if q<i then cX cb (fG ca F G q) else bS),
    aX b 29 3 (dw #[Value.int IntKind.i64 0,Value.int IntKind.i64 0,Value.slice none 0 0] [(0,Lay.one),(1,Lay.one),(2,Lay.one)]),
    aX bb 29 3 [(0, .one,one (.int .i64 ca)),(1, .one,one (.int .i64 cb)),(2, .one,slT .one ca fun i=>cX cb (G i))]])
   (fun i=>i≤ra) (fun i=>ra - i) 0 (Nat.zero_le _) Ai (.keep Ak (.keep (eW fun q hq=>by rw [if_neg S]; exact kS _) (.keep Ak (.keep Ak (.drop .nil))))) (fun i hi => ?_)
  refine ah (aj (Al (aS Z Z) (Ap (aa (ah ?_)))))
  refine a5 Z (fun hc => ?_) (fun hc => ?_) <;> simp only [decide_eq_true_eq,decide_eq_false_iff_not,Int.ofNat_lt] at hc
  ·refine au (aa (ah (ar (ah (aj (Am Z ?_))))))
   (refine Al (ax Z Z ?_) ?_;omega)
   refine Al (aH Z) (An Z (An Z (Ap (aa (aZ 7 aV X Y (Al (ab Z) (Al (ak 0 Z Z Z) (Am Z (Am Z ?_)))))))))
   refine Al (aL 3 Z Z) ?_
   refine Al (am (q4 ca cb (F i) G h2 h4 (hF i) hG) Z ⟨W,W,Aq⟩) ?_
   have hfl:Flat (cX cb fun j=>c5 ca fun k=>F i k*G k j) .one:=by unfold cX;infer_instance
   (refine Al (an Z Z ?_) ?_;omega)
   refine Ap ?_
   (refine bD 1 Z Z Z ?_ Z ?_;omega)
   refine Ap (aD (aa (aj ?_)))
   (refine Al (cq Z Z (aR ?_ ?_)) ?_;omega;omega)
   refine Am Z (Ap ?_)
   refine bM (s:=i) (i+1) (show _ from by omega) (by show ra - (i+1)<ra - i;omega) Ai (.keep Ak (.keep (cy fun q hq => ?_) (SubM.refl _)))
   unfold upd
   by_cases h:q=i
   ·subst h;rw [if_pos Z,if_pos S]; rfl
   ·rw [if_neg h]
    have e:q<i+1↔q<i:=by omega
    simp only [e]
  ·have hin:i=ra:=by omega
   subst hin
   refine aU (av (av (aC (aa (ah (aj (Al (aL 0 Z Z) (aW 2 Z Z Z Z (An Z ?_)))))))))
   refine Ap (aa (aG ?_))
   have hperm : ∀ (x y z u:Own), [x,y,z,u].Perm ([y] ++ [x,z,u]):=fun x y z u=>List.Perm.swap y x _
   refine fQ [a8 (some b2) 57 .one i i (fun q=>if q<i then cX cb (fG ca F G q) else bS)] (hperm _ _ _ _) (.keep (vF.refl _) (.keep (vF.box (cs' := [(0, .one,one (.int .i64 i)),(1, .one,one (.int .i64 cb)),(2, .one,slT .one i (fun q=>cX cb (fG ca F G q)))]) (.cons (by simp) (Ent.refl _) (.cons (by simp) (Ent.refl _) (.cons List.mem_cons_self (Ent.slE List.mem_cons_self (fun q hq=>Ent.le (by rw [if_pos hq]; exact VT.le_refl _))) .nil)))) (.keep (vF.refl _) .nil))) (qN.refl _) ?_
   refine n8 (gr Tryz.results45 (.cellW 1 Z Z ?_) (.tmp Z (aq ?_)))
   ·simp only [decide_true,if_true]
    exact VT.le_refl _
   ·simp
end Tor
end
section
namespace Tor
open Go Go.RowKit Go.Proofs
abbrev gn (r c:Nat) (φ:VT):VT:=bG 3 [(0, .one,one (.int .i64 r)),(1, .one,one (.int .i64 c)),(2, .one, φ)]
abbrev kX (a m u v:VT) (row col:Int) (done:VT):cf := [(0, .agg 3,a),(3, .agg 3,m),(6, .agg 3,u),(9, .agg 3,v),(12, .one,one (.int .i64 row)),(13, .one,one (.int .i64 col)),(14, .one,done)]
abbrev jq (a m u v:VT) (row col:Int) (done:VT):VT:=bG 15 (kX a m u v row col done)
theorem qN.add {Ms:Mem} {Γ Γ':Ctx} {φ ψ:VT} (t:Nat) (h:bJ Γ t=some φ) (he:Ent Ms φ ψ) (hg:qN Ms Γ Γ'):qN Ms Γ ((t, ψ) :: Γ'):=fun s χ hs=>by
 rw [bq] at hs
 split at hs
 ·rename_i e;subst e;cases hs;exact ⟨φ,h,he⟩
 ·exact hg s χ hs
def jr (ra ca rm cm ru cu rv cv:Nat) (row col:Int):Bool:=decide (rm=ra∧cm=ca∧ru=ra∧cu=ra∧rv=ra∧cv=ra∧0≤row∧row≤ra∧0≤col∧col≤ca)
attribute [local irreducible] J PJ aQ one slT cA bG bZ exT cE eP aX a8 slV VT.le Ret bS
theorem dP (r c:Nat) (φ m u v:VT) (row col:Int) (d:VT):Ok Tryz.prog 31 [jq (gn r c φ) m u v row col d] (one (.bool (decide (row=r∨col=c)))):=by
 refine Ok.enter Tryz.func31 Z Tryz.ntmps31 Z (fun w O => ?_)
 by_cases h:row=r
 ·rw [decide_eq_true (Or.inl h)]
  refine ah (aj ?_)
  refine aY Z Z (ltN Z) (fun b1 => ?_)
  refine An Z (Ap (aa (ah (aj (Al (ab Z) (Al (ak 0 Z Z Z) (Al (ab Z) (Al (ab Z) (Al (aw 0 0 0 Z Z Z Z Z) ?_)))))))))
  refine Al (sT (by assumption) (cj Z Z)) (Am Z (sn0 Z Z Z Z Z (sn0 Z Z Z Z Z (sn0 Z Z Z Z Z (sn0 Z Z Z Z Z (sn0 Z Z Z Z Z (sn0 Z Z Z Z Z (Al (aE Z Z) (An Z ?_)))))))))
  refine Ap (aa (aG ?_))
  refine aP Tryz.results31 (.tmp Z W)
 ·by_cases h2:col=c
  ·rw [decide_eq_true (Or.inr h2)]
   refine ah (aj ?_)
   refine aY Z Z (ltN Z) (fun b1 => ?_)
   refine An Z (Ap (aa (ah (aj (Al (ab Z) (Al (ak 0 Z Z Z) (Al (ab Z) (Al (ab Z) (Al (aw 0 0 0 Z Z Z Z Z) ?_)))))))))
   refine Al (sF (by assumption) (cj Z Z)) (Am Z (Ao (ab Z) (Ao (ak 0 Z Z Z) (Ao (ab Z) (Ao (ab Z) (Ao (aw 0 0 1 Z Z Z Z Z) (Ao (sT (by assumption) (cj Z Z)) (Al (ay Z Z) (An Z ?_)))))))))
   refine Ap (aa (aG ?_))
   refine aP Tryz.results31 (.tmp Z W)
  ·rw [decide_eq_false (fun e=>e.elim h h2)]
   refine ah (aj ?_)
   refine aY Z Z (ltN Z) (fun b1 => ?_)
   refine An Z (Ap (aa (ah (aj (Al (ab Z) (Al (ak 0 Z Z Z) (Al (ab Z) (Al (ab Z) (Al (aw 0 0 0 Z Z Z Z Z) ?_)))))))))
   refine Al (sF (by assumption) (cj Z Z)) (Am Z (Ao (ab Z) (Ao (ak 0 Z Z Z) (Ao (ab Z) (Ao (ab Z) (Ao (aw 0 0 1 Z Z Z Z Z) (Ao (sF (by assumption) (cj Z Z)) (Al (ay Z Z) (An Z ?_)))))))))
   refine Ap (aa (aG ?_))
   refine aP Tryz.results31 (.tmp Z W)
theorem q9 (r c n:Nat) (φ:VT):Ok Tryz.prog 65 [gn r c φ,cA .one (one (.int .i64 n))] (one (.bool (decide (r=n∧c=n)))):=by
 refine Ok.enter Tryz.func65 Z Tryz.ntmps65 Z (fun w O => ?_)
 by_cases h:r=n
 ·by_cases h2:c=n
  ·rw [decide_eq_true ⟨h,h2⟩]
   refine ah (aj ?_)
   refine aY Z Z (ltN Z) (fun b2 => ?_)
   refine An Z (Ap (aa (ah (aj (Al (ab Z) (Al (ak 0 Z Z Z) (Al (aH Z) (Al (sT S (cj Z Z)) (Am Z ?_)))))))))
   refine Ao (ab Z) (Ao (ak 0 Z Z Z) (Ao (aH Z) (Ao (sT S (cj Z Z)) (Al (aE Z Z) (An Z (Ap (aa (aG ?_))))))))
   refine aP Tryz.results65 (.tmp Z W)
  ·rw [decide_eq_false (fun e=>h2 e.2)]
   refine ah (aj ?_)
   refine aY Z Z (ltN Z) (fun b2 => ?_)
   refine An Z (Ap (aa (ah (aj (Al (ab Z) (Al (ak 0 Z Z Z) (Al (aH Z) (Al (sT S (cj Z Z)) (Am Z ?_)))))))))
   refine Ao (ab Z) (Ao (ak 0 Z Z Z) (Ao (aH Z) (Ao (sF S (cj Z Z)) (Al (aE Z Z) (An Z (Ap (aa (aG ?_))))))))
   refine aP Tryz.results65 (.tmp Z W)
 ·rw [decide_eq_false (fun e=>h e.1)]
  refine ah (aj ?_)
  refine aY Z Z (ltN Z) (fun b2 => ?_)
  refine An Z (Ap (aa (ah (aj (Al (ab Z) (Al (ak 0 Z Z Z) (Al (aH Z) (Al (sF S (cj Z Z)) (Am Z ?_)))))))))
  refine sn0 Z Z Z Z Z (sn0 Z Z Z Z Z (sn0 Z Z Z Z Z (sn0 Z Z Z Z Z (Al (ay Z Z) (An Z (Ap (aa (aG ?_))))))))
  refine aP Tryz.results65 (.tmp Z W)
theorem lp (r c n:Nat) (F:Nat→Nat→Int):Ok Tryz.prog 65 [bp r c F,cA .one (one (.int .i64 n))] (one (.bool (decide (r=n∧c=n)))):=q9 r c n _
theorem jI (ra ca rm cm ru cu rv cv:Nat) (A M U V:Nat→Nat→Int) (row col:Int) (d:VT):Ok Tryz.prog 34 [jq (bp ra ca A) (bp rm cm M) (bp ru cu U) (bp rv cv V) row col d] (one (.bool (jr ra ca rm cm ru cu rv cv row col))):=by
 refine Ok.enter Tryz.func34 Z Tryz.ntmps34 Z (fun w O => ?_)
 have hu:=gM.clo (P:=Tryz.prog) (φs := [bp ru cu U]) (cs := [cA .one (one (.int .i64 ra))]) (lp ru cu ra U)
 have hv:=gM.clo (P:=Tryz.prog) (φs := [bp rv cv V]) (cs := [cA .one (one (.int .i64 ra))]) (lp rv cv ra V)
 by_cases h1:rm=ra
 ·by_cases h2:cm=ca
  ·by_cases h3:ru=ra∧cu=ra
   ·by_cases h4:rv=ra∧cv=ra
    ·by_cases h5:0≤row
     ·by_cases h6:row≤ra
      ·by_cases h7:0≤col
       ·by_cases h8:col≤ca
        ·have hf:jr ra ca rm cm ru cu rv cv row col=true:=decide_eq_true S
         rw [hf]
         refine ah (aj ?_)
         refine aY Z Z (ltN Z) (fun b1 => ?_)
         refine An Z (Ap (aa (ah (ah (aj (Al (ab Z) (Al (ak 0 Z Z Z) ?_)))))))
         refine Al (am (a4 _ _ _) Z ⟨W,Aq⟩) ?_
         refine Al (bx Z) (Am Z (Ao (ab Z) (Ao (ak 0 Z Z Z) ?_)))
         refine Ao (am (a4 _ _ _) Z ⟨W,Aq⟩) ?_
         refine Ao (bx Z) (Al (ay Z Z) (Am Z (Ao (ab Z) (Ao (ak 0 Z Z Z) ?_))))
         refine Ao (am (a4 _ _ _) Z ⟨W,Aq⟩) ?_
         refine Ao (bx Z) (Al (ay Z Z) (Am Z (Ao (ab Z) (Ao (ak 0 Z Z Z) ?_))))
         refine Ao (am (a4 _ _ _) Z ⟨W,Aq⟩) ?_
         refine Ao (bx Z) (Al (ay Z Z) (Ap (aa (aA Z (au (aa (ah (aj (Al (ab Z) ?_)))))))))
         refine Al (ab Z) (Al (aw 0 0 0 Z Z Z Z Z) ?_)
         refine aT (T:=3) Z (ltN Z) (fun b3 => ?_)
         refine aF 0 Z Z Z Z Z (leN Z) Z (Ap (aa (ah (aj (Al (c6 Z) (An Z (Ap (aa (ah ?_)))))))))
         refine aj (Al (ab Z) (Al (ab Z) (Al (aw 1 3 0 Z Z Z Z Z) (Al (ak 0 Z Z Z) (Al (sT S (cj Z Z)) (Am Z (Ao (ab Z) (Ao (ab Z) (Ao (aw 1 3 1 Z Z Z Z Z) ?_)))))))))
         refine Ao (ab Z) (Ao (ab Z) (Ao (aw 1 0 1 Z Z Z Z Z) (Ao (sT S (cj Z Z)) (Al (aE Z Z) (Am Z (Ao (ae Z) (Ao (ab Z) (Ao (ak 1 Z Z Z) (eX [aX b3 _ 1 [(0, .one,one (.int .i64 ra))]] (Kp := [_]) (Kp' := [_]) (List.Perm.refl _) (EntM.refl _) (.add 3 Z (Ent.ptr List.mem_cons_self List.mem_cons_self) (.add 4 Z (Ent.clo1 (Ent.ptr List.mem_cons_self List.mem_cons_self)) (.add 46 Z (Ent.clo1 (Ent.ptr List.mem_cons_self List.mem_cons_self)) (.refl _)))) ?_)))))))))
         refine Ao (sT S (d6 hu Z Z ⟨W,Aq⟩)) ?_
         refine Al (aE Z Z) (Am Z (Ao (ae Z) (Ao (ab Z) (Ao (ak 0 Z Z Z) ?_))))
         refine Ao (sT S (d6 hv Z Z ⟨W,Aq⟩)) ?_
         refine Al (aE Z Z) (Am Z (Ao (ab Z) (Ao (ak 0 Z Z Z) (Ao (sT S (eR Z Z)) (Al (aE Z Z) (Am Z (Ao (ab Z) (Ao (ak 0 Z Z Z) (Ao (aH Z) ?_)))))))))
         refine Ao (sT S (eR Z Z)) (Al (aE Z Z) (Am Z (Ao (ab Z) (Ao (ak 0 Z Z Z) (Ao (sT S (eR Z Z)) (Al (aE Z Z) (Am Z (Ao (ab Z) (Ao (ak 0 Z Z Z) ?_)))))))))
         refine Ao (ab Z) (Ao (ab Z) (Ao (aw 0 0 1 Z Z Z Z Z) (Ao (sT S (eR Z Z)) (Al (aE Z Z) (An Z (Ap (aa (aG ?_))))))))
         refine aP Tryz.results34 (.tmp Z W)
        ·have hf:jr ra ca rm cm ru cu rv cv row col=false:=decide_eq_false S
         rw [hf]
         refine ah (aj ?_)
         refine aY Z Z (ltN Z) (fun b1 => ?_)
         refine An Z (Ap (aa (ah (ah (aj (Al (ab Z) (Al (ak 0 Z Z Z) ?_)))))))
         refine Al (am (a4 _ _ _) Z ⟨W,Aq⟩) ?_
         refine Al (bx Z) (Am Z (Ao (ab Z) (Ao (ak 0 Z Z Z) ?_)))
         refine Ao (am (a4 _ _ _) Z ⟨W,Aq⟩) ?_
         refine Ao (bx Z) (Al (ay Z Z) (Am Z (Ao (ab Z) (Ao (ak 0 Z Z Z) ?_))))
         refine Ao (am (a4 _ _ _) Z ⟨W,Aq⟩) ?_
         refine Ao (bx Z) (Al (ay Z Z) (Am Z (Ao (ab Z) (Ao (ak 0 Z Z Z) ?_))))
         refine Ao (am (a4 _ _ _) Z ⟨W,Aq⟩) ?_
         refine Ao (bx Z) (Al (ay Z Z) (Ap (aa (aA Z (au (aa (ah (aj (Al (ab Z) ?_)))))))))
         refine Al (ab Z) (Al (aw 0 0 0 Z Z Z Z Z) ?_)
         refine aT (T:=3) Z (ltN Z) (fun b3 => ?_)
         refine aF 0 Z Z Z Z Z (leN Z) Z (Ap (aa (ah (aj (Al (c6 Z) (An Z (Ap (aa (ah ?_)))))))))
         refine aj (Al (ab Z) (Al (ab Z) (Al (aw 1 3 0 Z Z Z Z Z) (Al (ak 0 Z Z Z) (Al (sT S (cj Z Z)) (Am Z (Ao (ab Z) (Ao (ab Z) (Ao (aw 1 3 1 Z Z Z Z Z) ?_)))))))))
         refine Ao (ab Z) (Ao (ab Z) (Ao (aw 1 0 1 Z Z Z Z Z) (Ao (sT S (cj Z Z)) (Al (aE Z Z) (Am Z (Ao (ae Z) (Ao (ab Z) (Ao (ak 1 Z Z Z) (eX [aX b3 _ 1 [(0, .one,one (.int .i64 ra))]] (Kp := [_]) (Kp' := [_]) (List.Perm.refl _) (EntM.refl _) (.add 3 Z (Ent.ptr List.mem_cons_self List.mem_cons_self) (.add 4 Z (Ent.clo1 (Ent.ptr List.mem_cons_self List.mem_cons_self)) (.add 46 Z (Ent.clo1 (Ent.ptr List.mem_cons_self List.mem_cons_self)) (.refl _)))) ?_)))))))))
         refine Ao (sT S (d6 hu Z Z ⟨W,Aq⟩)) ?_
         refine Al (aE Z Z) (Am Z (Ao (ae Z) (Ao (ab Z) (Ao (ak 0 Z Z Z) ?_))))
         refine Ao (sT S (d6 hv Z Z ⟨W,Aq⟩)) ?_
         refine Al (aE Z Z) (Am Z (Ao (ab Z) (Ao (ak 0 Z Z Z) (Ao (sT S (eR Z Z)) (Al (aE Z Z) (Am Z (Ao (ab Z) (Ao (ak 0 Z Z Z) (Ao (aH Z) ?_)))))))))
         refine Ao (sT S (eR Z Z)) (Al (aE Z Z) (Am Z (Ao (ab Z) (Ao (ak 0 Z Z Z) (Ao (sT S (eR Z Z)) (Al (aE Z Z) (Am Z (Ao (ab Z) (Ao (ak 0 Z Z Z) ?_)))))))))
         refine Ao (ab Z) (Ao (ab Z) (Ao (aw 0 0 1 Z Z Z Z Z) (Ao (sF S (eR Z Z)) (Al (aE Z Z) (An Z (Ap (aa (aG ?_))))))))
         refine aP Tryz.results34 (.tmp Z W)
       ·have hf:jr ra ca rm cm ru cu rv cv row col=false:=decide_eq_false S
        rw [hf]
        refine ah (aj ?_)
        refine aY Z Z (ltN Z) (fun b1 => ?_)
        refine An Z (Ap (aa (ah (ah (aj (Al (ab Z) (Al (ak 0 Z Z Z) ?_)))))))
        refine Al (am (a4 _ _ _) Z ⟨W,Aq⟩) ?_
        refine Al (bx Z) (Am Z (Ao (ab Z) (Ao (ak 0 Z Z Z) ?_)))
        refine Ao (am (a4 _ _ _) Z ⟨W,Aq⟩) ?_
        refine Ao (bx Z) (Al (ay Z Z) (Am Z (Ao (ab Z) (Ao (ak 0 Z Z Z) ?_))))
        refine Ao (am (a4 _ _ _) Z ⟨W,Aq⟩) ?_
        refine Ao (bx Z) (Al (ay Z Z) (Am Z (Ao (ab Z) (Ao (ak 0 Z Z Z) ?_))))
        refine Ao (am (a4 _ _ _) Z ⟨W,Aq⟩) ?_
        refine Ao (bx Z) (Al (ay Z Z) (Ap (aa (aA Z (au (aa (ah (aj (Al (ab Z) ?_)))))))))
        refine Al (ab Z) (Al (aw 0 0 0 Z Z Z Z Z) ?_)
        refine aT (T:=3) Z (ltN Z) (fun b3 => ?_)
        refine aF 0 Z Z Z Z Z (leN Z) Z (Ap (aa (ah (aj (Al (c6 Z) (An Z (Ap (aa (ah ?_)))))))))
        refine aj (Al (ab Z) (Al (ab Z) (Al (aw 1 3 0 Z Z Z Z Z) (Al (ak 0 Z Z Z) (Al (sT S (cj Z Z)) (Am Z (Ao (ab Z) (Ao (ab Z) (Ao (aw 1 3 1 Z Z Z Z Z) ?_)))))))))
        refine Ao (ab Z) (Ao (ab Z) (Ao (aw 1 0 1 Z Z Z Z Z) (Ao (sT S (cj Z Z)) (Al (aE Z Z) (Am Z (Ao (ae Z) (Ao (ab Z) (Ao (ak 1 Z Z Z) (eX [aX b3 _ 1 [(0, .one,one (.int .i64 ra))]] (Kp := [_]) (Kp' := [_]) (List.Perm.refl _) (EntM.refl _) (.add 3 Z (Ent.ptr List.mem_cons_self List.mem_cons_self) (.add 4 Z (Ent.clo1 (Ent.ptr List.mem_cons_self List.mem_cons_self)) (.add 46 Z (Ent.clo1 (Ent.ptr List.mem_cons_self List.mem_cons_self)) (.refl _)))) ?_)))))))))
        refine Ao (sT S (d6 hu Z Z ⟨W,Aq⟩)) ?_
        refine Al (aE Z Z) (Am Z (Ao (ae Z) (Ao (ab Z) (Ao (ak 0 Z Z Z) ?_))))
        refine Ao (sT S (d6 hv Z Z ⟨W,Aq⟩)) ?_
        refine Al (aE Z Z) (Am Z (Ao (ab Z) (Ao (ak 0 Z Z Z) (Ao (sT S (eR Z Z)) (Al (aE Z Z) (Am Z (Ao (ab Z) (Ao (ak 0 Z Z Z) (Ao (aH Z) ?_)))))))))
        refine Ao (sT S (eR Z Z)) (Al (aE Z Z) (Am Z (Ao (ab Z) (Ao (ak 0 Z Z Z) (Ao (sF S (eR Z Z)) (Al (aE Z Z) (Am Z (sn0 Z Z Z Z Z (sn0 Z Z Z Z Z ?_)))))))))
        refine sn0 Z Z Z Z Z (sn0 Z Z Z Z Z (sn0 Z Z Z Z Z (sn0 Z Z Z Z Z (Al (ay Z Z) (An Z (Ap (aa (aG ?_))))))))
        refine aP Tryz.results34 (.tmp Z W)
      ·have hf:jr ra ca rm cm ru cu rv cv row col=false:=decide_eq_false S
       rw [hf]
       refine ah (aj ?_)
       refine aY Z Z (ltN Z) (fun b1 => ?_)
       refine An Z (Ap (aa (ah (ah (aj (Al (ab Z) (Al (ak 0 Z Z Z) ?_)))))))
       refine Al (am (a4 _ _ _) Z ⟨W,Aq⟩) ?_
       refine Al (bx Z) (Am Z (Ao (ab Z) (Ao (ak 0 Z Z Z) ?_)))
       refine Ao (am (a4 _ _ _) Z ⟨W,Aq⟩) ?_
       refine Ao (bx Z) (Al (ay Z Z) (Am Z (Ao (ab Z) (Ao (ak 0 Z Z Z) ?_))))
       refine Ao (am (a4 _ _ _) Z ⟨W,Aq⟩) ?_
       refine Ao (bx Z) (Al (ay Z Z) (Am Z (Ao (ab Z) (Ao (ak 0 Z Z Z) ?_))))
       refine Ao (am (a4 _ _ _) Z ⟨W,Aq⟩) ?_
       refine Ao (bx Z) (Al (ay Z Z) (Ap (aa (aA Z (au (aa (ah (aj (Al (ab Z) ?_)))))))))
       refine Al (ab Z) (Al (aw 0 0 0 Z Z Z Z Z) ?_)
       refine aT (T:=3) Z (ltN Z) (fun b3 => ?_)
       refine aF 0 Z Z Z Z Z (leN Z) Z (Ap (aa (ah (aj (Al (c6 Z) (An Z (Ap (aa (ah ?_)))))))))
       refine aj (Al (ab Z) (Al (ab Z) (Al (aw 1 3 0 Z Z Z Z Z) (Al (ak 0 Z Z Z) (Al (sT S (cj Z Z)) (Am Z (Ao (ab Z) (Ao (ab Z) (Ao (aw 1 3 1 Z Z Z Z Z) ?_)))))))))
       refine Ao (ab Z) (Ao (ab Z) (Ao (aw 1 0 1 Z Z Z Z Z) (Ao (sT S (cj Z Z)) (Al (aE Z Z) (Am Z (Ao (ae Z) (Ao (ab Z) (Ao (ak 1 Z Z Z) (eX [aX b3 _ 1 [(0, .one,one (.int .i64 ra))]] (Kp := [_]) (Kp' := [_]) (List.Perm.refl _) (EntM.refl _) (.add 3 Z (Ent.ptr List.mem_cons_self List.mem_cons_self) (.add 4 Z (Ent.clo1 (Ent.ptr List.mem_cons_self List.mem_cons_self)) (.add 46 Z (Ent.clo1 (Ent.ptr List.mem_cons_self List.mem_cons_self)) (.refl _)))) ?_)))))))))
       refine Ao (sT S (d6 hu Z Z ⟨W,Aq⟩)) ?_
       refine Al (aE Z Z) (Am Z (Ao (ae Z) (Ao (ab Z) (Ao (ak 0 Z Z Z) ?_))))
       refine Ao (sT S (d6 hv Z Z ⟨W,Aq⟩)) ?_
       refine Al (aE Z Z) (Am Z (Ao (ab Z) (Ao (ak 0 Z Z Z) (Ao (sT S (eR Z Z)) (Al (aE Z Z) (Am Z (Ao (ab Z) (Ao (ak 0 Z Z Z) (Ao (aH Z) ?_)))))))))
       refine Ao (sF S (eR Z Z)) (Al (aE Z Z) (Am Z (sn0 Z Z Z Z Z (sn0 Z Z Z Z Z (sn0 Z Z Z Z Z (Al (ay Z Z) (Am Z (sn0 Z Z Z Z Z (sn0 Z Z Z Z Z ?_)))))))))
       refine sn0 Z Z Z Z Z (sn0 Z Z Z Z Z (sn0 Z Z Z Z Z (sn0 Z Z Z Z Z (Al (ay Z Z) (An Z (Ap (aa (aG ?_))))))))
       refine aP Tryz.results34 (.tmp Z W)
     ·have hf:jr ra ca rm cm ru cu rv cv row col=false:=decide_eq_false S
      rw [hf]
      refine ah (aj ?_)
      refine aY Z Z (ltN Z) (fun b1 => ?_)
      refine An Z (Ap (aa (ah (ah (aj (Al (ab Z) (Al (ak 0 Z Z Z) ?_)))))))
      refine Al (am (a4 _ _ _) Z ⟨W,Aq⟩) ?_
      refine Al (bx Z) (Am Z (Ao (ab Z) (Ao (ak 0 Z Z Z) ?_)))
      refine Ao (am (a4 _ _ _) Z ⟨W,Aq⟩) ?_
      refine Ao (bx Z) (Al (ay Z Z) (Am Z (Ao (ab Z) (Ao (ak 0 Z Z Z) ?_))))
      refine Ao (am (a4 _ _ _) Z ⟨W,Aq⟩) ?_
      refine Ao (bx Z) (Al (ay Z Z) (Am Z (Ao (ab Z) (Ao (ak 0 Z Z Z) ?_))))
      refine Ao (am (a4 _ _ _) Z ⟨W,Aq⟩) ?_
      refine Ao (bx Z) (Al (ay Z Z) (Ap (aa (aA Z (au (aa (ah (aj (Al (ab Z) ?_)))))))))
      refine Al (ab Z) (Al (aw 0 0 0 Z Z Z Z Z) ?_)
      refine aT (T:=3) Z (ltN Z) (fun b3 => ?_)
      refine aF 0 Z Z Z Z Z (leN Z) Z (Ap (aa (ah (aj (Al (c6 Z) (An Z (Ap (aa (ah ?_)))))))))
      refine aj (Al (ab Z) (Al (ab Z) (Al (aw 1 3 0 Z Z Z Z Z) (Al (ak 0 Z Z Z) (Al (sT S (cj Z Z)) (Am Z (Ao (ab Z) (Ao (ab Z) (Ao (aw 1 3 1 Z Z Z Z Z) ?_)))))))))
      refine Ao (ab Z) (Ao (ab Z) (Ao (aw 1 0 1 Z Z Z Z Z) (Ao (sT S (cj Z Z)) (Al (aE Z Z) (Am Z (Ao (ae Z) (Ao (ab Z) (Ao (ak 1 Z Z Z) (eX [aX b3 _ 1 [(0, .one,one (.int .i64 ra))]] (Kp := [_]) (Kp' := [_]) (List.Perm.refl _) (EntM.refl _) (.add 3 Z (Ent.ptr List.mem_cons_self List.mem_cons_self) (.add 4 Z (Ent.clo1 (Ent.ptr List.mem_cons_self List.mem_cons_self)) (.add 46 Z (Ent.clo1 (Ent.ptr List.mem_cons_self List.mem_cons_self)) (.refl _)))) ?_)))))))))
      refine Ao (sT S (d6 hu Z Z ⟨W,Aq⟩)) ?_
      refine Al (aE Z Z) (Am Z (Ao (ae Z) (Ao (ab Z) (Ao (ak 0 Z Z Z) ?_))))
      refine Ao (sT S (d6 hv Z Z ⟨W,Aq⟩)) ?_
      refine Al (aE Z Z) (Am Z (Ao (ab Z) (Ao (ak 0 Z Z Z) (Ao (sF S (eR Z Z)) (Al (aE Z Z) (Am Z (sn0 Z Z Z Z Z (sn0 Z Z Z Z Z (sn0 Z Z Z Z Z ?_)))))))))
      refine sn0 Z Z Z Z Z (Al (ay Z Z) (Am Z (sn0 Z Z Z Z Z (sn0 Z Z Z Z Z (sn0 Z Z Z Z Z (Al (ay Z Z) (Am Z (sn0 Z Z Z Z Z (sn0 Z Z Z Z Z ?_)))))))))
      refine sn0 Z Z Z Z Z (sn0 Z Z Z Z Z (sn0 Z Z Z Z Z (sn0 Z Z Z Z Z (Al (ay Z Z) (An Z (Ap (aa (aG ?_))))))))
      refine aP Tryz.results34 (.tmp Z W)
    ·have hf:jr ra ca rm cm ru cu rv cv row col=false:=decide_eq_false S
     rw [hf]
     refine ah (aj ?_)
     refine aY Z Z (ltN Z) (fun b1 => ?_)
     refine An Z (Ap (aa (ah (ah (aj (Al (ab Z) (Al (ak 0 Z Z Z) ?_)))))))
     refine Al (am (a4 _ _ _) Z ⟨W,Aq⟩) ?_
     refine Al (bx Z) (Am Z (Ao (ab Z) (Ao (ak 0 Z Z Z) ?_)))
     refine Ao (am (a4 _ _ _) Z ⟨W,Aq⟩) ?_
     refine Ao (bx Z) (Al (ay Z Z) (Am Z (Ao (ab Z) (Ao (ak 0 Z Z Z) ?_))))
     refine Ao (am (a4 _ _ _) Z ⟨W,Aq⟩) ?_
     refine Ao (bx Z) (Al (ay Z Z) (Am Z (Ao (ab Z) (Ao (ak 0 Z Z Z) ?_))))
     refine Ao (am (a4 _ _ _) Z ⟨W,Aq⟩) ?_
     refine Ao (bx Z) (Al (ay Z Z) (Ap (aa (aA Z (au (aa (ah (aj (Al (ab Z) ?_)))))))))
     refine Al (ab Z) (Al (aw 0 0 0 Z Z Z Z Z) ?_)
     refine aT (T:=3) Z (ltN Z) (fun b3 => ?_)
     refine aF 0 Z Z Z Z Z (leN Z) Z (Ap (aa (ah (aj (Al (c6 Z) (An Z (Ap (aa (ah ?_)))))))))
     refine aj (Al (ab Z) (Al (ab Z) (Al (aw 1 3 0 Z Z Z Z Z) (Al (ak 0 Z Z Z) (Al (sT S (cj Z Z)) (Am Z (Ao (ab Z) (Ao (ab Z) (Ao (aw 1 3 1 Z Z Z Z Z) ?_)))))))))
     refine Ao (ab Z) (Ao (ab Z) (Ao (aw 1 0 1 Z Z Z Z Z) (Ao (sT S (cj Z Z)) (Al (aE Z Z) (Am Z (Ao (ae Z) (Ao (ab Z) (Ao (ak 1 Z Z Z) (eX [aX b3 _ 1 [(0, .one,one (.int .i64 ra))]] (Kp := [_]) (Kp' := [_]) (List.Perm.refl _) (EntM.refl _) (.add 3 Z (Ent.ptr List.mem_cons_self List.mem_cons_self) (.add 4 Z (Ent.clo1 (Ent.ptr List.mem_cons_self List.mem_cons_self)) (.add 46 Z (Ent.clo1 (Ent.ptr List.mem_cons_self List.mem_cons_self)) (.refl _)))) ?_)))))))))
     refine Ao (sT S (d6 hu Z Z ⟨W,Aq⟩)) ?_
     refine Al (aE Z Z) (Am Z (Ao (ae Z) (Ao (ab Z) (Ao (ak 0 Z Z Z) ?_))))
     refine Ao (sF S (d6 hv Z Z ⟨W,Aq⟩)) ?_
     refine Al (aE Z Z) (Am Z (sn0 Z Z Z Z Z (sn0 Z Z Z Z Z (sn0 Z Z Z Z Z (Al (ay Z Z) (Am Z (sn0 Z Z Z Z Z (sn0 Z Z Z Z Z (sn0 Z Z Z Z Z ?_)))))))))
     refine sn0 Z Z Z Z Z (Al (ay Z Z) (Am Z (sn0 Z Z Z Z Z (sn0 Z Z Z Z Z (sn0 Z Z Z Z Z (Al (ay Z Z) (Am Z (sn0 Z Z Z Z Z (sn0 Z Z Z Z Z ?_)))))))))
     refine sn0 Z Z Z Z Z (sn0 Z Z Z Z Z (sn0 Z Z Z Z Z (sn0 Z Z Z Z Z (Al (ay Z Z) (An Z (Ap (aa (aG ?_))))))))
     refine aP Tryz.results34 (.tmp Z W)
   ·have hf:jr ra ca rm cm ru cu rv cv row col=false:=decide_eq_false S
    rw [hf]
    refine ah (aj ?_)
    refine aY Z Z (ltN Z) (fun b1 => ?_)
    refine An Z (Ap (aa (ah (ah (aj (Al (ab Z) (Al (ak 0 Z Z Z) ?_)))))))
    refine Al (am (a4 _ _ _) Z ⟨W,Aq⟩) ?_
    refine Al (bx Z) (Am Z (Ao (ab Z) (Ao (ak 0 Z Z Z) ?_)))
    refine Ao (am (a4 _ _ _) Z ⟨W,Aq⟩) ?_
    refine Ao (bx Z) (Al (ay Z Z) (Am Z (Ao (ab Z) (Ao (ak 0 Z Z Z) ?_))))
    refine Ao (am (a4 _ _ _) Z ⟨W,Aq⟩) ?_
    refine Ao (bx Z) (Al (ay Z Z) (Am Z (Ao (ab Z) (Ao (ak 0 Z Z Z) ?_))))
    refine Ao (am (a4 _ _ _) Z ⟨W,Aq⟩) ?_
    refine Ao (bx Z) (Al (ay Z Z) (Ap (aa (aA Z (au (aa (ah (aj (Al (ab Z) ?_)))))))))
    refine Al (ab Z) (Al (aw 0 0 0 Z Z Z Z Z) ?_)
    refine aT (T:=3) Z (ltN Z) (fun b3 => ?_)
    refine aF 0 Z Z Z Z Z (leN Z) Z (Ap (aa (ah (aj (Al (c6 Z) (An Z (Ap (aa (ah ?_)))))))))
    refine aj (Al (ab Z) (Al (ab Z) (Al (aw 1 3 0 Z Z Z Z Z) (Al (ak 0 Z Z Z) (Al (sT S (cj Z Z)) (Am Z (Ao (ab Z) (Ao (ab Z) (Ao (aw 1 3 1 Z Z Z Z Z) ?_)))))))))
    refine Ao (ab Z) (Ao (ab Z) (Ao (aw 1 0 1 Z Z Z Z Z) (Ao (sT S (cj Z Z)) (Al (aE Z Z) (Am Z (Ao (ae Z) (Ao (ab Z) (Ao (ak 1 Z Z Z) (eX [aX b3 _ 1 [(0, .one,one (.int .i64 ra))]] (Kp := [_]) (Kp' := [_]) (List.Perm.refl _) (EntM.refl _) (.add 3 Z (Ent.ptr List.mem_cons_self List.mem_cons_self) (.add 4 Z (Ent.clo1 (Ent.ptr List.mem_cons_self List.mem_cons_self)) (.add 46 Z (Ent.clo1 (Ent.ptr List.mem_cons_self List.mem_cons_self)) (.refl _)))) ?_)))))))))
    refine Ao (sF S (d6 hu Z Z ⟨W,Aq⟩)) ?_
    refine Al (aE Z Z) (Am Z (sn0 Z Z Z Z Z (sn0 Z Z Z Z Z (sn0 Z Z Z Z Z (sn0 Z Z Z Z Z (Al (ay Z Z) (Am Z (sn0 Z Z Z Z Z (sn0 Z Z Z Z Z ?_)))))))))
    refine sn0 Z Z Z Z Z (Al (ay Z Z) (Am Z (sn0 Z Z Z Z Z (sn0 Z Z Z Z Z (sn0 Z Z Z Z Z (sn0 Z Z Z Z Z (Al (ay Z Z) (Am Z (sn0 Z Z Z Z Z ?_)))))))))
    refine sn0 Z Z Z Z Z (sn0 Z Z Z Z Z (Al (ay Z Z) (Am Z (sn0 Z Z Z Z Z (sn0 Z Z Z Z Z (sn0 Z Z Z Z Z (sn0 Z Z Z Z Z (sn0 Z Z Z Z Z (sn0 Z Z Z Z Z ?_)))))))))
    refine Al (ay Z Z) (An Z (Ap (aa (aG ?_))))
    refine aP Tryz.results34 (.tmp Z W)
  ·have hf:jr ra ca rm cm ru cu rv cv row col=false:=decide_eq_false S
   rw [hf]
   refine ah (aj ?_)
   refine aY Z Z (ltN Z) (fun b1 => ?_)
   refine An Z (Ap (aa (ah (ah (aj (Al (ab Z) (Al (ak 0 Z Z Z) ?_)))))))
   refine Al (am (a4 _ _ _) Z ⟨W,Aq⟩) ?_
   refine Al (bx Z) (Am Z (Ao (ab Z) (Ao (ak 0 Z Z Z) ?_)))
   refine Ao (am (a4 _ _ _) Z ⟨W,Aq⟩) ?_
   refine Ao (bx Z) (Al (ay Z Z) (Am Z (Ao (ab Z) (Ao (ak 0 Z Z Z) ?_))))
   refine Ao (am (a4 _ _ _) Z ⟨W,Aq⟩) ?_
   refine Ao (bx Z) (Al (ay Z Z) (Am Z (Ao (ab Z) (Ao (ak 0 Z Z Z) ?_))))
   refine Ao (am (a4 _ _ _) Z ⟨W,Aq⟩) ?_
   refine Ao (bx Z) (Al (ay Z Z) (Ap (aa (aA Z (au (aa (ah (aj (Al (ab Z) ?_)))))))))
   refine Al (ab Z) (Al (aw 0 0 0 Z Z Z Z Z) ?_)
   refine aT (T:=3) Z (ltN Z) (fun b3 => ?_)
   refine aF 0 Z Z Z Z Z (leN Z) Z (Ap (aa (ah (aj (Al (c6 Z) (An Z (Ap (aa (ah ?_)))))))))
   refine aj (Al (ab Z) (Al (ab Z) (Al (aw 1 3 0 Z Z Z Z Z) (Al (ak 0 Z Z Z) (Al (sT S (cj Z Z)) (Am Z (Ao (ab Z) (Ao (ab Z) (Ao (aw 1 3 1 Z Z Z Z Z) ?_)))))))))
   refine Ao (ab Z) (Ao (ab Z) (Ao (aw 1 0 1 Z Z Z Z Z) (Ao (sF S (cj Z Z)) (Al (aE Z Z) (Am Z (sn0 Z Z Z Z Z (sn0 Z Z Z Z Z (sn0 Z Z Z Z Z (sn0 Z Z Z Z Z ?_)))))))))
   refine Al (ay Z Z) (Am Z (sn0 Z Z Z Z Z (sn0 Z Z Z Z Z (sn0 Z Z Z Z Z (sn0 Z Z Z Z Z (Al (ay Z Z) (Am Z (sn0 Z Z Z Z Z (sn0 Z Z Z Z Z ?_)))))))))
   refine sn0 Z Z Z Z Z (Al (ay Z Z) (Am Z (sn0 Z Z Z Z Z (sn0 Z Z Z Z Z (sn0 Z Z Z Z Z (sn0 Z Z Z Z Z (Al (ay Z Z) (Am Z (sn0 Z Z Z Z Z ?_)))))))))
   refine sn0 Z Z Z Z Z (sn0 Z Z Z Z Z (Al (ay Z Z) (Am Z (sn0 Z Z Z Z Z (sn0 Z Z Z Z Z (sn0 Z Z Z Z Z (sn0 Z Z Z Z Z (sn0 Z Z Z Z Z (sn0 Z Z Z Z Z ?_)))))))))
   refine Al (ay Z Z) (An Z (Ap (aa (aG ?_))))
   refine aP Tryz.results34 (.tmp Z W)
 ·have hf:jr ra ca rm cm ru cu rv cv row col=false:=decide_eq_false S
  rw [hf]
  refine ah (aj ?_)
  refine aY Z Z (ltN Z) (fun b1 => ?_)
  refine An Z (Ap (aa (ah (ah (aj (Al (ab Z) (Al (ak 0 Z Z Z) ?_)))))))
  refine Al (am (a4 _ _ _) Z ⟨W,Aq⟩) ?_
  refine Al (bx Z) (Am Z (Ao (ab Z) (Ao (ak 0 Z Z Z) ?_)))
  refine Ao (am (a4 _ _ _) Z ⟨W,Aq⟩) ?_
  refine Ao (bx Z) (Al (ay Z Z) (Am Z (Ao (ab Z) (Ao (ak 0 Z Z Z) ?_))))
  refine Ao (am (a4 _ _ _) Z ⟨W,Aq⟩) ?_
  refine Ao (bx Z) (Al (ay Z Z) (Am Z (Ao (ab Z) (Ao (ak 0 Z Z Z) ?_))))
  refine Ao (am (a4 _ _ _) Z ⟨W,Aq⟩) ?_
  refine Ao (bx Z) (Al (ay Z Z) (Ap (aa (aA Z (au (aa (ah (aj (Al (ab Z) ?_)))))))))
  refine Al (ab Z) (Al (aw 0 0 0 Z Z Z Z Z) ?_)
  refine aT (T:=3) Z (ltN Z) (fun b3 => ?_)
  refine aF 0 Z Z Z Z Z (leN Z) Z (Ap (aa (ah (aj (Al (c6 Z) (An Z (Ap (aa (ah ?_)))))))))
  refine aj (Al (ab Z) (Al (ab Z) (Al (aw 1 3 0 Z Z Z Z Z) (Al (ak 0 Z Z Z) (Al (sF S (cj Z Z)) (Am Z (sn0 Z Z Z Z Z (sn0 Z Z Z Z Z (sn0 Z Z Z Z Z ?_)))))))))
  refine sn0 Z Z Z Z Z (sn0 Z Z Z Z Z (sn0 Z Z Z Z Z (sn0 Z Z Z Z Z (Al (ay Z Z) (Am Z (sn0 Z Z Z Z Z (sn0 Z Z Z Z Z (sn0 Z Z Z Z Z (sn0 Z Z Z Z Z ?_)))))))))
  refine Al (ay Z Z) (Am Z (sn0 Z Z Z Z Z (sn0 Z Z Z Z Z (sn0 Z Z Z Z Z (sn0 Z Z Z Z Z (Al (ay Z Z) (Am Z (sn0 Z Z Z Z Z (sn0 Z Z Z Z Z ?_)))))))))
  refine sn0 Z Z Z Z Z (Al (ay Z Z) (Am Z (sn0 Z Z Z Z Z (sn0 Z Z Z Z Z (sn0 Z Z Z Z Z (sn0 Z Z Z Z Z (Al (ay Z Z) (Am Z (sn0 Z Z Z Z Z ?_)))))))))
  refine sn0 Z Z Z Z Z (sn0 Z Z Z Z Z (Al (ay Z Z) (Am Z (sn0 Z Z Z Z Z (sn0 Z Z Z Z Z (sn0 Z Z Z Z Z (sn0 Z Z Z Z Z (sn0 Z Z Z Z Z (sn0 Z Z Z Z Z ?_)))))))))
  refine Al (ay Z Z) (An Z (Ap (aa (aG ?_))))
  refine aP Tryz.results34 (.tmp Z W)
end Tor
end
section
namespace Tor
open Go Go.RowKit Go.Proofs
def ju (F:Nat→Nat→Int) (i j:Nat) (x:Int):Nat→Nat→Int:=fun q k=>if q<i∨(q=i∧k<j) then F q k else if q=i∧k=j then x else 0
theorem rc (F:Nat→Nat→Int) (i j:Nat):ju F i j 0=e9 F i j:=by
 funext q k;unfold ju e9;split
 ·rfl
 ·split <;> rfl
theorem rd (F:Nat→Nat→Int) (i j:Nat):ju F i j (F i j)=e9 F i (j+1):=by
 funext q k;unfold ju e9
 by_cases h:q<i∨q=i∧k<j
 ·rw [if_pos h,if_pos S]
 ·rw [if_neg h]
  by_cases h2:q=i∧k=j
  ·obtain ⟨rfl,rfl⟩:=h2;rw [if_pos ⟨rfl,rfl⟩,if_pos S]
  ·rw [if_neg h2,if_neg S]
theorem uV (F:Nat→Nat→Int) (i j:Nat) (x:Int):ju F i j x i j=x:=by
 unfold ju;rw [if_neg S,if_pos ⟨rfl,rfl⟩]
theorem tx {T:TypeId} {c:Nat} {bs:List Nat} {F:Nat→Nat→Int} {i j:Nat} (x y:Int) :
  Own.le (bX T (.agg 2) c bs (eO (fun q k=>bm (ju F i j x q k)) i j (bm y))) (bX T (.agg 2) c bs (fun q k=>bm (ju F i j y q k))):=by
 refine dM fun q k hq hk => ?_
 unfold eO ju
 by_cases h:q=i∧k=j
 ·obtain ⟨rfl,rfl⟩:=h
  rw [if_pos ⟨rfl,rfl⟩,if_neg S,if_pos ⟨rfl,rfl⟩]
 ·simp only [if_neg h]
attribute [local irreducible] J PJ aQ one slT cA bG bZ exT cE eP aX a8 slV VT.le Ret bS
attribute [local irreducible] bm bX
theorem tz (ra ca:Nat) (F:Nat→Nat→Int) (rb cb:Nat) (G:Nat→Nat→Int) (hr0:ra≤1048576) (hc0:ca≤1048576) (hd0:cb≤1048576) (hF : ∀ i j,cx (F i j)) (hG : ∀ i j,cx (G i j)) :
  Ok Tryz.prog 74 [bp ra ca F,bp rb cb G] (nI (decide (ca=rb)) 50 ra cb (fG ca F G)):=by
 unfold nI bp
 refine Ok.enter Tryz.func74 Z Tryz.ntmps74 Z (fun w O => ?_)
 refine ah (aj ?_)
 refine aY Z Z (ltN Z) (fun b => ?_)
 refine aY Z Z (ltN Z) (fun b => ?_)
 refine a7 (T:=29) Z Z Z (fun b => ?_)
 refine An Z (Ap (aa (ah (ah (aj (Al (ab Z) (Al (ak 2 Z Z Z) (Al (ab Z) (Al (ak 1 Z Z Z) ?_)))))))))
 refine Al (dy Z Z) (Ap (aa ?_))
 refine a5 Z (fun hc => ?_) (fun hc => ?_) <;> simp only [decide_eq_true_eq,decide_eq_false_iff_not,ne_eq,Decidable.not_not] at hc
 ·have hne : ¬ ca=rb:=by omega
  refine ah (aj (stB Z Z Z (BuildK.nil (aW 0 Z Z Z Z (An Z (Ap (aa (aG (aB ?_)))))))))
  refine gr Tryz.results74 (.cellW 0 Z Z ?_) (.tmp Z (aq ?_))
  ·rw [decide_eq_false hne]; exact qg _
  ·rw [decide_eq_false hne]; rfl
 ·have e2:ca=rb:=by omega
  subst e2
  refine au (aa (ah (aj (Al (ab Z) (Al (ak 2 Z Z Z) (Al (ab Z) (Al (ak 1 Z Z Z) ?_)))))))
  refine eu (je ra cb hr0 hd0) Z ⟨W,W,Aq⟩ Z Z (fun s => ?_)
  obtain ⟨⟨bs,sv1,cap1⟩,hlen,hsv⟩:=s
  simp only at hlen hsv
  unfold gS
  refine a7 (T:=29) Z Z Z (fun b => ?_)
  refine aW 0 Z Z Z Z (Ap (aa (ah (ah (aj (An Z (Ap (aa (ar ?_)))))))))
  rename_i b2 b3 b4
  refine cO (σ:=Nat) (fun i => [(2,one (.pointer (some ⟨b2,0,none⟩))),(3,one (.pointer (some ⟨b3,0,none⟩))),(4,one (.pointer (some ⟨b4,0,none⟩))),(6,one (.pointer (some ⟨b,0,none⟩))),(7,one (.int .i64 (i:Nat)))])
   (fun i => [aX b 29 3 [(0, .one,one (.int .i64 ra)),(1, .one,one (.int .i64 cb)),(2, .one,one (slV sv1 ra cap1))],bO sv1 cap1 ra cb bs,bg cb bs (e9 (fG ca F G) i 0),aX b4 29 3 (dw #[Value.int IntKind.i64 0,Value.int IntKind.i64 0,Value.slice none 0 0] [(0,Lay.one),(1,Lay.one),(2,Lay.one)]),aX b3 29 3 [(0, .one,one (.int .i64 ca)),(1, .one,one (.int .i64 cb)),(2, .one,slT .one ca (fun i=>cX cb (G i)))],aX b2 29 3 [(0, .one,one (.int .i64 ra)),(1, .one,one (.int .i64 ca)),(2, .one,slT .one ra (fun i=>cX ca (F i)))]])
   (fun i=>i≤ra) (fun i=>ra - i) 0 (Nat.zero_le _) Ai (.keep Ak (.keep Ak (.keep (du fun i j hi hj=>by simp [e9]) (SubM.refl _)))) (fun i hi => ?_)
  refine ah (ah (aj (Am Z (Al (ab Z) (Al (ak 5 Z Z Z) (Al (aS Z Z) (Ap (aa ?_))))))))
  refine a5 Z (fun hc => ?_) (fun hc => ?_) <;> simp only [decide_eq_true_eq,decide_eq_false_iff_not,Int.ofNat_lt] at hc
  ·obtain ⟨bo,rfl⟩:=jf hsv S
   refine au (aa (ah (ar (ah (aj (An Z (Ap (aa (ar ?_)))))))))
   refine cO (σ:=Nat) (fun j => [(2,one (.pointer (some ⟨b2,0,none⟩))),(3,one (.pointer (some ⟨b3,0,none⟩))),(4,one (.pointer (some ⟨b4,0,none⟩))),(6,one (.pointer (some ⟨b,0,none⟩))),(7,one (.int .i64 (i:Nat))),(8,one (.int .i64 (j:Nat)))])
    (fun j => [aX b 29 3 [(0, .one,one (.int .i64 ra)),(1, .one,one (.int .i64 cb)),(2, .one,one (slV (some bo) ra cap1))],bO (some bo) cap1 ra cb bs,bg cb bs (e9 (fG ca F G) i j),aX b4 29 3 (dw #[Value.int IntKind.i64 0,Value.int IntKind.i64 0,Value.slice none 0 0] [(0,Lay.one),(1,Lay.one),(2,Lay.one)]),aX b3 29 3 [(0, .one,one (.int .i64 ca)),(1, .one,one (.int .i64 cb)),(2, .one,slT .one ca (fun i=>cX cb (G i)))],aX b2 29 3 [(0, .one,one (.int .i64 ra)),(1, .one,one (.int .i64 ca)),(2, .one,slT .one ra (fun i=>cX ca (F i)))]])
    (fun j=>j≤cb) (fun j=>cb - j) 0 (Nat.zero_le _) Ai (SubM.refl _) (fun j hj => ?_)
   refine ah (ah (aj (Am Z (Al (ab Z) (Al (ak 4 Z Z Z) (Al (aS Z Z) (Ap (aa ?_))))))))
   refine a5 Z (fun hc2 => ?_) (fun hc2 => ?_) <;> simp only [decide_eq_true_eq,decide_eq_false_iff_not,Int.ofNat_lt] at hc2
   ·refine au (aa (ah (ar (ah (aj (An Z (Ap (aa (ar ?_)))))))))
    refine cO (σ:=Nat) (fun k => [(2,one (.pointer (some ⟨b2,0,none⟩))),(3,one (.pointer (some ⟨b3,0,none⟩))),(4,one (.pointer (some ⟨b4,0,none⟩))),(6,one (.pointer (some ⟨b,0,none⟩))),(7,one (.int .i64 (i:Nat))),(8,one (.int .i64 (j:Nat))),(9,one (.int .i64 (k:Nat)))])
     (fun k => [aX b 29 3 [(0, .one,one (.int .i64 ra)),(1, .one,one (.int .i64 cb)),(2, .one,one (slV (some bo) ra cap1))],bO (some bo) cap1 ra cb bs,bg cb bs (ju (fG ca F G) i j (c5 k (fun k=>F i k*G k j))),aX b4 29 3 (dw #[Value.int IntKind.i64 0,Value.int IntKind.i64 0,Value.slice none 0 0] [(0,Lay.one),(1,Lay.one),(2,Lay.one)]),aX b3 29 3 [(0, .one,one (.int .i64 ca)),(1, .one,one (.int .i64 cb)),(2, .one,slT .one ca (fun i=>cX cb (G i)))],aX b2 29 3 [(0, .one,one (.int .i64 ra)),(1, .one,one (.int .i64 ca)),(2, .one,slT .one ra (fun i=>cX ca (F i)))]])
     (fun k=>k≤ca) (fun k=>ca - k) 0 (Nat.zero_le _) Ai (.keep Ak (.keep Ak (.keep (by rw [show c5 0 (fun k=>F i k*G k j)=0 from rfl,rc]; exact Own.le_refl _) (SubM.refl _)))) (fun k hk => ?_)
    refine ah (ah (aj (Am Z (Al (ab Z) (Al (ak 5 Z Z Z) (Al (aS Z Z) (Ap (aa ?_))))))))
    refine a5 Z (fun hc3 => ?_) (fun hc3 => ?_) <;> simp only [decide_eq_true_eq,decide_eq_false_iff_not,Int.ofNat_lt] at hc3
    ·refine au (aa (ah (ar (aZ 33 aV X Y ?_))))
     unfold cX
     refine Al (ab Z) (Al (ak 0 Z Z Z) (Am Z ?_))
     (refine Al (an Z Z ?_) ?_;omega)
     (refine Al (aI 1 Z Z ?_) ?_;omega)
     refine Am Z (Al (ab Z) (Al (ak 0 Z Z Z) (Am Z ?_)))
     (refine Al (an Z Z ?_) ?_;omega)
     (refine Al (aI 1 Z Z ?_) ?_;omega)
     refine Am Z ?_
     (refine Al (an Z Z ?_) ?_;omega)
     (refine Al (bd 2 Z Z (bC ?_) ?_) ?_;omega;omega)
     refine Al (ab Z) (Al (ak 5 Z Z Z) (Am Z ?_))
     (refine Al (ax Z Z ?_) ?_;omega)
     refine Al (aH Z) (Am Z ?_)
     (refine Al (ax Z Z ?_) ?_;omega)
     refine Al (aH Z) (Al (ab Z) (Al (ak 4 Z Z Z) (Am Z ?_)))
     (refine Al (ax Z Z ?_) ?_;omega)
     refine Al (aH Z) (Am Z ?_)
     (refine Al (ax Z Z ?_) ?_;omega)
     refine Al (aH Z) ?_
     refine Al (am (fF (F i k) (G k j) (bA (hF i k)) (bA (hG k j))) Z ⟨W,W,Aq⟩) ?_
     rw [uV]
     refine Al (am (gT (c5 k (fun k=>F i k*G k j)) (F i k*G k j) (mw S (fun k=>ms (hF i k) (hG k j))) (fW (hF i k) (hG k j))) Z ⟨W,W,Aq⟩) ?_
     (refine Al (an Z Z ?_) ?_;omega)
     refine Ap ?_
     (refine a9 2 Z Z Z (bC ?_) ?_ Z ?_;omega;omega)
     refine Ap (aD (aa (aj (Am Z ?_))))
     (refine Al (cq Z Z (aR ?_ ?_)) ?_;omega;omega)
     refine An Z (Ap ?_)
     exact bM (s:=k) (k+1) (show _ from by omega) (by show ca - (k+1)<ca - k;omega) Ai (.keep Ak (.keep Ak (.keep (tx _ _) (SubM.refl _))))
    ·have hkm:k=ca:=by omega
     subst hkm
     refine aU (av (av (aC (aD (aa (aj (Am Z ?_)))))))
     (refine Al (cq Z Z (aR ?_ ?_)) ?_;omega;omega)
     refine An Z (Ap ?_)
     exact bM (s:=j) (j+1) (show _ from by omega) (by show cb - (j+1)<cb - j;omega) Ai (.keep Ak (.keep Ak (.keep (by rw [← rd]; exact Own.le_refl _) (SubM.refl _))))
   ·have hjm:j=cb:=by omega
    subst hjm
    refine aU (av (av (aC (aD (aa (aj (Am Z ?_)))))))
    (refine Al (cq Z Z (aR ?_ ?_)) ?_;omega;omega)
    refine An Z (Ap ?_)
    exact bM (s:=i) (i+1) (show _ from by omega) (by show ra - (i+1)<ra - i;omega) Ai (.keep Ak (.keep Ak (.keep mF (SubM.refl _))))
  ·have hin:i=ra:=by omega
   subst hin
   refine aU (av (av (aC (aa (ah (aj (Al (aL 0 Z Z) (aW 3 Z Z Z Z (An Z ?_)))))))))
   refine Ap (aa (aG ?_))
   have hperm : ∀ (x y z u t s:Own), [x,y,z,u,t,s].Perm ([y,z] ++ [x,u,t,s]):=fun x y z u t s=>(List.Perm.swap y x _).trans (List.Perm.cons y (List.Perm.swap z x _))
   refine fQ [bO sv1 cap1 i cb bs,bg cb bs (e9 (fG ca F G) i 0)] (hperm _ _ _ _ _ _) (.keep (vF.refl _) (.keep (vF.box (jd hlen ⟨by simp,by simp,by simp⟩)) (.keep (vF.refl _) (.keep (vF.refl _) .nil)))) (qN.refl _) ?_
   refine gr Tryz.results74 (.cellW 1 Z Z ?_) (.tmp Z (aq ?_))
   ·simp only [decide_true,if_true]; exact kn fun a b ha hb=>by simp [e9,ha]
   ·simp
end Tor
end
section
namespace Tor
open Go Go.RowKit Go.Proofs
attribute [local irreducible] J PJ aQ one slT cA bG bZ exT cE eP aX a8 slV VT.le Ret bS
attribute [local irreducible] bm
theorem ks (ra ca:Nat) (F:Nat→Nat→Int) (cb:Nat) (G:Nat→Nat→Int) (hr0:ra≤1048576) (hc0:ca≤1048576) (hd0:cb≤1048576) (hF : ∀ i j,cx (F i j)) (hG : ∀ i j,cx (G i j)) :
  Ok Tryz.prog 39 [bp ra ca F,bp ca cb G] (bp ra cb (fG ca F G)):=by
 unfold bp
 refine Ok.enter Tryz.func39 Z Tryz.ntmps39 Z (fun w O => ?_)
 refine ah (aj ?_)
 refine aY Z Z (ltN Z) (fun b => ?_)
 refine aY Z Z (ltN Z) (fun b => ?_)
 refine a7 (T:=29) Z Z Z (fun b => ?_)
 refine Ap (aa (ah (aj (Al (aL 2 Z Z) (Al (aL 1 Z Z) ?_)))))
 have h:=(tz ra ca F ca cb G hr0 hc0 hd0 hF hG)
 rw [decide_eq_true (show ca=ca from rfl)] at h
 refine Al (am h Z ⟨W,W,Aq⟩) ?_
 unfold nI
 simp only [if_true]
 refine Am Z (Al (aN Z Z) (Al (aN Z Z) ?_))
 refine a7 (T:=29) Z Z Z (fun b => ?_)
 refine aW 0 Z Z Z Z (An Z (Ap (aa (ah (aj (Al (aL 0 Z Z) (aW 1 Z Z Z Z (Ap (aa ?_)))))))))
 refine aG ?_
 exact aP Tryz.results39 (.cellW 1 Z Z W)
end Tor
end
section
namespace Tor
open Go Go.RowKit Go.Proofs
theorem jJ (r c:Nat) (F:Nat→Nat→Int) (hr:r≤1048576) (hF : ∀ i j,ci (F i j)):Ok Tryz.prog 37 [bp r c F] (one (.bool true)):=by
 have h:=oy r c (iT r c F) (by simp [iT]; omega) (fun v hv p hp=>by
  simp only [iT,tab,List.map_map,List.mem_map,List.mem_range] at hv
  obtain ⟨i,_,rfl⟩:=hv
  simp only [Function.comp,List.map_map,List.mem_map,List.mem_range] at hp
  obtain ⟨j,_,rfl⟩:=hp
  have:=hF i j
  unfold ci at this
  simp only [Function.comp,kg]; omega)
 rw [mq] at h
 exact h.le ⟨pW r c F,Aq⟩ W
attribute [local irreducible] J PJ aQ one slT cA bG bZ exT cE eP aX a8 slV VT.le Ret bS
attribute [local irreducible] bm
end Tor
end
