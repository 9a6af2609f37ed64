/-
  Theorems that the proofs of laws of this seat rest on.
  No condition.
-/
import Derived.Test.YtamglpeiacmooaaGreatZA5
set_option maxHeartbeats 20000000
set_option linter.unusedVariables false
set_option linter.unusedSimpArgs false
section
namespace Tor
open Go Go.RowKit Go.Proofs
theorem wr:VT.le (one (.slice none 0 0)) (li 0):=VT.le_trans gJ (fL (l := []) (fun _ h=>by cases h) Z)
theorem sr {a b:Nat} : (lh a b<0)=(a<b):=by unfold lh;split <;> simp_all <;> (try split) <;> omega
theorem qh {b:Nat} (h:(aP b).length=1):(aP b).getD 0 0=b:=by
 have h1:=bO (l:=aP b) (k:=0) S
 rw [List.take_of_length_le S,bZ] at h1
 simpa [lv] using h1.symm
theorem ws {v:Nat} (h:v<4294967296):VT.le (slT .one 1 fun _=>one (.int .u32 (v:Nat))) (li v) :=
 VT.le_trans (cR (m := [v].length) (ψ:=fun i=>one (.int .u32 ([v].getD i 0:Nat))) Z (fun q hq=>by
  have hq:q<1:=hq
  have:q=0:=by omega
  subst this;rfl)) (fL (l := [v]) (fun d hd=>by simp at hd;omega) (by simp [lv]))
def lL:Nat→Nat→List Nat
 | 0, _ => []
 | n + 1, v => v % 4294967296 :: lL n (v / 4294967296)
theorem mS : ∀ n v,(lL n v).length=n
 | 0, _ => rfl
 | n + 1, v => by rw [lL, List.length_cons, mS n]
theorem mT : ∀ n v,bH (lL n v)
 | 0, _ => fun d hd => by cases hd
 | n + 1, v => fun d hd => by
  rw [lL] at hd
  rcases List.mem_cons.1 hd with rfl | hd
  ·exact Nat.mod_lt _ Y
  ·exact mT n _ d hd
theorem mU : ∀ n v,v<4294967296^n→lv (lL n v)=v
 | 0, v, h => by simp at h; subst h; rfl
 | n + 1, v, h => by
  have:v / 4294967296<4294967296^n:=Nat.div_lt_of_lt_mul (by rw [Nat.mul_comm, ← Nat.pow_succ]; exact h)
  rw [lL,lv,mU n _ this]; omega
theorem qi : ∀ {z:List Nat},bH z→z=lL z.length (lv z)
 | [], _ => rfl
 | d :: z, h => by
  have hd:=h.head
  have ih:=qi h.tail
  rw [List.length_cons,lL,lv]
  rw [show (d+4294967296*lv z) % 4294967296=d by omega,show (d+4294967296*lv z) / 4294967296=lv z by omega, ← ih]
theorem u6 {l:List Nat} {s:Nat} (hl:bH l) (hs:s<32):lv l*2^s<4294967296^(l.length+1):=by
 rw [Nat.pow_succ]
 have h1:2^s≤4294967296:=Nat.pow_le_pow_right (n:=2) Y (show s≤32 by omega)
 exact Nat.lt_of_lt_of_le (Nat.mul_lt_mul_of_pos_right (gu hl) (Nat.two_pow_pos s)) (Nat.mul_le_mul_left _ h1)
def xG (l:List Nat) (s:Nat) (hl:bH l) (hs:s<32):pb l s:=⟨(0,lL (l.length+1) (lv l*2^s)),mS _ _,mT _ _,mU _ _ (u6 hl hs)⟩
theorem tA (l:List Nat) (s:Nat) (hl:bH l) (h1:l.length≤1099511627776) (hs:s<32):Ok Tryz.prog 124 [ct l,one (.int .i64 (s:Nat))] (slT .one (l.length+1) (fV (lL (l.length+1) (lv l*2^s)))) :=
 (qf l s hl h1 hs).ok fun p=>by
  have h:=qi p.2.2.1
  rw [p.2.1,p.2.2.2] at h
  rw [← h]
  exact Ent.sl List.mem_cons_self
theorem tC {z:List Nat} {q m:Nat} (h:q<m):fV z (Int.toNat 0+q)=fV (z.take m) q:=by
 have e:Int.toNat 0+q=q:=Nat.zero_add q
 rw [e]
 unfold fV
 rw [show (z.take m).getD q 0=z.getD q 0 by simp [List.getD,List.getElem?_take,h]]
theorem wu {br:Option Nat} {T:TypeId} {n i s:Nat} {U:List Nat} (hi:i<n):Own.le (bf br T .one n n (upd (fun q=>one (.int .u32 ((if q<i then (eR U s n).getD q 0 else 0:Nat):Int))) i (one (.int .u32 (((U.getD (i+1) 0*4294967296+U.getD i 0) / 2^s % 4294967296:Nat):Int)))))
  (bf br T .one n n (fun q=>one (.int .u32 ((if q<i+1 then (eR U s n).getD q 0 else 0:Nat):Int)))):=cD (fun q hq=>by
 unfold upd
 by_cases h:q=i
 ·subst h;rw [if_pos Z,if_pos (Nat.lt_succ_self q),wn U s hi]; rfl
 ·rw [if_neg h]
  dsimp only
  by_cases h2:q<i
  ·rw [if_pos h2,if_pos (Nat.lt_succ_of_lt h2)]
  ·rw [if_neg h2,if_neg S])
attribute [local irreducible] J PJ aU one slT cC bJ ci exT cH eP aY bf slV VT.le Ret bW
set_option maxRecDepth 20000 in
theorem tD (a b:Nat) (hb:b≠0) (ha:(aP a).length≤1099511627776):Ok Tryz.prog 115 [ct (aP a),ct (aP b)] (ci [li (a / b),li (a % b)]):=by
 have hcl:=mK (aP a) ha
 have hcm:=jY a b
 refine Ok.enter Tryz.func115 Z Tryz.ntmps115 Z (fun w O => ?_)
 by_cases h1:a<b
 ·rw [Nat.div_eq_of_lt h1,Nat.mod_eq_of_lt h1]
  have hlt:lh a b<0:=by rw [sr]; exact h1
  refine ah (aj (An Z (An Z (Ap (ab (ah (ao (ah (aj ?_)))))))))
  refine Am Z (Am Z ?_)
  refine Al (am (hcm) Z ⟨W,W,Aq⟩) ?_
  refine Al (sT (by assumption) (aO Z Z)) (An Z (Ap (ab (aB Z (ah (aj (Am Z ?_)))))))
  refine Al (am (hcl) Z ⟨W,Aq⟩) ?_
  refine An Z (An Z (Ap (ab (aH (a7 (aE ?_))))))
  refine gI Tryz.results115 (.tmp Z (wr)) (.tmp Z (c6 _))
 ·have hlt : ¬ lh a b<0:=by rw [sr]; exact h1
  have hlen:=cx (Nat.le_of_not_lt h1)
  by_cases h2:(aP a).length≤2
  ·have hw1:=so (aP a) (bp a) h2
   have hw2:=so (aP b) (bp b) S
   rw [bZ] at hw1 hw2
   have a64:a<18446744073709551616:=Nat.lt_of_lt_of_le (dJ a) (Nat.pow_le_pow_right (n:=4294967296) Y h2)
   have b64:b<18446744073709551616:=by omega
   have q64:a / b<18446744073709551616:=Nat.lt_of_le_of_lt (Nat.div_le_self _ _) a64
   have r64:a % b<18446744073709551616:=Nat.lt_of_le_of_lt (Nat.mod_le _ _) a64
   have hk1:=kC (a / b) q64
   have hk2:=kC (a % b) r64
   refine ah (aj (An Z (An Z (Ap (ab (ah (ao (ah (aj ?_)))))))))
   refine Am Z (Am Z ?_)
   refine Al (am (hcm) Z ⟨W,W,Aq⟩) ?_
   refine Al (sF (by assumption) (aO Z Z)) (An Z (Ap (ab (ay Z (ah (aj (Am Z (Al (bk Z) (Al (sT S (fe Z Z)) ?_)))))))))
   refine An Z (Ap (ab (aB Z (ah (aj (Am Z ?_))))))
   refine Al (am (hw1) Z ⟨W,Aq⟩) ?_
   refine Am Z ?_
   refine Al (am (hw2) Z ⟨W,Aq⟩) ?_
   refine An Z (An Z (Ap (ab (ah (aN 9 aK X Y (Am Z (Am Z (Al (jU Z Z S S) ?_))))))))
   refine Al (am (hk1) Z ⟨W,Aq⟩) ?_
   refine Am Z (Am Z (Al (cP _ Z Z Z S) ?_))
   refine Al (am (hk2) Z ⟨W,Aq⟩) ?_
   refine An Z (Ap (An Z (Ap (ab (aH (a7 (aE ?_)))))))
   refine gI Tryz.results115 (.tmp Z W) (.tmp Z W)
  ·by_cases h3:(aP b).length=1
   ·have hb1:=qh h3
    have hd:=bt (bp b) 0
    have hsh:=u3 (aP a) b (bp a) ha S S
    rw [bZ] at hsh
    have hr:=Nat.mod_lt a (show 0<b by omega)
    refine ah (aj (An Z (An Z (Ap (ab (ah (ao (ah (aj ?_)))))))))
    refine Am Z (Am Z ?_)
    refine Al (am (hcm) Z ⟨W,W,Aq⟩) ?_
    refine Al (sF (by assumption) (aO Z Z)) (An Z (Ap (ab (ay Z (ah (aj (Am Z (Al (bk Z) (Al (sF S (fe Z Z)) ?_)))))))))
    refine An Z (Ap (ab (ay Z (ah (aj (Am Z (Al (bk Z) (Al (sT S (bI Z Z)) (An Z ?_)))))))))
    refine Ap (ab (aB Z (ah (aj (Am Z (Am Z (Al (ep Z Z S S) (Al (aG Z) ?_))))))))
    refine Al (am (hsh) Z ⟨W,(ar (by rw [show (aP b).getD (Int.toNat 0) 0=b from hb1])),Aq⟩) ?_
    refine Am Z (Al (a6 Z Z) (Al (a6 Z Z) (An Z (An Z (Ap (ab (ah (aj (Am Z ?_)))))))))
    refine Am Z (ol Z Z Z Z (An Z (An Z (Ap (ab (aH (a7 (aE ?_))))))))
    refine gI Tryz.results115 (.tmp Z W) (.tmp Z (ws S))
   ·have hdb:aP b ≠ []:=fun h=>hb (by rw [← bZ b,h]; rfl)
    obtain ⟨k,hk⟩ : ∃ k,(aP b).length=k+2:=⟨(aP b).length - 2,by have:=List.length_pos_iff.2 hdb;omega⟩
    obtain ⟨e,he⟩ : ∃ e,(aP a).length=k+2+e:=⟨(aP a).length - (k+2),by omega⟩
    have hx:=bt (bp b) ((aP b).length - 1)
    have S0:=xF hk
    rw [show k+1=(aP b).length - 1 by omega] at S0
    have hlz:=wi ((aP b).getD ((aP b).length - 1) 0) hx
    generalize 32 - gZ ((aP b).getD ((aP b).length - 1) 0)=s at S0 hlz
    have s32:=S0.s32
    have hsv:=tA (aP b) s (bp b) S s32
    have hsu:=qf (aP a) s (bp a) ha s32
    refine ah (aj (An Z (An Z (Ap (ab (ah (ao (ah (aj ?_)))))))))
    refine Am Z (Am Z ?_)
    refine Al (am (hcm) Z ⟨W,W,Aq⟩) ?_
    refine Al (sF (by assumption) (aO Z Z)) (An Z (Ap (ab (ay Z (ah (aj (Am Z (Al (bk Z) (Al (sF S (fe Z Z)) ?_)))))))))
    refine An Z (Ap (ab (ay Z (ah (aj (Am Z (Al (bk Z) (Al (sF S (bI Z Z)) (An Z ?_)))))))))
    refine Ap (ab (ay Z (av (aD (ab (ah (aj (Am Z (Am Z ?_)))))))))
    refine Al (bk Z) (Al (dH _ 1 Z Z S S) (Al (ax Z Z S) (Al (aG Z) ?_)))
    refine Al (am (hlz) Z ⟨W,Aq⟩) ?_
    refine Am Z (Al (bk Z) (An Z (An Z (Ap (ab (ah (bL (Γ' := [(0,_),(1,_),(4,_),(5,_),(10,_),(11,_)]) Ag (SubM.refl _) ?_)))))))
    refine xq (σ:=pb (aP a) s) 2 (xG (aP a) s (bp a) s32) (fun p=>one (slV (some p.1.1) ((aP a).length+1) ((aP a).length+1))) (fun p => [bf (some p.1.1) 90 .one ((aP a).length+1) ((aP a).length+1) (fV p.1.2)]) aK X Y ?_
    refine vx Z (fun s B=>ae Z) Z ?_
    refine vx Z (fun s B=>ae Z) Z ?_
    refine vc Z hsu (fun s=>rfl) ⟨W,W,Aq⟩ Z ?_
    refine vx Z (fun s B=>ae Z) Z ?_
    refine vx Z (fun s B=>ae Z) Z ?_
    refine vx Z (fun s B=>am hsv Z ⟨W,W,Aq⟩) Z ?_
    refine vx Z (fun s B=>ae Z) Z ?_
    refine vx Z (fun s B=>ae Z) Z ?_
    refine vx Z (fun s B=>fj Z Z Z Z (fun _=>rfl) S S S S) Z ?_
    refine vd Z X (fun s B=>ai Z) Z ?_
    refine vx Z (fun s B=>ai Z) Z ?_
    refine .nil (fun p => ?_)
    obtain ⟨⟨bu,U⟩,hu1,hu2,hu3⟩:=p
    dsimp only at hu1 hu2 hu3 ⊢
    rw [bZ] at hu3
    rw [he] at hu1
    rw [bZ,hk,he]
    obtain ⟨z,hz⟩ : ∃ z,z=lL (k+2+1) (b*2^s):=⟨_,rfl⟩
    have z1:=mS (k+2+1) (b*2^s)
    have z2:=mT (k+2+1) (b*2^s)
    have z3:=mU (k+2+1) (b*2^s) (Nat.lt_of_lt_of_le S0.hi (Nat.pow_le_pow_right Y S))
    rw [← hz] at z1 z2 z3 ⊢
    obtain ⟨v1,v2,v3,v4⟩:=S0.v z2 z1 z3
    refine oe (Γ' := [(0,slT .one (k+2+e) (fV (aP a))),(4,_),(5,_),(10,_),(11,one (.int .i64 ((k+2:Nat):Int))),(12,one (slV (some bu) (k+2+e+1) (k+2+e+1))),(13,ct (z.take (k+2)))]) (.cons Z (cR he (fun _ _=>rfl)) (.cons Z W (.cons Z W (.cons Z W (.cons Z W (.cons Z W (.cons Z ?_ .nil))))))) (SubM.refl _) ?_
    ·exact cR (by rw [v2]; omega) (fun q hq=>tC S)
    generalize z.take (k+2)=v at *
    have hV0:0<b*2^s:=Nat.mul_pos S (Nat.two_pow_pos s)
    have hVn:=S0.hi
    have hA:=S0.u he
    refine ab (ah (aj (Am Z (Al (bk Z) (Am Z (Al (dH _ _ Z Z S S) (Al (bj _ 1 Z Z S) ?_)))))))
    refine cO (e+1) (e+1) Z Z S S (Nat.le_refl _) Z Z S Z Z (fun bz => ?_)
    refine An Z (Ap (ab (ah (ah (aj (Am Z (Al (bk Z) (Am Z (Al (dH _ _ Z Z S S) ?_)))))))))
    refine An Z (Ap (ab (ao (bL (Γ' := [(4,_),(5,_),(10,_),(11,_),(12,_),(13,_),(14,_),(15,_)]) Ag (SubM.refl _) ?_))))
    refine bE (σ:=List Nat × List Nat × Nat) (Γk := [(4,_),(5,_),(10,_),(11,_),(12,_),(13,_),(14,_)]) Ag (fun p => [(15,one (.int .i64 ((p.2.2:Nat) - 1:Int)))]) (fun p M0=>((M0.set 0 (bf (some bz) 90 .one (e+1) (e+1) (fV p.2.1))).set 1 (bf (some bu) 90 .one (k+2+e+1) (k+2+e+1) (fV p.1)))) (fun p=>DivR (b*2^s) (a*2^s) (k+2) e p) (fun p=>p.2.2) ((U,List.replicate (e+1) 0,e+1)) (DivR.start hu2 hu1 hu3 hA) Ah (.keep (cD (fun q _=>by unfold fV;rw [cL]; rfl)) (.keep Ak (.nil))) (fun p hp => ?_)
    refine bN (Γ' := [(15,_),(4,_),(5,_),(10,_),(11,_),(12,_),(13,_),(14,_)]) (M' := [_,_]) Z Z ?_
    obtain ⟨U1,Q,c⟩:=p
    dsimp only at hp ⊢
    have hu1:U1.length=k+2+e+1:=hp.lu
    have hq1:Q.length=e+1:=hp.lq
    have hcl:c≤e+1:=hp.le
    refine ah (ah (aj (Am Z (Al (eV Z Z) (Ap (ab ?_))))))
    cases c with
    | zero =>
     refine lS Z S (a4 (az (az (aI (ab (ah (aj (Am Z ?_))))))))
     obtain ⟨f1,f2⟩:=hp.finish S
     refine cO (k+2) (k+2) Z Z Z Z (Nat.le_refl _) Z Z S Z Z (fun br => ?_)
     refine An Z (Ap (ab (ah (ah (aj (Am Z (Am Z (Ap (ab ?_)))))))))
     refine ao (bL (Γ' := [(4,_),(5,_),(10,_),(12,_),(14,_),(16,_),(102,_),(103,_)]) Ag (SubM.refl _) ?_)
     refine bE (σ:=Nat) (Γk := [(4,_),(5,_),(10,_),(12,_),(14,_),(16,_),(102,_)]) Ag (fun i => [(103,one (.int .i64 (i:Nat)))]) (fun i M0=>(M0.set 0 (bf (some br) 90 .one (k+2) (k+2) (fun q=>one (.int .u32 ((if q<i then (eR U1 s (k+2)).getD q 0 else 0:Nat):Int)))))) (fun i=>i≤k+2) (fun i=>k+2 - i) (0) (Nat.zero_le _) Ah (.keep Ak (.keep Ak (.keep Ak (.nil)))) (fun i hi => ?_)
     refine bN (Γ' := [(103,_),(4,_),(5,_),(10,_),(12,_),(14,_),(16,_),(102,_)]) (M' := [_,_,_]) Z Z (ah (aj (Al (aO Z Z) (Ap (ab (ah ?_))))))
     refine no Z (fun hc => ?_) (fun hc => ?_)
     ·have hik:i<k+2:=by omega
      have g0:=bt (show bH U1 from hp.limU) i
      have g1:=bt (show bH U1 from hp.limU) (i+1)
      refine av (ab (ah (ao (ah (aj (Am Z (An Z (Ap (ab ?_)))))))))
      refine aN 18 aK X Y (Am Z (Am Z (Am Z (Am Z (Al (bj _ 1 Z Z S) (Al (an Z Z S) (Al (aS 2 Z Z S) (Al (bR Z S) (Al (jX (s:=32) Z Z S S) ?_)))))))))
      refine Am Z (Am Z (Al (an Z Z S) (Al (aS 2 Z Z S) (Al (bR Z S) (Al (lf Z Z S S) (Am Z ?_))))))
      refine Al (mv Z Z (by (show _<64;omega))) ?_
      refine Al (cS Z) (Ap (Al (an Z Z S) ?_))
      (refine bK 0 Z Z Z ?_ Z ?_;omega)
      refine Ap (aD (ab (aj (Al (bj _ 1 Z Z S) (Am Z (Ap ?_))))))
      refine aM (i+1) (by assumption) S Ah (.keep (wu hik) (.keep Ak (.keep Ak (.nil))))
     ·have hik:i=k+2:=by omega
      subst hik
      refine a4 (az (az (aI (ab (ah (aj (Am Z (Am Z (An Z ?_)))))))))
      refine An Z (Ap (ab (aH ?_)))
      have hlU:lv U1<4294967296^(k+2):=Nat.lt_trans (show lv (U1.drop 0)<_ from hp.lt) hVn
      have hrv:lv (eR U1 s (k+2))=a % b:=by rw [wl hp.limU s32 (by dsimp only;omega) hlU,f2,Nat.mul_div_cancel _ (Nat.two_pow_pos s)]
      refine dE (t:=5) (i:=0) Z Z (dE (t:=4) (i:=0) Z Z ?_)
      refine gI Tryz.results115 (.tmp Z (VT.le_trans (cR (m:=Q.length) (ψ:=fV Q) hq1.symm (fun _ _=>rfl)) (fL hp.limQ f1))) (.tmp Z (VT.le_trans (cR (m:=(eR U1 s (k+2)).length) (ψ:=fV (eR U1 s (k+2))) (wo _ _ _).symm (fun q hq=>by rw [if_pos hq])) (fL (wm _ _ _) hrv)))
    | succ j =>
     obtain ⟨p1,p2,p3,p4⟩:=hp.pre hVn
     have en:((j+1:Nat):Int) - 1=(j:Nat):=by omega
     rw [en]
     refine lR Z S (av (ab (ah (ao (aj (Am Z (Am Z (Am Z (Am Z ?_)))))))))
     refine Am Z (Am Z (Al (bj _ _ Z Z S) (Al (bj _ 1 Z Z S) (Al (uq Z Z Z S S S) (Am Z ?_)))))
     refine jx (Min := [bf (some bu) 90 .one (k+2+e+1) (k+2+e+1) (fV U1)]) (Kp := [bf (some bz) 90 .one (e+1) (e+1) (fV Q)]) (u4 bu (k+2+e+1) j (k+2+e+1 - j) k U1 v hp.limU v1 hu1 S v2 S v4 (by rw [v3]; exact p4)) Z ⟨ar (by rw [show j+(k+2)+1 - j=k+3 by omega]; rfl),W,Aq⟩ (List.Perm.swap _ _ _) Z Z (fun r => ?_)
     obtain ⟨U2,o1,o2,o3⟩:=r
     dsimp only
     refine ue (List.Perm.swap _ _ _) (Al (an Z Z S) ?_)
     (refine bK 0 Z Z Z ?_ Z ?_;omega)
     refine Ap (aD (ab (aj (Am Z (Al (eH Z Z (aV S S)) (An Z (Ap ?_)))))))
     refine aM ((U2,Q.set j (lv (win U1 j (k+3)) / lv v),j)) (hp.step hV0 hVn o1 o2 (by rw [o3,v3]) (by rw [v3])) (by (simp only []; omega)) Ah (.keep (fR S Z) (.keep Ak (.nil)))
end Tor
end
section
namespace Tor
open Go Go.RowKit Go.Proofs
theorem wv {A B:Nat} (hB:0<B) (h:A % B=0):(-(A:Int)) / B = -((A / B:Nat):Int)∧(-(A:Int)) % B=0:=by
 have hm:=Nat.div_add_mod A B
 refine (Int.ediv_emod_unique S).2 ⟨?_,by omega,by omega⟩
 have e:((B*(A / B)+A % B:Nat):Int)=(A:Int):=by rw [hm]
 rw [h] at e
 rw [Int.natCast_add,Int.natCast_mul] at e
 rw [Int.mul_neg]; omega
theorem ww {A B:Nat} (hB:0<B) (h:A % B≠0):(-(A:Int)) / B = -((A / B+1:Nat):Int)∧(-(A:Int)) % B=((B - A % B:Nat):Int):=by
 have hm:=Nat.div_add_mod A B
 have hl:=Nat.mod_lt A hB
 refine (Int.ediv_emod_unique S).2 ⟨?_,by omega,by omega⟩
 have e:((B*(A / B)+A % B:Nat):Int)=(A:Int):=by rw [hm]
 rw [Int.natCast_add,Int.natCast_mul] at e
 rw [Int.mul_neg,Int.natCast_add,Int.mul_add]
 omega
theorem ss {a b:Int} (hb:b≠0):(0≤a→a / b=(if b<0 then -((a.natAbs / b.natAbs:Nat):Int) else ((a.natAbs / b.natAbs:Nat):Int))∧a % b=((a.natAbs % b.natAbs:Nat):Int)) ∧
  (a<0→a.natAbs % b.natAbs=0→a / b=(if b<0 then ((a.natAbs / b.natAbs:Nat):Int) else -((a.natAbs / b.natAbs:Nat):Int))∧a % b=0) ∧
  (a<0→a.natAbs % b.natAbs≠0→a / b=(if b<0 then ((a.natAbs / b.natAbs+1:Nat):Int) else -((a.natAbs / b.natAbs+1:Nat):Int))∧a % b=((b.natAbs - a.natAbs % b.natAbs:Nat):Int)):=by
 have hB:0<b.natAbs:=by omega
 generalize hA:a.natAbs=A
 generalize hBb:b.natAbs=B at *
 have key:(0≤a→a / (B:Int)=((A / B:Nat):Int)∧a % (B:Int)=((A % B:Nat):Int)) ∧
   (a<0→A % B=0→a / (B:Int) = -((A / B:Nat):Int)∧a % (B:Int)=0) ∧
   (a<0→A % B≠0→a / (B:Int) = -((A / B+1:Nat):Int)∧a % (B:Int)=((B - A % B:Nat):Int)):=by
  refine ⟨fun h => ?_,fun h h0 => ?_,fun h h0 => ?_⟩
  ·have:a=(A:Int):=by omega
   rw [this]; exact ⟨(Int.natCast_ediv A B).symm,(Int.natCast_emod A B).symm⟩
  ·have:a = -(A:Int):=by omega
   rw [this]; exact wv hB h0
  ·have:a = -(A:Int):=by omega
   rw [this]; exact ww hB h0
 by_cases hn:b<0
 ·have e:b = -(B:Int):=by omega
  simp only [if_pos hn]
  rw [e,Int.ediv_neg,Int.emod_neg]
  refine ⟨fun h => ?_,fun h h0 => ?_,fun h h0 => ?_⟩
  ·obtain ⟨k1,k2⟩:=key.1 h;exact ⟨by rw [k1],k2⟩
  ·obtain ⟨k1,k2⟩:=key.2.1 h h0;exact ⟨by rw [k1,Int.neg_neg],k2⟩
  ·obtain ⟨k1,k2⟩:=key.2.2 h h0;exact ⟨by rw [k1,Int.neg_neg],k2⟩
 ·have e:b=(B:Int):=by omega
  simp only [if_neg hn]
  rw [e]; exact key
theorem io {v:Nat} (h:(aP v).length=0):v=0:=by
 rw [← bZ v,List.length_eq_zero_iff.1 h]; rfl
theorem qj:aP 1 = [1]:=by rw [gr Y]; rfl
theorem u7:VT.le (slT .one 1 fun _=>one (.int .u32 1)) (ct (aP 1)):=by
 rw [qj]
 exact cR Z (fun q hq=>by
  have hq:q=0:=by omega
  subst hq;rfl)
theorem su (p:Prop) [Decidable p] (x:Int):(if (!(true == decide p))=true then -x else x)=(if p then x else -x):=by by_cases h:p <;> simp [h]
theorem wx (p:Prop) [Decidable p] (x:Int):(if (!(false == decide p))=true then -x else x)=(if p then -x else x):=by by_cases h:p <;> simp [h]
attribute [local irreducible] J PJ aU one slT cC bJ ci exT cH eP aY bf slV VT.le Ret bW
set_option maxRecDepth 20000 in
theorem nY (a b:Int) (hb:b≠0) (ha:cg a) (hbs:cg b):Ok Tryz.prog 100 [bq a,bq b] (ci [bq (a / b),bq (a % b),one (.int .i64 0)]):=by
 obtain ⟨g1,g2,g3⟩:=ss (a:=a) hb
 have hb0:(aP b.natAbs).length≠0:=fun h=>hb (by have:=io h;omega)
 have hB:b.natAbs≠0:=by omega
 have hdiv:=tD a.natAbs b.natAbs hB ha
 have ha':(aP a.natAbs).length≤1099511627776:=ha
 have hb':(aP b.natAbs).length≤1099511627776:=hbs
 have hlt:=Nat.mod_lt a.natAbs (Nat.pos_of_ne_zero hB)
 have hr0:(aP (a.natAbs % b.natAbs)).length=0↔a.natAbs % b.natAbs=0:=⟨io,fun h=>by rw [h]; rfl⟩
 have hql:(aP (a.natAbs / b.natAbs)).length≤1099511627776:=Nat.le_trans (cx (Nat.div_le_self _ _)) ha'
 have hmin:=mE b.natAbs (a.natAbs % b.natAbs) (Nat.le_of_lt hlt) hb'
 have hplus:=sb (a.natAbs / b.natAbs) 1 hql (by rw [qj]; decide)
 have hv1:=fun n=>er n (a.natAbs / b.natAbs)
 have hv2:=fun n=>er n (a.natAbs % b.natAbs)
 have hv3:=fun n=>er n (a.natAbs / b.natAbs+1)
 have hv4:=fun n=>er n (b.natAbs - a.natAbs % b.natAbs)
 unfold bq at *
 refine Ok.enter Tryz.func100 Z Tryz.ntmps100 Z (fun w O => ?_)
 by_cases hn:a<0
 ·by_cases hr:a.natAbs % b.natAbs=0
  ·have hr1:=hr0.2 hr
   refine ah (aj ?_)
   refine aR Z Z (ltN Z) (fun b2 => ?_)
   refine aR Z Z (ltN Z) (fun b3 => ?_)
   refine a5 (T:=55) Z (ltN Z) (fun b4 => ?_)
   refine a5 (T:=55) Z (ltN Z) (fun b5 => ?_)
   refine An Z (Ap (ab (ah (aN 7 aK X Y (Al (aa Z) (Al (ak 3 Z Z Z) ?_))))))
   refine Al (am (dL _) Z ⟨(c6 _),Aq⟩) ?_
   refine Al (aa Z) (Al (ak 2 Z Z Z) ?_)
   refine Al (am (dL _) Z ⟨(c6 _),Aq⟩) ?_
   refine An Z (Ap (An Z (Ap (ab (ah (ah (aj (Am Z (Al (bk Z) ?_)))))))))
   refine Al (sF S (bI Z Z)) (Ap (ab (ay Z (av (ab (ah (aj (Am Z (Am Z ?_)))))))))
   refine Al (am (hdiv) Z ⟨W,W,Aq⟩) ?_
   refine Am Z (Al (a6 Z Z) (Al (a6 Z Z) (An Z (An Z (Ap (ab (ah (aj (Am Z ?_)))))))))
   refine Al (am (dL _) Z ⟨W,Aq⟩) ?_
   refine An Z (Ap (ab (ah (ah (aj (Al (aa Z) (Al (sT (by assumption) (ak 3 Z Z Z)) (Am Z (Ao (ae Z) ?_)))))))))
   refine Ao (bk Z) (Ao (sF S (cK Z Z)) (Al (aA Z Z) (Ap (ab (ay Z (av (ab (ah (aj ?_)))))))))
   refine Al (aa Z) (Al (sT (by assumption) (ak 3 Z Z Z)) (Al (aa Z) (Al (ak 2 Z Z Z) (Al (eI Z Z) (Am Z ?_)))))
   refine Al (am (hv1 _) Z ⟨W,W,Aq⟩) ?_
   refine Am Z ?_
   refine Al (am (hv2 _) Z ⟨W,(c6 _),Aq⟩) ?_
   refine aF 1 Z Z Z Z Z (leN Z) Z (aF 0 Z Z Z Z Z (leN Z) Z (An Z (Ap (ab (aH ?_)))))
   refine ki Tryz.results100 (.cellB 1 Z Z Z (cf (by rw [(g2 hn hr).1]; exact su _ _))) (.cellB 0 Z Z Z (cf (by rw [(g2 hn hr).2,hr]; rfl))) (.tmp Z W)
  ·have hr1:(aP (a.natAbs % b.natAbs)).length≠0:=fun h=>hr (hr0.1 h)
   refine ah (aj ?_)
   refine aR Z Z (ltN Z) (fun b2 => ?_)
   refine aR Z Z (ltN Z) (fun b3 => ?_)
   refine a5 (T:=55) Z (ltN Z) (fun b4 => ?_)
   refine a5 (T:=55) Z (ltN Z) (fun b5 => ?_)
   refine An Z (Ap (ab (ah (aN 7 aK X Y (Al (aa Z) (Al (ak 3 Z Z Z) ?_))))))
   refine Al (am (dL _) Z ⟨(c6 _),Aq⟩) ?_
   refine Al (aa Z) (Al (ak 2 Z Z Z) ?_)
   refine Al (am (dL _) Z ⟨(c6 _),Aq⟩) ?_
   refine An Z (Ap (An Z (Ap (ab (ah (ah (aj (Am Z (Al (bk Z) ?_)))))))))
   refine Al (sF S (bI Z Z)) (Ap (ab (ay Z (av (ab (ah (aj (Am Z (Am Z ?_)))))))))
   refine Al (am (hdiv) Z ⟨W,W,Aq⟩) ?_
   refine Am Z (Al (a6 Z Z) (Al (a6 Z Z) (An Z (An Z (Ap (ab (ah (aj (Am Z ?_)))))))))
   refine Al (am (dL _) Z ⟨W,Aq⟩) ?_
   refine An Z (Ap (ab (ah (ah (aj (Al (aa Z) (Al (sT (by assumption) (ak 3 Z Z Z)) (Am Z (Ao (ae Z) ?_)))))))))
   refine Ao (bk Z) (Ao (sT S (cK Z Z)) (Al (aA Z Z) (Ap (ab (aB Z (aj (Am Z ?_)))))))
   refine Al (am (dL _) Z ⟨W,Aq⟩) ?_
   refine ol Z Z Z Z ?_
   refine Al (am (hplus) Z ⟨W,(u7),Aq⟩) ?_
   refine Am Z (Am Z ?_)
   refine Al (am (hmin) Z ⟨W,W,Aq⟩) ?_
   refine An Z (An Z (Ap (ab (ah (aj (Al (aa Z) (Al (sT (by assumption) (ak 3 Z Z Z)) (Al (aa Z) (Al (ak 2 Z Z Z) ?_)))))))))
   refine Al (eI Z Z) (Am Z ?_)
   refine Al (am (hv3 _) Z ⟨W,W,Aq⟩) ?_
   refine Am Z ?_
   refine Al (am (hv4 _) Z ⟨W,W,Aq⟩) ?_
   refine aF 1 Z Z Z Z Z (leN Z) Z (aF 0 Z Z Z Z Z (leN Z) Z (An Z (Ap (ab (aH ?_)))))
   refine ki Tryz.results100 (.cellB 1 Z Z Z (cf (by rw [(g3 hn hr).1]; exact su _ _))) (.cellB 0 Z Z Z (cf (by rw [(g3 hn hr).2]; rfl))) (.tmp Z W)
 ·refine ah (aj ?_)
  refine aR Z Z (ltN Z) (fun b2 => ?_)
  refine aR Z Z (ltN Z) (fun b3 => ?_)
  refine a5 (T:=55) Z (ltN Z) (fun b4 => ?_)
  refine a5 (T:=55) Z (ltN Z) (fun b5 => ?_)
  refine An Z (Ap (ab (ah (aN 7 aK X Y (Al (aa Z) (Al (ak 3 Z Z Z) ?_))))))
  refine Al (am (dL _) Z ⟨(c6 _),Aq⟩) ?_
  refine Al (aa Z) (Al (ak 2 Z Z Z) ?_)
  refine Al (am (dL _) Z ⟨(c6 _),Aq⟩) ?_
  refine An Z (Ap (An Z (Ap (ab (ah (ah (aj (Am Z (Al (bk Z) ?_)))))))))
  refine Al (sF S (bI Z Z)) (Ap (ab (ay Z (av (ab (ah (aj (Am Z (Am Z ?_)))))))))
  refine Al (am (hdiv) Z ⟨W,W,Aq⟩) ?_
  refine Am Z (Al (a6 Z Z) (Al (a6 Z Z) (An Z (An Z (Ap (ab (ah (aj (Am Z ?_)))))))))
  refine Al (am (dL _) Z ⟨W,Aq⟩) ?_
  refine An Z (Ap (ab (ah (ah (aj (Al (aa Z) (Al (sF (by assumption) (ak 3 Z Z Z)) (Am Z (sg0 Z Z Z Z ?_)))))))))
  refine sg0 Z Z Z Z (sg0 Z Z Z Z (Al (aw Z Z) (Ap (ab (ay Z (av (ab (ah (aj ?_)))))))))
  refine Al (aa Z) (Al (sF (by assumption) (ak 3 Z Z Z)) (Al (aa Z) (Al (ak 2 Z Z Z) (Al (eI Z Z) (Am Z ?_)))))
  refine Al (am (hv1 _) Z ⟨W,W,Aq⟩) ?_
  refine Am Z ?_
  refine Al (am (hv2 _) Z ⟨W,(c6 _),Aq⟩) ?_
  refine aF 1 Z Z Z Z Z (leN Z) Z (aF 0 Z Z Z Z Z (leN Z) Z (An Z (Ap (ab (aH ?_)))))
  refine ki Tryz.results100 (.cellB 1 Z Z Z (cf (by rw [(g1 S).1]; exact wx _ _))) (.cellB 0 Z Z Z (cf (by rw [(g1 S).2]; rfl))) (.tmp Z W)
end Tor
end
section
namespace Tor
open Go Go.RowKit Go.Proofs
section
variable {P:Program} {E:Env} {Γ:Ctx} {M:Mem} {d:Option Tmp} {ty:TypeId} {pos:String} {af:Array Edge} {gd:Option (Nat × Bool)}
theorem xH {T T':TypeId} {x y:Operand} {a b:Nat} (hx:aT Γ x=some (one (.int .u32 (a:Int)))) (hy:aT Γ y=some (one (.int .u32 (b:Int)))) (h:a*b<4294967296) :
  aU P E Γ M ⟨d, .binOp .mul T x y T',ty,pos,af,gd⟩ (one (.int .u32 ((a*b:Nat):Int))) :=
 lC hx hy (by
  rw [mg, ← Int.natCast_mul]
  generalize a*b=z at *
  omega)
theorem tE {L:Lay} {k m j:Nat} {c c':Array Value} {x:Value} (h:bT (.agg m) c k=some (.agg c')) (hx:bT L c' j=some x):bT L c (k+j)=some x:=by
 simp only [bT] at h
 split at h
 ·rename_i hk
  cases h
  cases L with
  | one =>
   simp only [bT] at hx ⊢
   rw [cX] at hx
   split at hx
   ·exact hx
   ·cases hx
  | agg n =>
   simp only [bT] at hx ⊢
   have hs:(c.extract k (k+m)).size=m:=by simp;omega
   rw [hs] at hx
   split at hx
   ·rename_i hj
    rw [if_pos S]
    rw [← hx]
    congr 2
    apply Array.ext_getElem?
    intro i
    rw [cX,cX,cX]
    by_cases hi:i<n
    ·rw [if_pos hi,if_pos hi,if_pos S,Nat.add_assoc]
    ·rw [if_neg hi,if_neg hi]
   ·cases hx
 ·cases h
theorem au {T T':TypeId} {L:Lay} [LayOf P T L] {x:Operand} {b o m m':Nat} {cs cs':cw} {φ:VT} (i k j:Nat) (hx:aT Γ x=some (one (.pointer (some ⟨b,o,none⟩)))) (hM:M[i]? = some (aY b T' m cs))
  (hl:fY cs k=some (.agg m',bJ m' cs')) (ho:o=k+j) (hl2:fY cs' j=some (L, φ)):aU P E Γ M ⟨d, .load T x,ty,pos,af,gd⟩ φ :=
 aU.ofRun fun a w hb hf=>by
  have h1:a.eval x = .pointer (some ⟨b,o,none⟩):=hf x _ (by simp [Op.operands]) hx
  obtain ⟨c,hc,_,_,hcs⟩:=eg hb hM
  obtain ⟨v,hx',c',rfl,hs',_,hcs'⟩:=hcs _ (eZ hl)
  obtain ⟨y,hy,hp⟩:=hcs' _ (eZ hl2)
  refine ⟨y,?_,hp⟩
  have h2:=tE hx' hy
  subst ho
  simp only [execOp,h1,Instr.loadAt,Instr.sureAddr,Sem.run_bind,Sem.run_pure,Result.andThen_ok,dS hc h2]
theorem wy {b:Nat} {T:TypeId} {m:Nat} {cs:cw} {φ:VT} (h:VT.le (bJ m cs) φ):Own.le (aY b T m cs) (aY b T m [(0, .agg m, φ)]) :=
 ⟨rfl,fun g h' ⟨c,hb,hs,ha,hc⟩=>⟨c,hb,hs,ha,fun q hq=>by
  rw [List.mem_singleton.1 hq]
  exact ⟨.agg c,by subst hs;simp [bT],h _ _ ⟨c,rfl,hs,ha,hc⟩⟩⟩⟩
theorem de {ops:Array Oper} {i:Nat} {os:List Oper} {K:List Deferred→Ctx→Mem→Prop} {D:List Deferred} {t:Nat} {φ ψ:VT} (ht:bP Γ t=some φ) (hle:VT.le φ ψ) (h:Run P E ops false i D ((t, ψ) :: Γ) M os K):Run P E ops false i D Γ M os K :=
 .conv (fun a w hS=>hS.sub (fun s χ hs=>by
  rw [bB] at hs
  split at hs
  ·rename_i e;subst e;cases hs;exact ⟨φ,ht,hle⟩
  ·exact ⟨χ,hs,W⟩) (SubM.refl _)) h
end
attribute [local irreducible] J PJ aU one slT cC bJ ci exT cH eP aY bf slV VT.le Ret bW
theorem nZ (l:List Nat) (d:Nat) (hl:bH l) (h1:l.length≤1099511627776) (hd0:0<d) (hd:d<4294967296):Ok Tryz.prog 112 [ct l,one (.int .u32 (d:Nat))] (ci [nq (lv l / d),one (.int .u32 ((lv l % d:Nat):Int))]):=by
 refine Ok.enter Tryz.func112 Z Tryz.ntmps112 Z (fun w O => ?_)
 refine ah (aj (An Z (An Z (Ap (ab (ah (aj (Am Z (Al (bk Z) ?_)))))))))
 refine cO l.length l.length Z Z Z Z (Nat.le_refl _) Z Z S Z Z (fun bz => ?_)
 refine An Z (An Z (Ap (ab (ah (ah (aj (Am Z (Al (bk Z) (Al (eH Z Z (aV S S)) ?_)))))))))
 refine An Z (Ap (ab (ao (bL (Γ' := [(0,_),(1,_),(4,_),(5,_),(6,_),(7,_),(8,_)]) Ag (SubM.refl _) ?_))))
 refine bE (σ:=List Nat × Nat × Nat) (Γk := [(0,_),(1,_),(4,_),(5,_),(6,_)]) Ag (fun s => [(8,one (.int .i64 ((s.2.1:Nat) - 1:Int))),(7,one (.int .u64 (s.2.2:Nat)))]) (fun s M0=>(M0.set 0 (bf (some bz) 90 .one l.length l.length (fun q=>one (.int .u32 (s.1.getD q 0:Nat)))))) (fun s=>ShortR l d s) (fun s=>s.2.1) ((List.replicate l.length 0,l.length,0)) (ShortR.start hd0) Ah (.keep (cD (fun q _=>by rw [cL]; rfl)) (.nil)) (fun s hs => ?_)
 refine bN (Γ' := [(8,_),(7,_),(0,_),(1,_),(4,_),(5,_),(6,_)]) (M' := [_]) Z Z ?_
 obtain ⟨z,n,r⟩:=s
 dsimp only at hs ⊢
 refine ah (ah (aj (Am Z (Al (eV Z Z) (Ap (ab ?_))))))
 cases n with
 | zero =>
  obtain ⟨f1,f2⟩:=hs.finish
  have hlen:z.length=l.length:=hs.len
  have hr:r<d:=hs.r
  rw [← f1, ← f2]
  refine lS Z S (a4 (az (az (aI (ab (ah (aj (Am Z (Am Z ?_)))))))))
  refine Al (cS Z) (An Z (An Z (Ap (ab (aH (dE (t:=4) (i:=0) Z Z ?_))))))
  refine gI Tryz.results112 (.tmp Z (VT.le_trans (cR (m:=z.length) (ψ:=fun i=>one (.int .u32 (z.getD i 0:Nat))) hlen.symm (fun q hq=>rfl)) (gO (l:=z) hs.lim Z S))) (.tmp Z (ar (by congr 1;omega)))
 | succ n =>
  have hx:=bt hl n
  have hr:r<d:=hs.r
  have hb:=ShortR.bound hx hr hd
  have hst:=hs.step hl hd
  have hn:n<l.length:=hs.le
  have hzn:n<z.length:=by have:=hs.len;dsimp only at this;omega
  have en:((n+1:Nat):Int) - 1=(n:Nat):=by omega
  rw [en]
  refine lR Z S (av (ab (ah (ao (ah (aj (Am Z (Al (gW (b:=4294967296) Z Z S) (Am Z ?_)))))))))
  refine Am Z (Al (ax Z Z S) (Al (aG Z) (Al (bR Z S) (Al (ei Z Z S) (An Z (Ap (ab (ah (aj ?_)))))))))
  refine Am Z (Am Z (Am Z (Am Z (Al (bR Z S) (Al (jU Z Z S S) (Al (cS Z) (Al (an Z Z S) ?_)))))))
  (refine bK 0 Z Z Z ?_ Z ?_;omega)
  refine Ap (ab (aj (Am Z (Am Z (Al (bR Z S) (Al (cP _ Z Z Z S) (An Z (Ap (aD ?_)))))))))
  refine ab (aj (Am Z (Al (eH Z Z (aV S S)) (An Z (Ap ?_)))))
  refine aM ((z.set n ((r*4294967296+l.getD n 0) / d),n,(r*4294967296+l.getD n 0) % d)) (hst) (by (simp only []; omega)) Ah (.keep (pa hzn (Nat.mod_eq_of_lt hb.2)) (.nil))
def tF (r d:Nat):Nat :=
 if (aP r).length=(aP d).length then max 1 ((aP r).getD ((aP r).length - 1) 0 / ((aP d).getD ((aP d).length - 1) 0+1))
 else (((aP r).getD ((aP r).length - 1) 0*4294967296+(aP r).getD ((aP r).length - 2) 0) / ((aP d).getD ((aP d).length - 1) 0+1))*4294967296^((aP r).length - (aP d).length - 1)
theorem jC {v:Nat} {n:Nat} (h:(aP v).length=n+1):v=lv ((aP v).take n)+4294967296^n*(aP v).getD n 0∧lv ((aP v).take n)<4294967296^n:=by
 have h1:=bO (l:=aP v) (k:=n) S
 rw [List.take_of_length_le S,bZ] at h1
 exact ⟨h1,by have:=mR (bp v) n;rwa [← u0] at this⟩
theorem u9 {r d:Nat} (hd:d≠0) (h:d≤r):0<tF r d∧tF r d*d≤r:=by
 have hlen:=cx h
 have hdl:(aP d).length≠0:=fun k=>hd (io k)
 obtain ⟨m,hm⟩ : ∃ m,(aP d).length=m+1:=⟨(aP d).length - 1,by omega⟩
 obtain ⟨e,he⟩ : ∃ e,(aP r).length=m+1+e:=⟨(aP r).length - (m+1),by omega⟩
 have hdt:=bt (bp d) m
 obtain ⟨d1,d2⟩:=jC hm
 unfold tF
 rw [hm,he]
 simp only [Nat.add_sub_cancel] at *
 generalize hx:(aP d).getD m 0=x at *
 generalize lv ((aP d).take m)=dl at *
 have hdlt:d<4294967296^m*(x+1):=by rw [Nat.mul_add]; omega
 cases e with
 | zero =>
  rw [if_pos Z]
  obtain ⟨r1,r2⟩:=jC he
  simp only [Nat.add_zero,Nat.add_sub_cancel] at *
  generalize (aP r).getD m 0=y at *
  generalize lv ((aP r).take m)=rl at *
  refine ⟨by omega,?_⟩
  rcases Nat.eq_zero_or_pos (y / (x+1)) with hq | hq
  ·rw [hq]; simpa using h
  ·rw [Nat.max_eq_right hq]
   have h1:y / (x+1)*d≤y / (x+1)*(4294967296^m*(x+1)):=Nat.mul_le_mul_left _ (Nat.le_of_lt hdlt)
   have h2:y / (x+1)*(4294967296^m*(x+1))=4294967296^m*(y / (x+1)*(x+1)):=by rw [Nat.mul_left_comm]
   have h3:4294967296^m*(y / (x+1)*(x+1))≤4294967296^m*y:=Nat.mul_le_mul_left _ (Nat.div_mul_le_self _ _)
   omega
 | succ e =>
  rw [if_neg S]
  rw [show m+1+(e+1) - 1=m+e+1 by omega,show m+1+(e+1) - 2=m+e by omega,show m+1+(e+1) - (m+1) - 1=e by omega]
  obtain ⟨r1,r2⟩:=jC (show (aP r).length=(m+e+1)+1 by omega)
  have r3:=bO (l:=aP r) (k:=m+e) S
  have hy0:(aP r).getD (m+e+1) 0≠0:=by
   intro hy
   have:=dj (n:=r) (k:=m+e+1) (by rw [hy,Nat.mul_zero,Nat.add_zero] at r1;rw [r1]; exact r2)
   omega
  generalize (aP r).getD (m+e+1) 0=y at *
  generalize (aP r).getD (m+e) 0=y2 at *
  rw [r3] at r1
  generalize lv ((aP r).take (m+e))=rl at *
  have hqp:0<(y*4294967296+y2) / (x+1):=Nat.div_pos S S
  have hle:=Nat.div_mul_le_self (y*4294967296+y2) (x+1)
  generalize (y*4294967296+y2) / (x+1)=q at *
  refine ⟨Nat.mul_pos hqp (Nat.pow_pos Y),?_⟩
  have h1:q*4294967296^e*d≤q*4294967296^e*(4294967296^m*(x+1)):=Nat.mul_le_mul_left _ (Nat.le_of_lt hdlt)
  have h2:q*4294967296^e*(4294967296^m*(x+1))=4294967296^(m+e)*(q*(x+1)):=by
   rw [Nat.pow_add]; ac_rfl
  have h3:4294967296^(m+e)*(q*(x+1))≤4294967296^(m+e)*(y*4294967296+y2):=Nat.mul_le_mul_left _ hle
  have h4:4294967296^(m+e+1)*y=4294967296^(m+e)*(y*4294967296):=by rw [Nat.pow_succ]; ac_rfl
  rw [Nat.mul_add (4294967296^(m+e)) (y*4294967296) y2] at h3
  rw [h4] at r1
  rw [h2] at h1
  generalize 4294967296^(m+e)*(y*4294967296)=z1 at *
  generalize 4294967296^(m+e)*y2=z2 at *
  refine Nat.le_trans h1 (Nat.le_trans h3 ?_)
  rw [r1]
  exact Nat.le_trans (Nat.add_comm z1 z2▸Nat.le_refl _) (Nat.add_le_add_right (Nat.le_add_left _ _) _)
end Tor
end
section
namespace Tor
open Go Go.RowKit Go.Proofs
instance:Idle Tryz.prog 110:=Idle.of Tryz.func110 Z Tryz.ntmps110 Tryz.results110
instance:Idle Tryz.prog 78:=Idle.of Tryz.func78 Z Tryz.ntmps78 Tryz.results78
attribute [local irreducible] J PJ aU one slT cC bJ ci exT cH eP aY bf slV VT.le Ret bW
attribute [local irreducible] ce
theorem xI (r c:Nat) (hr:r≤1048576) (hc0:c≤1048576):OkM Tryz.prog 87 [one (.int .i64 r),one (.int .i64 c)] (iJ r c) (fun s => [bn s.1.2.1 s.1.2.2 r c s.1.1,aZ c s.1.1 (fun _ _=>0)]):=by
 refine OkM.enterD Tryz.func87 Z Tryz.ntmps87 Z (fun w O => ?_)
 have e1:max (r:Int) 0=r:=by omega
 have e2:max (c:Int) 0=c:=by omega
 refine ah (aj ?_)
 refine aW (T:=29) Z Z Z (fun b => ?_)
 refine Ap (ab (ah (aj (rQ Z (Ap (ab (ah (aj (Am Z ?_)))))))))
 refine Al (nD Z Z) (Am Z (Al (nD Z Z) (An Z (An Z (Ap (ab (ah (aj (Am Z ?_)))))))))
 rw [e1,e2]
 refine cO r r Z Z Z Z (Nat.le_refl _) Z Z S Z Z (fun bo => ?_)
 refine An Z (Ap (ab (ah (ah (aj (Am Z (Al (jS Z) (Am Z (Ap ?_)))))))))
 refine ab (ao ?_)
 refine jh (ConvM.rows0 (T:=55) (L := .agg 2) (c:=c) (φ:=fun _ _=>bq 0) _) ?_
 refine cV (σ:=List Nat) (fun s => [(0,one (.int .i64 r)),(1,one (.int .i64 c)),(4,one (.pointer (some ⟨b,0,none⟩))),(5,one (slV (some bo) r r)),(14,one (.int .i64 r)),(15,one (.int .i64 s.length))])
  (fun s => [bf (some bo) 57 .one r r (fun q=>if q<s.length then one (slV (some (s.getD q 0)) c c) else bW),aY b 29 3 (dy #[Value.int IntKind.i64 0,Value.int IntKind.i64 0,Value.slice none 0 0] [(0,Lay.one),(1,Lay.one),(2,Lay.one)]),aZ c s (fun _ _=>0)])
  (fun s=>s.length≤r) (fun s=>r - s.length) [] (Nat.zero_le _) Ai (.keep (eM fun q hq=>by rw [if_neg (by simp)]; exact lj _) (SubM.refl _)) (fun bs hk => ?_)
 refine ah (aj (Al (aO Z Z) (Ap (ab (ah ?_)))))
 refine bd Z (fun hc => ?_) (fun hc => ?_) <;> simp only [decide_eq_true_eq,decide_eq_false_iff_not,ne_eq,Decidable.not_not] at hc
 ·refine av (ab (ah (ao (ah (aj (Am Z (An Z (Ap (ab ?_)))))))))
  refine aj (Am Z (Am Z (Am Z ?_)))
  refine cO c c Z Z Z Z (Nat.le_refl _) Z Z S Z Z (fun bz => ?_)
  (refine Al (an Z Z ?_) ?_;omega)
  (refine bK 1 Z Z Z ?_ Z ?_;omega)
  refine Ap (aD (ab (aj ?_)))
  (refine Al (cr Z Z (aV ?_ ?_)) ?_;omega;omega)
  refine Am Z (Ap (gK (ConvM.row (k:=2) Z) (bS (s:=bs) (bs ++ [bz]) (by simp;omega) (by simp;omega) (.cons Z W (.cons Z W (.cons Z W (.cons Z W (.cons Z W (.cons Z (ar (by simp)) .nil)))))) ?_)))
  refine .keep (cD (fun q hq => ?_)) (.keep Ak (.keep (ko fun i j hi hj => ?_) .nil))
  ·unfold upd
   by_cases h:q=bs.length
   ·subst h;simp
   ·rw [if_neg h]
    show (if q<bs.length then one (slV (some (bs.getD q 0)) c c) else bW)=_
    by_cases h2:q<bs.length
    ·rw [if_pos h2,if_pos (by simp;omega)]; simp [List.getElem?_append_left h2]
    ·rw [if_neg h2,if_neg (by simp;omega)]
  ·simp only
   split
   ·exact VT.le_refl _
   ·exact jn
 ·have hlen:bs.length=r:=by omega
  subst hlen
  refine a4 (az (az (aI (ab (ah (aj (Am Z (Am Z (Am Z ?_)))))))))
  refine stB Z Z Z (BuildK.cons Z Z Z (BuildK.cons Z Z Z (BuildK.cons Z Z Z (BuildK.nil (aL 1 Z Z Z Z (Ap (ab (aH ?_))))))))
  refine ot (jg ⟨(bs,some bo,bs.length),rfl,fun h=>by cases h⟩ Tryz.results87 (.cellW 1 Z Z W) ?_)
  refine .keep (cD fun q hq => ?_) (.drop (SubM.refl _))
  rw [if_pos hq]
attribute [local irreducible] bq
theorem qk (n:Nat) (hn:n≤1048576):Ok Tryz.prog 47 [one (.int .i64 n)] (be n n (fun i j=>if i=j then 1 else 0)):=by
 refine Ok.enter Tryz.func47 Z Tryz.ntmps47 Z (fun w O => ?_)
 refine ah (aj ?_)
 refine aW (T:=29) Z Z Z (fun b => ?_)
 refine Ap (ab (ah (aj (Am Z (Am Z ?_)))))
 refine eO (xI n n hn hn) Z ⟨W,W,Aq⟩ Z Z (fun s => ?_)
 obtain ⟨⟨bs,sv1,cap1⟩,hlen,hsv⟩:=s
 simp only at hlen hsv
 unfold iJ
 refine aW (T:=29) Z Z Z (fun b => ?_)
 refine aL 0 Z Z Z Z (Ap (ab (ah (ah (aj (Al (aa Z) (Al (ak 0 Z Z Z) (Al (jS Z) (Am Z ?_)))))))))
 refine Ap (ab (ao ?_))
 rename_i b2
 refine cV (σ:=Nat) (fun i => [(2,one (.pointer (some ⟨b2,0,none⟩))),(3,one (.pointer (some ⟨b,0,none⟩))),(10,one (.int .i64 n)),(11,one (.int .i64 (i:Nat)))])
  (fun i => [aY b 29 3 [(0, .one,one (.int .i64 n)),(1, .one,one (.int .i64 n)),(2, .one,one (slV sv1 n cap1))],bn sv1 cap1 n n bs,aZ n bs (fun q k=>if q<i then (if q=k then 1 else 0) else 0),
   aY b2 29 3 (dy #[Value.int IntKind.i64 0,Value.int IntKind.i64 0,Value.slice none 0 0] [(0,Lay.one),(1,Lay.one),(2,Lay.one)])])
  (fun i=>i≤n) (fun i=>n - i) 0 (Nat.zero_le _) Ai (.keep Ak (.keep Ak (.keep (dM fun i j hi hj=>by simp) (SubM.refl _)))) (fun i hi => ?_)
 refine ah (aj (Al (aO Z Z) (Ap (ab (ah ?_)))))
 refine bd Z (fun hc => ?_) (fun hc => ?_) <;> simp only [decide_eq_true_eq,decide_eq_false_iff_not,ne_eq,Decidable.not_not] at hc
 ·obtain ⟨bo,rfl⟩:=kI hsv S
  refine av (ab (ah (ao (ah (aj (Am Z (An Z (Ap (ab ?_)))))))))
  refine aN 8 aK X Y (Al (aa Z) (Al (ak 0 Z Z Z) (Am Z ?_)))
  (refine Al (an Z Z ?_) ?_;omega)
  (refine Al (aS 1 Z Z ?_) ?_;omega)
  refine Am Z ?_
  refine Al (am (w8 1 Y Y) Z ⟨W,Aq⟩) ?_
  (refine Al (an Z Z ?_) ?_;omega)
  refine Ap ?_
  (refine bg 2 Z Z Z (bM ?_) ?_ Z ?_;omega;omega)
  refine Ap (aD (ab (aj ?_)))
  (refine Al (cr Z Z (aV ?_ ?_)) ?_;omega;omega)
  refine Am Z (Ap ?_)
  refine bS (s:=i) (i+1) (show _ from by omega) S Ai (.keep Ak (.keep Ak (.keep (dW fun q k hq hk => ?_) (SubM.refl _))))
  unfold fd
  by_cases h:q=i
  ·subst h
   by_cases h2:k=q
   ·subst h2;simp
   ·have h3 : ¬ q=k:=fun e=>h2 e.symm
    simp [h2,h3]
  ·have h3:q<i+1↔q<i:=by omega
   simp [h,h3]
 ·have hin:i=n:=by omega
  subst hin
  refine a4 (az (az (aI (ab (ah (aj (Al (aC 0 Z Z) (aL 3 Z Z Z Z (Ap ?_)))))))))
  refine ab (aH ?_)
  have hperm : ∀ (x y z u:Own), [x,y,z,u].Perm ([y,z] ++ [x,u]):=fun x y z u=>(List.Perm.swap y x _).trans (List.Perm.cons y (List.Perm.swap z x _))
  refine fJ [bn sv1 cap1 i i bs,aZ i bs (fun q k=>if q<i then (if q=k then 1 else 0) else 0)] (hperm _ _ _ _) (.keep (vO.refl _) (.keep (vO.box (jA hlen ⟨by simp,by simp,by simp⟩)) .nil)) (qR.refl _) ?_
  refine aJ Tryz.results47 (.cellW 1 Z Z ?_)
  exact l0 fun a b ha hb=>by simp [ha]
end Tor
end
section
namespace Tor
open Go Go.RowKit Go.Proofs
def n0 (ok:Bool) (e:Int) (r c:Nat) (F:Nat→Nat→Int):VT:=ci [be (if ok then r else 0) (if ok then c else 0) F,one (.int .i64 (if ok then 0 else e))]
theorem ql (F:Nat→Nat→Int):VT.le (bJ 3 (dy #[Value.int IntKind.i64 0,Value.int IntKind.i64 0,Value.slice none 0 0] [(0,Lay.one),(1,Lay.one),(2,Lay.one)])) (be 0 0 F):=by
 unfold be
 refine eC (fun q hq => ?_)
 rcases List.mem_cons.1 hq with rfl | hq
 ·exact ⟨_,List.mem_cons_self,W⟩
 rcases List.mem_cons.1 hq with rfl | hq
 ·exact ⟨_,List.mem_cons_of_mem _ List.mem_cons_self,W⟩
 rcases List.mem_cons.1 hq with rfl | hq
 ·exact ⟨_,List.mem_cons_of_mem _ (List.mem_cons_of_mem _ List.mem_cons_self),gJ⟩
 ·cases hq
attribute [local irreducible] J PJ aU one slT cC bJ ci exT cH eP aY bf slV VT.le Ret bW
attribute [local irreducible] bq
end Tor
end
section
namespace Tor
open Go Go.RowKit Go.Proofs
def fu (F:Nat→Nat→Int) (i j:Nat):Nat→Nat→Int:=fun q k=>if q<i∨(q=i∧k<j) then F q k else 0
theorem tG {T:TypeId} {c:Nat} {bs:List Nat} {F:Nat→Nat→Int} {i j:Nat} (x:Int) (hx:x=F i j) :
  Own.le (ce T (.agg 2) c bs (fd (fun q k=>bq (fu F i j q k)) i j (bq x))) (ce T (.agg 2) c bs (fun q k=>bq (fu F i (j+1) q k))):=by
 subst hx
 refine dW fun q k hq hk => ?_
 unfold fd fu
 by_cases h:q=i∧k=j
 ·obtain ⟨rfl,rfl⟩:=h;simp
 ·rw [if_neg h]
  have e:(q<i∨q=i∧k<j+1)↔(q<i∨q=i∧k<j):=by omega
  simp only [e]
theorem mV {c:Nat} {bs:List Nat} {F:Nat→Nat→Int} {i:Nat} : Own.le (aZ c bs (fu F i c)) (aZ c bs (fu F (i+1) 0)):=by
 refine dM fun q k hq hk => ?_
 unfold fu
 have e:(q<i∨q=i∧k<c)↔(q<i+1∨q=i+1∧k<0):=by omega
 simp only [e]
attribute [local irreducible] J PJ aU one slT cC bJ ci exT cH eP aY bf slV VT.le Ret bW
attribute [local irreducible] bq ce
end Tor
end
section
namespace Tor
open Go Go.RowKit Go.Proofs
attribute [local irreducible] J PJ aU one slT cC bJ ci exT cH eP aY bf slV VT.le Ret bW
theorem qm (ra ca:Nat) (F:Nat→Nat→Int) (rb cb:Nat) (G:Nat→Nat→Int) (h1:ra≤1048576) (h2:ca≤1048576) (h4:cb≤1048576) (hF : ∀ i j,bV (F i j)) (hG : ∀ i j,bV (G i j)) :
  Ok Tryz.prog 45 [be ra ca F,be rb cb G] (n0 (decide (ca=rb)) 50 ra cb (eD ca F G)):=by
 unfold n0
 refine Ok.enterD Tryz.func45 Z Tryz.ntmps45 Z (fun w O => ?_)
 unfold be
 refine ah (aj ?_)
 refine aR Z Z (ltN Z) (fun b => ?_)
 refine aR Z Z (ltN Z) (fun b => ?_)
 refine aW (T:=29) Z Z Z (fun b => ?_)
 refine An Z (Ap (ab (ah (aj (rQ Z (Ap (ab (ah (ah ?_)))))))))
 refine aj (Al (aC 2 Z Z) (Al (aC 1 Z Z) (stS Z Z Z Z (PartsK.cons Z (PartsK.cons Z (PartsK.nil ?_))))))
 refine Al (am (nW ra ca F rb cb G) Z ⟨mL,Aq⟩) ?_
 refine Al (aX Z) (Am Z (Ao (aa Z) (Ao (ak 2 Z Z Z) (Ao (aa Z) (Ao (ak 1 Z Z Z) (Ao (dq Z Z) (Al (aw Z Z) (Ap (ab ?_)))))))))
 rename_i ba bb
 refine bd Z (fun hc => ?_) (fun hc => ?_) <;> simp only [decide_eq_true_eq,decide_eq_false_iff_not,ne_eq,Decidable.not_not] at hc
 ·have hne : ¬ ca=rb:=by omega
  refine ah (aj (stB Z Z Z (BuildK.nil (aL 0 Z Z Z Z (An Z (Ap (ab (aH (aE ?_)))))))))
  refine ot (gI Tryz.results45 (.cellW 0 Z Z ?_) (.tmp Z (ar ?_)))
  ·rw [decide_eq_false hne]; exact ql _
  ·rw [decide_eq_false hne]; rfl
 ·have he:ca=rb:=by omega
  subst he
  refine av (ab (ah ?_))
  refine qX aK X X (fun a1 w1 hS1 => ?_)
  refine ux (fun B=>aa Z) Z Z ?_
  refine ux (fun B=>ak 2 Z Z Z) Z Z ?_
  refine ux (fun B=>aa Z) Z Z ?_
  refine ux (fun B=>ak 1 Z Z Z) Z Z ?_
  refine ux (fun B=>aa Z) Z Z ?_
  refine ux (fun B=>ak 2 Z Z Z) Z Z ?_
  refine ux (fun B=>iF w1.heap.size ra Z Z Z Z Z Z Z ?_) Z Z ?_
  ·omega
  refine uB Z Z Z (BuildK.cons Z Z Z (BuildK.cons Z Z Z (BuildK.cons Z Z Z (BuildK.nil (ua Z (us Z ?_))))))
  refine .nil (fun γ a2 w2 hS2 hx hk2 => ?_)
  obtain ⟨b2,hS3⟩:=jW (t:=6) (b:=γ 6) (T:=29) (m:=3) (k:=2) (n:=ra) (cs1 := [(0, .one,one (.int .i64 ra)),(1, .one,one (.int .i64 cb))])
   (Γk := [(2,one (.pointer (some ⟨ba,0,none⟩))),(3,one (.pointer (some ⟨bb,0,none⟩))),(4,one (.pointer (some ⟨b,0,none⟩)))])
   hS1 Z hS2 hx hk2 (.cons Z X (.cons Z X (.cons Z X .nil))) Z Z (fun q hq=>by
    rcases List.mem_cons.1 hq with rfl | hq
    ·exact ⟨_,rfl,rfl⟩
    rcases List.mem_cons.1 hq with rfl | hq
    ·exact ⟨_,rfl,rfl⟩
    cases hq)
  generalize γ 6=b6 at hS3
  refine qY ?_ hS3
  clear hS3 hS2 hx hk2 hS1
  refine ab (ah (ah (aj (Al (aa Z) (Al (ak 4 Z Z Z) (Al (bk Z) (Am Z (Ap (ab ?_)))))))))
  refine ao ?_
  refine cV (σ:=Nat) (fun i => [(3,one (.pointer (some ⟨bb,0,none⟩))),(4,one (.pointer (some ⟨b,0,none⟩))),(6,one (.pointer (some ⟨b6,0,none⟩))),(31,slT .one ra (fun i=>cM ca (F i))),(32,one (.int .i64 ra)),(33,one (.int .i64 (i:Nat)))])
   (fun i => [aY b6 29 3 [(2, .one,one (slV (some b2) ra ra)),(0, .one,one (.int .i64 ra)),(1, .one,one (.int .i64 cb))],bf (some b2) 57 .one ra ra (fun q=>if q<i then cM cb (eD ca F G q) else bW),
    aY b 29 3 (dy #[Value.int IntKind.i64 0,Value.int IntKind.i64 0,Value.slice none 0 0] [(0,Lay.one),(1,Lay.one),(2,Lay.one)]),
    aY bb 29 3 [(0, .one,one (.int .i64 ca)),(1, .one,one (.int .i64 cb)),(2, .one,slT .one ca fun i=>cM cb (G i))]])
   (fun i=>i≤ra) (fun i=>ra - i) 0 (Nat.zero_le _) Ai (.keep Ak (.keep (eM fun q hq=>by rw [if_neg S]; exact lj _) (.keep Ak (.keep Ak (.drop .nil))))) (fun i hi => ?_)
  refine ah (aj (Al (aO Z Z) (Ap (ab (ah ?_)))))
  refine bd Z (fun hc => ?_) (fun hc => ?_) <;> simp only [decide_eq_true_eq,decide_eq_false_iff_not,Int.ofNat_lt] at hc
  ·refine av (ab (ah (ao (ah (aj (Am Z ?_))))))
   (refine Al (ax Z Z ?_) ?_;omega)
   refine Al (aG Z) (An Z (An Z (Ap (ab (aN 7 aK X Y (Al (aa Z) (Al (ak 0 Z Z Z) (Am Z (Am Z ?_)))))))))
   refine Al (aC 3 Z Z) ?_
   refine Al (am (rc ca cb (F i) G h2 h4 (hF i) hG) Z ⟨W,W,Aq⟩) ?_
   have hfl:Flat (cM cb fun j=>dO ca fun k=>F i k*G k j) .one:=by unfold cM;infer_instance
   (refine Al (an Z Z ?_) ?_;omega)
   refine Ap ?_
   (refine bK 1 Z Z Z ?_ Z ?_;omega)
   refine Ap (aD (ab (aj ?_)))
   (refine Al (cr Z Z (aV ?_ ?_)) ?_;omega;omega)
   refine Am Z (Ap ?_)
   refine bS (s:=i) (i+1) (show _ from by omega) (by show ra - (i+1)<ra - i;omega) Ai (.keep Ak (.keep (cD fun q hq => ?_) (SubM.refl _)))
   unfold upd
   by_cases h:q=i
   ·subst h;rw [if_pos Z,if_pos S]; rfl
   ·rw [if_neg h]
    have e:q<i+1↔q<i:=by omega
    simp only [e]
  ·have hin:i=ra:=by omega
   subst hin
   refine a4 (az (az (aI (ab (ah (aj (Al (aC 0 Z Z) (aL 2 Z Z Z Z (An Z ?_)))))))))
   refine Ap (ab (aH ?_))
   have hperm : ∀ (x y z u:Own), [x,y,z,u].Perm ([y] ++ [x,z,u]):=fun x y z u=>List.Perm.swap y x _
   refine fJ [bf (some b2) 57 .one i i (fun q=>if q<i then cM cb (eD ca F G q) else bW)] (hperm _ _ _ _) (.keep (vO.refl _) (.keep (vO.box (cs' := [(0, .one,one (.int .i64 i)),(1, .one,one (.int .i64 cb)),(2, .one,slT .one i (fun q=>cM cb (eD ca F G q)))]) (.cons (by simp) (Ent.refl _) (.cons (by simp) (Ent.refl _) (.cons List.mem_cons_self (Ent.slE List.mem_cons_self (fun q hq=>Ent.le (by rw [if_pos hq]; exact VT.le_refl _))) .nil)))) (.keep (vO.refl _) .nil))) (qR.refl _) ?_
   refine ot (gI Tryz.results45 (.cellW 1 Z Z ?_) (.tmp Z (ar ?_)))
   ·simp only [decide_true,if_true]
    exact VT.le_refl _
   ·simp
end Tor
end
section
namespace Tor
open Go Go.RowKit Go.Proofs
abbrev gF (r c:Nat) (φ:VT):VT:=bJ 3 [(0, .one,one (.int .i64 r)),(1, .one,one (.int .i64 c)),(2, .one, φ)]
abbrev ew (a m u v:VT) (row col:Int) (done:VT):cw := [(0, .agg 3,a),(3, .agg 3,m),(6, .agg 3,u),(9, .agg 3,v),(12, .one,one (.int .i64 row)),(13, .one,one (.int .i64 col)),(14, .one,done)]
abbrev fW (a m u v:VT) (row col:Int) (done:VT):VT:=bJ 15 (ew a m u v row col done)
theorem qR.add {Ms:Mem} {Γ Γ':Ctx} {φ ψ:VT} (t:Nat) (h:bP Γ t=some φ) (he:Ent Ms φ ψ) (hg:qR Ms Γ Γ'):qR Ms Γ ((t, ψ) :: Γ'):=fun s χ hs=>by
 rw [bB] at hs
 split at hs
 ·rename_i e;subst e;cases hs;exact ⟨φ,h,he⟩
 ·exact hg s χ hs
def i6 (ra ca rm cm ru cu rv cv:Nat) (row col:Int):Bool:=decide (rm=ra∧cm=ca∧ru=ra∧cu=ra∧rv=ra∧cv=ra∧0≤row∧row≤ra∧0≤col∧col≤ca)
attribute [local irreducible] J PJ aU one slT cC bJ ci exT cH eP aY bf slV VT.le Ret bW
theorem dZ (r c:Nat) (φ m u v:VT) (row col:Int) (d:VT):Ok Tryz.prog 31 [fW (gF r c φ) m u v row col d] (one (.bool (decide (row=r∨col=c)))):=by
 refine Ok.enter Tryz.func31 Z Tryz.ntmps31 Z (fun w O => ?_)
 by_cases h:row=r
 ·rw [decide_eq_true (Or.inl h)]
  refine ah (aj ?_)
  refine aR Z Z (ltN Z) (fun b1 => ?_)
  refine An Z (Ap (ab (ah (aj (Al (aa Z) (Al (ak 0 Z Z Z) (Al (aa Z) (Al (aa Z) (Al (au 0 0 0 Z Z Z Z Z) ?_)))))))))
  refine Al (sT (by assumption) (bI Z Z)) (Am Z (sn0 Z Z Z Z Z (sn0 Z Z Z Z Z (sn0 Z Z Z Z Z (sn0 Z Z Z Z Z (sn0 Z Z Z Z Z (sn0 Z Z Z Z Z (Al (aA Z Z) (An Z ?_)))))))))
  refine Ap (ab (aH ?_))
  refine aJ Tryz.results31 (.tmp Z W)
 ·by_cases h2:col=c
  ·rw [decide_eq_true (Or.inr h2)]
   refine ah (aj ?_)
   refine aR Z Z (ltN Z) (fun b1 => ?_)
   refine An Z (Ap (ab (ah (aj (Al (aa Z) (Al (ak 0 Z Z Z) (Al (aa Z) (Al (aa Z) (Al (au 0 0 0 Z Z Z Z Z) ?_)))))))))
   refine Al (sF (by assumption) (bI Z Z)) (Am Z (Ao (aa Z) (Ao (ak 0 Z Z Z) (Ao (aa Z) (Ao (aa Z) (Ao (au 0 0 1 Z Z Z Z Z) (Ao (sT (by assumption) (bI Z Z)) (Al (aw Z Z) (An Z ?_)))))))))
   refine Ap (ab (aH ?_))
   refine aJ Tryz.results31 (.tmp Z W)
  ·rw [decide_eq_false (fun e=>e.elim h h2)]
   refine ah (aj ?_)
   refine aR Z Z (ltN Z) (fun b1 => ?_)
   refine An Z (Ap (ab (ah (aj (Al (aa Z) (Al (ak 0 Z Z Z) (Al (aa Z) (Al (aa Z) (Al (au 0 0 0 Z Z Z Z Z) ?_)))))))))
   refine Al (sF (by assumption) (bI Z Z)) (Am Z (Ao (aa Z) (Ao (ak 0 Z Z Z) (Ao (aa Z) (Ao (aa Z) (Ao (au 0 0 1 Z Z Z Z Z) (Ao (sF (by assumption) (bI Z Z)) (Al (aw Z Z) (An Z ?_)))))))))
   refine Ap (ab (aH ?_))
   refine aJ Tryz.results31 (.tmp Z W)
theorem rh (r c n:Nat) (φ:VT):Ok Tryz.prog 65 [gF r c φ,cC .one (one (.int .i64 n))] (one (.bool (decide (r=n∧c=n)))):=by
 refine Ok.enter Tryz.func65 Z Tryz.ntmps65 Z (fun w O => ?_)
 by_cases h:r=n
 ·by_cases h2:c=n
  ·rw [decide_eq_true ⟨h,h2⟩]
   refine ah (aj ?_)
   refine aR Z Z (ltN Z) (fun b2 => ?_)
   refine An Z (Ap (ab (ah (aj (Al (aa Z) (Al (ak 0 Z Z Z) (Al (aG Z) (Al (sT S (bI Z Z)) (Am Z ?_)))))))))
   refine Ao (aa Z) (Ao (ak 0 Z Z Z) (Ao (aG Z) (Ao (sT S (bI Z Z)) (Al (aA Z Z) (An Z (Ap (ab (aH ?_))))))))
   refine aJ Tryz.results65 (.tmp Z W)
  ·rw [decide_eq_false (fun e=>h2 e.2)]
   refine ah (aj ?_)
   refine aR Z Z (ltN Z) (fun b2 => ?_)
   refine An Z (Ap (ab (ah (aj (Al (aa Z) (Al (ak 0 Z Z Z) (Al (aG Z) (Al (sT S (bI Z Z)) (Am Z ?_)))))))))
   refine Ao (aa Z) (Ao (ak 0 Z Z Z) (Ao (aG Z) (Ao (sF S (bI Z Z)) (Al (aA Z Z) (An Z (Ap (ab (aH ?_))))))))
   refine aJ Tryz.results65 (.tmp Z W)
 ·rw [decide_eq_false (fun e=>h e.1)]
  refine ah (aj ?_)
  refine aR Z Z (ltN Z) (fun b2 => ?_)
  refine An Z (Ap (ab (ah (aj (Al (aa Z) (Al (ak 0 Z Z Z) (Al (aG Z) (Al (sF S (bI Z Z)) (Am Z ?_)))))))))
  refine sn0 Z Z Z Z Z (sn0 Z Z Z Z Z (sn0 Z Z Z Z Z (sn0 Z Z Z Z Z (Al (aw Z Z) (An Z (Ap (ab (aH ?_))))))))
  refine aJ Tryz.results65 (.tmp Z W)
theorem lG (r c n:Nat) (F:Nat→Nat→Int):Ok Tryz.prog 65 [be r c F,cC .one (one (.int .i64 n))] (one (.bool (decide (r=n∧c=n)))):=rh r c n _
theorem j7 (ra ca rm cm ru cu rv cv:Nat) (A M U V:Nat→Nat→Int) (row col:Int) (d:VT):Ok Tryz.prog 34 [fW (be ra ca A) (be rm cm M) (be ru cu U) (be rv cv V) row col d] (one (.bool (i6 ra ca rm cm ru cu rv cv row col))):=by
 refine Ok.enter Tryz.func34 Z Tryz.ntmps34 Z (fun w O => ?_)
 have hu:=hP.clo (P:=Tryz.prog) (φs := [be ru cu U]) (cs := [cC .one (one (.int .i64 ra))]) (lG ru cu ra U)
 have hv:=hP.clo (P:=Tryz.prog) (φs := [be rv cv V]) (cs := [cC .one (one (.int .i64 ra))]) (lG rv cv ra V)
 by_cases h1:rm=ra
 ·by_cases h2:cm=ca
  ·by_cases h3:ru=ra∧cu=ra
   ·by_cases h4:rv=ra∧cv=ra
    ·by_cases h5:0≤row
     ·by_cases h6:row≤ra
      ·by_cases h7:0≤col
       ·by_cases h8:col≤ca
        ·have hf:i6 ra ca rm cm ru cu rv cv row col=true:=decide_eq_true S
         rw [hf]
         refine ah (aj ?_)
         refine aR Z Z (ltN Z) (fun b1 => ?_)
         refine An Z (Ap (ab (ah (ah (aj (Al (aa Z) (Al (ak 0 Z Z Z) ?_)))))))
         refine Al (am (a9 _ _ _) Z ⟨W,Aq⟩) ?_
         refine Al (aX Z) (Am Z (Ao (aa Z) (Ao (ak 0 Z Z Z) ?_)))
         refine Ao (am (a9 _ _ _) Z ⟨W,Aq⟩) ?_
         refine Ao (aX Z) (Al (aw Z Z) (Am Z (Ao (aa Z) (Ao (ak 0 Z Z Z) ?_))))
         refine Ao (am (a9 _ _ _) Z ⟨W,Aq⟩) ?_
         refine Ao (aX Z) (Al (aw Z Z) (Am Z (Ao (aa Z) (Ao (ak 0 Z Z Z) ?_))))
         refine Ao (am (a9 _ _ _) Z ⟨W,Aq⟩) ?_
         refine Ao (aX Z) (Al (aw Z Z) (Ap (ab (ay Z (av (ab (ah (aj (Al (aa Z) ?_)))))))))
         refine Al (aa Z) (Al (au 0 0 0 Z Z Z Z Z) ?_)
         refine a5 (T:=3) Z (ltN Z) (fun b3 => ?_)
         refine aF 0 Z Z Z Z Z (leN Z) Z (Ap (ab (ah (aj (Al (dc Z) (An Z (Ap (ab (ah ?_)))))))))
         refine aj (Al (aa Z) (Al (aa Z) (Al (au 1 3 0 Z Z Z Z Z) (Al (ak 0 Z Z Z) (Al (sT S (bI Z Z)) (Am Z (Ao (aa Z) (Ao (aa Z) (Ao (au 1 3 1 Z Z Z Z Z) ?_)))))))))
         refine Ao (aa Z) (Ao (aa Z) (Ao (au 1 0 1 Z Z Z Z Z) (Ao (sT S (bI Z Z)) (Al (aA Z Z) (Am Z (Ao (ae Z) (Ao (aa Z) (Ao (ak 1 Z Z Z) (fl [aY b3 _ 1 [(0, .one,one (.int .i64 ra))]] (Kp := [_]) (Kp' := [_]) (List.Perm.refl _) (EntM.refl _) (.add 3 Z (Ent.ptr List.mem_cons_self List.mem_cons_self) (.add 4 Z (Ent.clo1 (Ent.ptr List.mem_cons_self List.mem_cons_self)) (.add 46 Z (Ent.clo1 (Ent.ptr List.mem_cons_self List.mem_cons_self)) (.refl _)))) ?_)))))))))
         refine Ao (sT S (ej hu Z Z ⟨W,Aq⟩)) ?_
         refine Al (aA Z Z) (Am Z (Ao (ae Z) (Ao (aa Z) (Ao (ak 0 Z Z Z) ?_))))
         refine Ao (sT S (ej hv Z Z ⟨W,Aq⟩)) ?_
         refine Al (aA Z Z) (Am Z (Ao (aa Z) (Ao (ak 0 Z Z Z) (Ao (sT S (fe Z Z)) (Al (aA Z Z) (Am Z (Ao (aa Z) (Ao (ak 0 Z Z Z) (Ao (aG Z) ?_)))))))))
         refine Ao (sT S (fe Z Z)) (Al (aA Z Z) (Am Z (Ao (aa Z) (Ao (ak 0 Z Z Z) (Ao (sT S (fe Z Z)) (Al (aA Z Z) (Am Z (Ao (aa Z) (Ao (ak 0 Z Z Z) ?_)))))))))
         refine Ao (aa Z) (Ao (aa Z) (Ao (au 0 0 1 Z Z Z Z Z) (Ao (sT S (fe Z Z)) (Al (aA Z Z) (An Z (Ap (ab (aH ?_))))))))
         refine aJ Tryz.results34 (.tmp Z W)
        ·have hf:i6 ra ca rm cm ru cu rv cv row col=false:=decide_eq_false S
         rw [hf]
         refine ah (aj ?_)
         refine aR Z Z (ltN Z) (fun b1 => ?_)
         refine An Z (Ap (ab (ah (ah (aj (Al (aa Z) (Al (ak 0 Z Z Z) ?_)))))))
         refine Al (am (a9 _ _ _) Z ⟨W,Aq⟩) ?_
         refine Al (aX Z) (Am Z (Ao (aa Z) (Ao (ak 0 Z Z Z) ?_)))
         refine Ao (am (a9 _ _ _) Z ⟨W,Aq⟩) ?_
         refine Ao (aX Z) (Al (aw Z Z) (Am Z (Ao (aa Z) (Ao (ak 0 Z Z Z) ?_))))
         refine Ao (am (a9 _ _ _) Z ⟨W,Aq⟩) ?_
         refine Ao (aX Z) (Al (aw Z Z) (Am Z (Ao (aa Z) (Ao (ak 0 Z Z Z) ?_))))
         refine Ao (am (a9 _ _ _) Z ⟨W,Aq⟩) ?_
         refine Ao (aX Z) (Al (aw Z Z) (Ap (ab (ay Z (av (ab (ah (aj (Al (aa Z) ?_)))))))))
         refine Al (aa Z) (Al (au 0 0 0 Z Z Z Z Z) ?_)
         refine a5 (T:=3) Z (ltN Z) (fun b3 => ?_)
         refine aF 0 Z Z Z Z Z (leN Z) Z (Ap (ab (ah (aj (Al (dc Z) (An Z (Ap (ab (ah ?_)))))))))
         refine aj (Al (aa Z) (Al (aa Z) (Al (au 1 3 0 Z Z Z Z Z) (Al (ak 0 Z Z Z) (Al (sT S (bI Z Z)) (Am Z (Ao (aa Z) (Ao (aa Z) (Ao (au 1 3 1 Z Z Z Z Z) ?_)))))))))
         refine Ao (aa Z) (Ao (aa Z) (Ao (au 1 0 1 Z Z Z Z Z) (Ao (sT S (bI Z Z)) (Al (aA Z Z) (Am Z (Ao (ae Z) (Ao (aa Z) (Ao (ak 1 Z Z Z) (fl [aY b3 _ 1 [(0, .one,one (.int .i64 ra))]] (Kp := [_]) (Kp' := [_]) (List.Perm.refl _) (EntM.refl _) (.add 3 Z (Ent.ptr List.mem_cons_self List.mem_cons_self) (.add 4 Z (Ent.clo1 (Ent.ptr List.mem_cons_self List.mem_cons_self)) (.add 46 Z (Ent.clo1 (Ent.ptr List.mem_cons_self List.mem_cons_self)) (.refl _)))) ?_)))))))))
         refine Ao (sT S (ej hu Z Z ⟨W,Aq⟩)) ?_
         refine Al (aA Z Z) (Am Z (Ao (ae Z) (Ao (aa Z) (Ao (ak 0 Z Z Z) ?_))))
         refine Ao (sT S (ej hv Z Z ⟨W,Aq⟩)) ?_
         refine Al (aA Z Z) (Am Z (Ao (aa Z) (Ao (ak 0 Z Z Z) (Ao (sT S (fe Z Z)) (Al (aA Z Z) (Am Z (Ao (aa Z) (Ao (ak 0 Z Z Z) (Ao (aG Z) ?_)))))))))
         refine Ao (sT S (fe Z Z)) (Al (aA Z Z) (Am Z (Ao (aa Z) (Ao (ak 0 Z Z Z) (Ao (sT S (fe Z Z)) (Al (aA Z Z) (Am Z (Ao (aa Z) (Ao (ak 0 Z Z Z) ?_)))))))))
         refine Ao (aa Z) (Ao (aa Z) (Ao (au 0 0 1 Z Z Z Z Z) (Ao (sF S (fe Z Z)) (Al (aA Z Z) (An Z (Ap (ab (aH ?_))))))))
         refine aJ Tryz.results34 (.tmp Z W)
       ·have hf:i6 ra ca rm cm ru cu rv cv row col=false:=decide_eq_false S
        rw [hf]
        refine ah (aj ?_)
        refine aR Z Z (ltN Z) (fun b1 => ?_)
        refine An Z (Ap (ab (ah (ah (aj (Al (aa Z) (Al (ak 0 Z Z Z) ?_)))))))
        refine Al (am (a9 _ _ _) Z ⟨W,Aq⟩) ?_
        refine Al (aX Z) (Am Z (Ao (aa Z) (Ao (ak 0 Z Z Z) ?_)))
        refine Ao (am (a9 _ _ _) Z ⟨W,Aq⟩) ?_
        refine Ao (aX Z) (Al (aw Z Z) (Am Z (Ao (aa Z) (Ao (ak 0 Z Z Z) ?_))))
        refine Ao (am (a9 _ _ _) Z ⟨W,Aq⟩) ?_
        refine Ao (aX Z) (Al (aw Z Z) (Am Z (Ao (aa Z) (Ao (ak 0 Z Z Z) ?_))))
        refine Ao (am (a9 _ _ _) Z ⟨W,Aq⟩) ?_
        refine Ao (aX Z) (Al (aw Z Z) (Ap (ab (ay Z (av (ab (ah (aj (Al (aa Z) ?_)))))))))
        refine Al (aa Z) (Al (au 0 0 0 Z Z Z Z Z) ?_)
        refine a5 (T:=3) Z (ltN Z) (fun b3 => ?_)
        refine aF 0 Z Z Z Z Z (leN Z) Z (Ap (ab (ah (aj (Al (dc Z) (An Z (Ap (ab (ah ?_)))))))))
        refine aj (Al (aa Z) (Al (aa Z) (Al (au 1 3 0 Z Z Z Z Z) (Al (ak 0 Z Z Z) (Al (sT S (bI Z Z)) (Am Z (Ao (aa Z) (Ao (aa Z) (Ao (au 1 3 1 Z Z Z Z Z) ?_)))))))))
        refine Ao (aa Z) (Ao (aa Z) (Ao (au 1 0 1 Z Z Z Z Z) (Ao (sT S (bI Z Z)) (Al (aA Z Z) (Am Z (Ao (ae Z) (Ao (aa Z) (Ao (ak 1 Z Z Z) (fl [aY b3 _ 1 [(0, .one,one (.int .i64 ra))]] (Kp := [_]) (Kp' := [_]) (List.Perm.refl _) (EntM.refl _) (.add 3 Z (Ent.ptr List.mem_cons_self List.mem_cons_self) (.add 4 Z (Ent.clo1 (Ent.ptr List.mem_cons_self List.mem_cons_self)) (.add 46 Z (Ent.clo1 (Ent.ptr List.mem_cons_self List.mem_cons_self)) (.refl _)))) ?_)))))))))
        refine Ao (sT S (ej hu Z Z ⟨W,Aq⟩)) ?_
        refine Al (aA Z Z) (Am Z (Ao (ae Z) (Ao (aa Z) (Ao (ak 0 Z Z Z) ?_))))
        refine Ao (sT S (ej hv Z Z ⟨W,Aq⟩)) ?_
        refine Al (aA Z Z) (Am Z (Ao (aa Z) (Ao (ak 0 Z Z Z) (Ao (sT S (fe Z Z)) (Al (aA Z Z) (Am Z (Ao (aa Z) (Ao (ak 0 Z Z Z) (Ao (aG Z) ?_)))))))))
        refine Ao (sT S (fe Z Z)) (Al (aA Z Z) (Am Z (Ao (aa Z) (Ao (ak 0 Z Z Z) (Ao (sF S (fe Z Z)) (Al (aA Z Z) (Am Z (sn0 Z Z Z Z Z (sn0 Z Z Z Z Z ?_)))))))))
        refine sn0 Z Z Z Z Z (sn0 Z Z Z Z Z (sn0 Z Z Z Z Z (sn0 Z Z Z Z Z (Al (aw Z Z) (An Z (Ap (ab (aH ?_))))))))
        refine aJ Tryz.results34 (.tmp Z W)
      ·have hf:i6 ra ca rm cm ru cu rv cv row col=false:=decide_eq_false S
       rw [hf]
       refine ah (aj ?_)
       refine aR Z Z (ltN Z) (fun b1 => ?_)
       refine An Z (Ap (ab (ah (ah (aj (Al (aa Z) (Al (ak 0 Z Z Z) ?_)))))))
       refine Al (am (a9 _ _ _) Z ⟨W,Aq⟩) ?_
       refine Al (aX Z) (Am Z (Ao (aa Z) (Ao (ak 0 Z Z Z) ?_)))
       refine Ao (am (a9 _ _ _) Z ⟨W,Aq⟩) ?_
       refine Ao (aX Z) (Al (aw Z Z) (Am Z (Ao (aa Z) (Ao (ak 0 Z Z Z) ?_))))
       refine Ao (am (a9 _ _ _) Z ⟨W,Aq⟩) ?_
       refine Ao (aX Z) (Al (aw Z Z) (Am Z (Ao (aa Z) (Ao (ak 0 Z Z Z) ?_))))
       refine Ao (am (a9 _ _ _) Z ⟨W,Aq⟩) ?_
       refine Ao (aX Z) (Al (aw Z Z) (Ap (ab (ay Z (av (ab (ah (aj (Al (aa Z) ?_)))))))))
       refine Al (aa Z) (Al (au 0 0 0 Z Z Z Z Z) ?_)
       refine a5 (T:=3) Z (ltN Z) (fun b3 => ?_)
       refine aF 0 Z Z Z Z Z (leN Z) Z (Ap (ab (ah (aj (Al (dc Z) (An Z (Ap (ab (ah ?_)))))))))
       refine aj (Al (aa Z) (Al (aa Z) (Al (au 1 3 0 Z Z Z Z Z) (Al (ak 0 Z Z Z) (Al (sT S (bI Z Z)) (Am Z (Ao (aa Z) (Ao (aa Z) (Ao (au 1 3 1 Z Z Z Z Z) ?_)))))))))
       refine Ao (aa Z) (Ao (aa Z) (Ao (au 1 0 1 Z Z Z Z Z) (Ao (sT S (bI Z Z)) (Al (aA Z Z) (Am Z (Ao (ae Z) (Ao (aa Z) (Ao (ak 1 Z Z Z) (fl [aY b3 _ 1 [(0, .one,one (.int .i64 ra))]] (Kp := [_]) (Kp' := [_]) (List.Perm.refl _) (EntM.refl _) (.add 3 Z (Ent.ptr List.mem_cons_self List.mem_cons_self) (.add 4 Z (Ent.clo1 (Ent.ptr List.mem_cons_self List.mem_cons_self)) (.add 46 Z (Ent.clo1 (Ent.ptr List.mem_cons_self List.mem_cons_self)) (.refl _)))) ?_)))))))))
       refine Ao (sT S (ej hu Z Z ⟨W,Aq⟩)) ?_
       refine Al (aA Z Z) (Am Z (Ao (ae Z) (Ao (aa Z) (Ao (ak 0 Z Z Z) ?_))))
       refine Ao (sT S (ej hv Z Z ⟨W,Aq⟩)) ?_
       refine Al (aA Z Z) (Am Z (Ao (aa Z) (Ao (ak 0 Z Z Z) (Ao (sT S (fe Z Z)) (Al (aA Z Z) (Am Z (Ao (aa Z) (Ao (ak 0 Z Z Z) (Ao (aG Z) ?_)))))))))
       refine Ao (sF S (fe Z Z)) (Al (aA Z Z) (Am Z (sn0 Z Z Z Z Z (sn0 Z Z Z Z Z (sn0 Z Z Z Z Z (Al (aw Z Z) (Am Z (sn0 Z Z Z Z Z (sn0 Z Z Z Z Z ?_)))))))))
       refine sn0 Z Z Z Z Z (sn0 Z Z Z Z Z (sn0 Z Z Z Z Z (sn0 Z Z Z Z Z (Al (aw Z Z) (An Z (Ap (ab (aH ?_))))))))
       refine aJ Tryz.results34 (.tmp Z W)
     ·have hf:i6 ra ca rm cm ru cu rv cv row col=false:=decide_eq_false S
      rw [hf]
      refine ah (aj ?_)
      refine aR Z Z (ltN Z) (fun b1 => ?_)
      refine An Z (Ap (ab (ah (ah (aj (Al (aa Z) (Al (ak 0 Z Z Z) ?_)))))))
      refine Al (am (a9 _ _ _) Z ⟨W,Aq⟩) ?_
      refine Al (aX Z) (Am Z (Ao (aa Z) (Ao (ak 0 Z Z Z) ?_)))
      refine Ao (am (a9 _ _ _) Z ⟨W,Aq⟩) ?_
      refine Ao (aX Z) (Al (aw Z Z) (Am Z (Ao (aa Z) (Ao (ak 0 Z Z Z) ?_))))
      refine Ao (am (a9 _ _ _) Z ⟨W,Aq⟩) ?_
      refine Ao (aX Z) (Al (aw Z Z) (Am Z (Ao (aa Z) (Ao (ak 0 Z Z Z) ?_))))
      refine Ao (am (a9 _ _ _) Z ⟨W,Aq⟩) ?_
      refine Ao (aX Z) (Al (aw Z Z) (Ap (ab (ay Z (av (ab (ah (aj (Al (aa Z) ?_)))))))))
      refine Al (aa Z) (Al (au 0 0 0 Z Z Z Z Z) ?_)
      refine a5 (T:=3) Z (ltN Z) (fun b3 => ?_)
      refine aF 0 Z Z Z Z Z (leN Z) Z (Ap (ab (ah (aj (Al (dc Z) (An Z (Ap (ab (ah ?_)))))))))
      refine aj (Al (aa Z) (Al (aa Z) (Al (au 1 3 0 Z Z Z Z Z) (Al (ak 0 Z Z Z) (Al (sT S (bI Z Z)) (Am Z (Ao (aa Z) (Ao (aa Z) (Ao (au 1 3 1 Z Z Z Z Z) ?_)))))))))
      refine Ao (aa Z) (Ao (aa Z) (Ao (au 1 0 1 Z Z Z Z Z) (Ao (sT S (bI Z Z)) (Al (aA Z Z) (Am Z (Ao (ae Z) (Ao (aa Z) (Ao (ak 1 Z Z Z) (fl [aY b3 _ 1 [(0, .one,one (.int .i64 ra))]] (Kp := [_]) (Kp' := [_]) (List.Perm.refl _) (EntM.refl _) (.add 3 Z (Ent.ptr List.mem_cons_self List.mem_cons_self) (.add 4 Z (Ent.clo1 (Ent.ptr List.mem_cons_self List.mem_cons_self)) (.add 46 Z (Ent.clo1 (Ent.ptr List.mem_cons_self List.mem_cons_self)) (.refl _)))) ?_)))))))))
      refine Ao (sT S (ej hu Z Z ⟨W,Aq⟩)) ?_
      refine Al (aA Z Z) (Am Z (Ao (ae Z) (Ao (aa Z) (Ao (ak 0 Z Z Z) ?_))))
      refine Ao (sT S (ej hv Z Z ⟨W,Aq⟩)) ?_
      refine Al (aA Z Z) (Am Z (Ao (aa Z) (Ao (ak 0 Z Z Z) (Ao (sF S (fe Z Z)) (Al (aA Z Z) (Am Z (sn0 Z Z Z Z Z (sn0 Z Z Z Z Z (sn0 Z Z Z Z Z ?_)))))))))
      refine sn0 Z Z Z Z Z (Al (aw Z Z) (Am Z (sn0 Z Z Z Z Z (sn0 Z Z Z Z Z (sn0 Z Z Z Z Z (Al (aw Z Z) (Am Z (sn0 Z Z Z Z Z (sn0 Z Z Z Z Z ?_)))))))))
      refine sn0 Z Z Z Z Z (sn0 Z Z Z Z Z (sn0 Z Z Z Z Z (sn0 Z Z Z Z Z (Al (aw Z Z) (An Z (Ap (ab (aH ?_))))))))
      refine aJ Tryz.results34 (.tmp Z W)
    ·have hf:i6 ra ca rm cm ru cu rv cv row col=false:=decide_eq_false S
     rw [hf]
     refine ah (aj ?_)
     refine aR Z Z (ltN Z) (fun b1 => ?_)
     refine An Z (Ap (ab (ah (ah (aj (Al (aa Z) (Al (ak 0 Z Z Z) ?_)))))))
     refine Al (am (a9 _ _ _) Z ⟨W,Aq⟩) ?_
     refine Al (aX Z) (Am Z (Ao (aa Z) (Ao (ak 0 Z Z Z) ?_)))
     refine Ao (am (a9 _ _ _) Z ⟨W,Aq⟩) ?_
     refine Ao (aX Z) (Al (aw Z Z) (Am Z (Ao (aa Z) (Ao (ak 0 Z Z Z) ?_))))
     refine Ao (am (a9 _ _ _) Z ⟨W,Aq⟩) ?_
     refine Ao (aX Z) (Al (aw Z Z) (Am Z (Ao (aa Z) (Ao (ak 0 Z Z Z) ?_))))
     refine Ao (am (a9 _ _ _) Z ⟨W,Aq⟩) ?_
     refine Ao (aX Z) (Al (aw Z Z) (Ap (ab (ay Z (av (ab (ah (aj (Al (aa Z) ?_)))))))))
     refine Al (aa Z) (Al (au 0 0 0 Z Z Z Z Z) ?_)
     refine a5 (T:=3) Z (ltN Z) (fun b3 => ?_)
     refine aF 0 Z Z Z Z Z (leN Z) Z (Ap (ab (ah (aj (Al (dc Z) (An Z (Ap (ab (ah ?_)))))))))
     refine aj (Al (aa Z) (Al (aa Z) (Al (au 1 3 0 Z Z Z Z Z) (Al (ak 0 Z Z Z) (Al (sT S (bI Z Z)) (Am Z (Ao (aa Z) (Ao (aa Z) (Ao (au 1 3 1 Z Z Z Z Z) ?_)))))))))
     refine Ao (aa Z) (Ao (aa Z) (Ao (au 1 0 1 Z Z Z Z Z) (Ao (sT S (bI Z Z)) (Al (aA Z Z) (Am Z (Ao (ae Z) (Ao (aa Z) (Ao (ak 1 Z Z Z) (fl [aY b3 _ 1 [(0, .one,one (.int .i64 ra))]] (Kp := [_]) (Kp' := [_]) (List.Perm.refl _) (EntM.refl _) (.add 3 Z (Ent.ptr List.mem_cons_self List.mem_cons_self) (.add 4 Z (Ent.clo1 (Ent.ptr List.mem_cons_self List.mem_cons_self)) (.add 46 Z (Ent.clo1 (Ent.ptr List.mem_cons_self List.mem_cons_self)) (.refl _)))) ?_)))))))))
     refine Ao (sT S (ej hu Z Z ⟨W,Aq⟩)) ?_
     refine Al (aA Z Z) (Am Z (Ao (ae Z) (Ao (aa Z) (Ao (ak 0 Z Z Z) ?_))))
     refine Ao (sF S (ej hv Z Z ⟨W,Aq⟩)) ?_
     refine Al (aA Z Z) (Am Z (sn0 Z Z Z Z Z (sn0 Z Z Z Z Z (sn0 Z Z Z Z Z (Al (aw Z Z) (Am Z (sn0 Z Z Z Z Z (sn0 Z Z Z Z Z (sn0 Z Z Z Z Z ?_)))))))))
     refine sn0 Z Z Z Z Z (Al (aw Z Z) (Am Z (sn0 Z Z Z Z Z (sn0 Z Z Z Z Z (sn0 Z Z Z Z Z (Al (aw Z Z) (Am Z (sn0 Z Z Z Z Z (sn0 Z Z Z Z Z ?_)))))))))
     refine sn0 Z Z Z Z Z (sn0 Z Z Z Z Z (sn0 Z Z Z Z Z (sn0 Z Z Z Z Z (Al (aw Z Z) (An Z (Ap (ab (aH ?_))))))))
     refine aJ Tryz.results34 (.tmp Z W)
   ·have hf:i6 ra ca rm cm ru cu rv cv row col=false:=decide_eq_false S
    rw [hf]
    refine ah (aj ?_)
    refine aR Z Z (ltN Z) (fun b1 => ?_)
    refine An Z (Ap (ab (ah (ah (aj (Al (aa Z) (Al (ak 0 Z Z Z) ?_)))))))
    refine Al (am (a9 _ _ _) Z ⟨W,Aq⟩) ?_
    refine Al (aX Z) (Am Z (Ao (aa Z) (Ao (ak 0 Z Z Z) ?_)))
    refine Ao (am (a9 _ _ _) Z ⟨W,Aq⟩) ?_
    refine Ao (aX Z) (Al (aw Z Z) (Am Z (Ao (aa Z) (Ao (ak 0 Z Z Z) ?_))))
    refine Ao (am (a9 _ _ _) Z ⟨W,Aq⟩) ?_
    refine Ao (aX Z) (Al (aw Z Z) (Am Z (Ao (aa Z) (Ao (ak 0 Z Z Z) ?_))))
    refine Ao (am (a9 _ _ _) Z ⟨W,Aq⟩) ?_
    refine Ao (aX Z) (Al (aw Z Z) (Ap (ab (ay Z (av (ab (ah (aj (Al (aa Z) ?_)))))))))
    refine Al (aa Z) (Al (au 0 0 0 Z Z Z Z Z) ?_)
    refine a5 (T:=3) Z (ltN Z) (fun b3 => ?_)
    refine aF 0 Z Z Z Z Z (leN Z) Z (Ap (ab (ah (aj (Al (dc Z) (An Z (Ap (ab (ah ?_)))))))))
    refine aj (Al (aa Z) (Al (aa Z) (Al (au 1 3 0 Z Z Z Z Z) (Al (ak 0 Z Z Z) (Al (sT S (bI Z Z)) (Am Z (Ao (aa Z) (Ao (aa Z) (Ao (au 1 3 1 Z Z Z Z Z) ?_)))))))))
    refine Ao (aa Z) (Ao (aa Z) (Ao (au 1 0 1 Z Z Z Z Z) (Ao (sT S (bI Z Z)) (Al (aA Z Z) (Am Z (Ao (ae Z) (Ao (aa Z) (Ao (ak 1 Z Z Z) (fl [aY b3 _ 1 [(0, .one,one (.int .i64 ra))]] (Kp := [_]) (Kp' := [_]) (List.Perm.refl _) (EntM.refl _) (.add 3 Z (Ent.ptr List.mem_cons_self List.mem_cons_self) (.add 4 Z (Ent.clo1 (Ent.ptr List.mem_cons_self List.mem_cons_self)) (.add 46 Z (Ent.clo1 (Ent.ptr List.mem_cons_self List.mem_cons_self)) (.refl _)))) ?_)))))))))
    refine Ao (sF S (ej hu Z Z ⟨W,Aq⟩)) ?_
    refine Al (aA Z Z) (Am Z (sn0 Z Z Z Z Z (sn0 Z Z Z Z Z (sn0 Z Z Z Z Z (sn0 Z Z Z Z Z (Al (aw Z Z) (Am Z (sn0 Z Z Z Z Z (sn0 Z Z Z Z Z ?_)))))))))
    refine sn0 Z Z Z Z Z (Al (aw Z Z) (Am Z (sn0 Z Z Z Z Z (sn0 Z Z Z Z Z (sn0 Z Z Z Z Z (sn0 Z Z Z Z Z (Al (aw Z Z) (Am Z (sn0 Z Z Z Z Z ?_)))))))))
    refine sn0 Z Z Z Z Z (sn0 Z Z Z Z Z (Al (aw Z Z) (Am Z (sn0 Z Z Z Z Z (sn0 Z Z Z Z Z (sn0 Z Z Z Z Z (sn0 Z Z Z Z Z (sn0 Z Z Z Z Z (sn0 Z Z Z Z Z ?_)))))))))
    refine Al (aw Z Z) (An Z (Ap (ab (aH ?_))))
    refine aJ Tryz.results34 (.tmp Z W)
  ·have hf:i6 ra ca rm cm ru cu rv cv row col=false:=decide_eq_false S
   rw [hf]
   refine ah (aj ?_)
   refine aR Z Z (ltN Z) (fun b1 => ?_)
   refine An Z (Ap (ab (ah (ah (aj (Al (aa Z) (Al (ak 0 Z Z Z) ?_)))))))
   refine Al (am (a9 _ _ _) Z ⟨W,Aq⟩) ?_
   refine Al (aX Z) (Am Z (Ao (aa Z) (Ao (ak 0 Z Z Z) ?_)))
   refine Ao (am (a9 _ _ _) Z ⟨W,Aq⟩) ?_
   refine Ao (aX Z) (Al (aw Z Z) (Am Z (Ao (aa Z) (Ao (ak 0 Z Z Z) ?_))))
   refine Ao (am (a9 _ _ _) Z ⟨W,Aq⟩) ?_
   refine Ao (aX Z) (Al (aw Z Z) (Am Z (Ao (aa Z) (Ao (ak 0 Z Z Z) ?_))))
   refine Ao (am (a9 _ _ _) Z ⟨W,Aq⟩) ?_
   refine Ao (aX Z) (Al (aw Z Z) (Ap (ab (ay Z (av (ab (ah (aj (Al (aa Z) ?_)))))))))
   refine Al (aa Z) (Al (au 0 0 0 Z Z Z Z Z) ?_)
   refine a5 (T:=3) Z (ltN Z) (fun b3 => ?_)
   refine aF 0 Z Z Z Z Z (leN Z) Z (Ap (ab (ah (aj (Al (dc Z) (An Z (Ap (ab (ah ?_)))))))))
   refine aj (Al (aa Z) (Al (aa Z) (Al (au 1 3 0 Z Z Z Z Z) (Al (ak 0 Z Z Z) (Al (sT S (bI Z Z)) (Am Z (Ao (aa Z) (Ao (aa Z) (Ao (au 1 3 1 Z Z Z Z Z) ?_)))))))))
   refine Ao (aa Z) (Ao (aa Z) (Ao (au 1 0 1 Z Z Z Z Z) (Ao (sF S (bI Z Z)) (Al (aA Z Z) (Am Z (sn0 Z Z Z Z Z (sn0 Z Z Z Z Z (sn0 Z Z Z Z Z (sn0 Z Z Z Z Z ?_)))))))))
   refine Al (aw Z Z) (Am Z (sn0 Z Z Z Z Z (sn0 Z Z Z Z Z (sn0 Z Z Z Z Z (sn0 Z Z Z Z Z (Al (aw Z Z) (Am Z (sn0 Z Z Z Z Z (sn0 Z Z Z Z Z ?_)))))))))
   refine sn0 Z Z Z Z Z (Al (aw Z Z) (Am Z (sn0 Z Z Z Z Z (sn0 Z Z Z Z Z (sn0 Z Z Z Z Z (sn0 Z Z Z Z Z (Al (aw Z Z) (Am Z (sn0 Z Z Z Z Z ?_)))))))))
   refine sn0 Z Z Z Z Z (sn0 Z Z Z Z Z (Al (aw Z Z) (Am Z (sn0 Z Z Z Z Z (sn0 Z Z Z Z Z (sn0 Z Z Z Z Z (sn0 Z Z Z Z Z (sn0 Z Z Z Z Z (sn0 Z Z Z Z Z ?_)))))))))
   refine Al (aw Z Z) (An Z (Ap (ab (aH ?_))))
   refine aJ Tryz.results34 (.tmp Z W)
 ·have hf:i6 ra ca rm cm ru cu rv cv row col=false:=decide_eq_false S
  rw [hf]
  refine ah (aj ?_)
  refine aR Z Z (ltN Z) (fun b1 => ?_)
  refine An Z (Ap (ab (ah (ah (aj (Al (aa Z) (Al (ak 0 Z Z Z) ?_)))))))
  refine Al (am (a9 _ _ _) Z ⟨W,Aq⟩) ?_
  refine Al (aX Z) (Am Z (Ao (aa Z) (Ao (ak 0 Z Z Z) ?_)))
  refine Ao (am (a9 _ _ _) Z ⟨W,Aq⟩) ?_
  refine Ao (aX Z) (Al (aw Z Z) (Am Z (Ao (aa Z) (Ao (ak 0 Z Z Z) ?_))))
  refine Ao (am (a9 _ _ _) Z ⟨W,Aq⟩) ?_
  refine Ao (aX Z) (Al (aw Z Z) (Am Z (Ao (aa Z) (Ao (ak 0 Z Z Z) ?_))))
  refine Ao (am (a9 _ _ _) Z ⟨W,Aq⟩) ?_
  refine Ao (aX Z) (Al (aw Z Z) (Ap (ab (ay Z (av (ab (ah (aj (Al (aa Z) ?_)))))))))
  refine Al (aa Z) (Al (au 0 0 0 Z Z Z Z Z) ?_)
  refine a5 (T:=3) Z (ltN Z) (fun b3 => ?_)
  refine aF 0 Z Z Z Z Z (leN Z) Z (Ap (ab (ah (aj (Al (dc Z) (An Z (Ap (ab (ah ?_)))))))))
  refine aj (Al (aa Z) (Al (aa Z) (Al (au 1 3 0 Z Z Z Z Z) (Al (ak 0 Z Z Z) (Al (sF S (bI Z Z)) (Am Z (sn0 Z Z Z Z Z (sn0 Z Z Z Z Z (sn0 Z Z Z Z Z ?_)))))))))
  refine sn0 Z Z Z Z Z (sn0 Z Z Z Z Z (sn0 Z Z Z Z Z (sn0 Z Z Z Z Z (Al (aw Z Z) (Am Z (sn0 Z Z Z Z Z (sn0 Z Z Z Z Z (sn0 Z Z Z Z Z (sn0 Z Z Z Z Z ?_)))))))))
  refine Al (aw Z Z) (Am Z (sn0 Z Z Z Z Z (sn0 Z Z Z Z Z (sn0 Z Z Z Z Z (sn0 Z Z Z Z Z (Al (aw Z Z) (Am Z (sn0 Z Z Z Z Z (sn0 Z Z Z Z Z ?_)))))))))
  refine sn0 Z Z Z Z Z (Al (aw Z Z) (Am Z (sn0 Z Z Z Z Z (sn0 Z Z Z Z Z (sn0 Z Z Z Z Z (sn0 Z Z Z Z Z (Al (aw Z Z) (Am Z (sn0 Z Z Z Z Z ?_)))))))))
  refine sn0 Z Z Z Z Z (sn0 Z Z Z Z Z (Al (aw Z Z) (Am Z (sn0 Z Z Z Z Z (sn0 Z Z Z Z Z (sn0 Z Z Z Z Z (sn0 Z Z Z Z Z (sn0 Z Z Z Z Z (sn0 Z Z Z Z Z ?_)))))))))
  refine Al (aw Z Z) (An Z (Ap (ab (aH ?_))))
  refine aJ Tryz.results34 (.tmp Z W)
end Tor
end
section
namespace Tor
open Go Go.RowKit Go.Proofs
def jQ (F:Nat→Nat→Int) (i j:Nat) (x:Int):Nat→Nat→Int:=fun q k=>if q<i∨(q=i∧k<j) then F q k else if q=i∧k=j then x else 0
theorem ri (F:Nat→Nat→Int) (i j:Nat):jQ F i j 0=fu F i j:=by
 funext q k;unfold jQ fu;split
 ·rfl
 ·split <;> rfl
theorem rj (F:Nat→Nat→Int) (i j:Nat):jQ F i j (F i j)=fu F i (j+1):=by
 funext q k;unfold jQ fu
 by_cases h:q<i∨q=i∧k<j
 ·rw [if_pos h,if_pos S]
 ·rw [if_neg h]
  by_cases h2:q=i∧k=j
  ·obtain ⟨rfl,rfl⟩:=h2;rw [if_pos ⟨rfl,rfl⟩,if_pos S]
  ·rw [if_neg h2,if_neg S]
theorem va (F:Nat→Nat→Int) (i j:Nat) (x:Int):jQ F i j x i j=x:=by
 unfold jQ;rw [if_neg S,if_pos ⟨rfl,rfl⟩]
theorem tH {T:TypeId} {c:Nat} {bs:List Nat} {F:Nat→Nat→Int} {i j:Nat} (x y:Int) :
  Own.le (ce T (.agg 2) c bs (fd (fun q k=>bq (jQ F i j x q k)) i j (bq y))) (ce T (.agg 2) c bs (fun q k=>bq (jQ F i j y q k))):=by
 refine dW fun q k hq hk => ?_
 unfold fd jQ
 by_cases h:q=i∧k=j
 ·obtain ⟨rfl,rfl⟩:=h
  rw [if_pos ⟨rfl,rfl⟩,if_neg S,if_pos ⟨rfl,rfl⟩]
 ·simp only [if_neg h]
attribute [local irreducible] J PJ aU one slT cC bJ ci exT cH eP aY bf slV VT.le Ret bW
attribute [local irreducible] bq ce
theorem tI (ra ca:Nat) (F:Nat→Nat→Int) (rb cb:Nat) (G:Nat→Nat→Int) (hr0:ra≤1048576) (hc0:ca≤1048576) (hd0:cb≤1048576) (hF : ∀ i j,bV (F i j)) (hG : ∀ i j,bV (G i j)) :
  Ok Tryz.prog 74 [be ra ca F,be rb cb G] (n0 (decide (ca=rb)) 50 ra cb (eD ca F G)):=by
 unfold n0 be
 refine Ok.enter Tryz.func74 Z Tryz.ntmps74 Z (fun w O => ?_)
 refine ah (aj ?_)
 refine aR Z Z (ltN Z) (fun b => ?_)
 refine aR Z Z (ltN Z) (fun b => ?_)
 refine aW (T:=29) Z Z Z (fun b => ?_)
 refine An Z (Ap (ab (ah (ah (aj (Al (aa Z) (Al (ak 2 Z Z Z) (Al (aa Z) (Al (ak 1 Z Z Z) ?_)))))))))
 refine Al (dq Z Z) (Ap (ab ?_))
 refine bd Z (fun hc => ?_) (fun hc => ?_) <;> simp only [decide_eq_true_eq,decide_eq_false_iff_not,ne_eq,Decidable.not_not] at hc
 ·have hne : ¬ ca=rb:=by omega
  refine ah (aj (stB Z Z Z (BuildK.nil (aL 0 Z Z Z Z (An Z (Ap (ab (aH (aE ?_)))))))))
  refine gI Tryz.results74 (.cellW 0 Z Z ?_) (.tmp Z (ar ?_))
  ·rw [decide_eq_false hne]; exact ql _
  ·rw [decide_eq_false hne]; rfl
 ·have e2:ca=rb:=by omega
  subst e2
  refine av (ab (ah (aj (Al (aa Z) (Al (ak 2 Z Z Z) (Al (aa Z) (Al (ak 1 Z Z Z) ?_)))))))
  refine eO (kH ra cb hr0 hd0) Z ⟨W,W,Aq⟩ Z Z (fun s => ?_)
  obtain ⟨⟨bs,sv1,cap1⟩,hlen,hsv⟩:=s
  simp only at hlen hsv
  unfold iJ
  refine aW (T:=29) Z Z Z (fun b => ?_)
  refine aL 0 Z Z Z Z (Ap (ab (ah (ah (aj (An Z (Ap (ab (ao ?_)))))))))
  rename_i b2 b3 b4
  refine cV (σ:=Nat) (fun i => [(2,one (.pointer (some ⟨b2,0,none⟩))),(3,one (.pointer (some ⟨b3,0,none⟩))),(4,one (.pointer (some ⟨b4,0,none⟩))),(6,one (.pointer (some ⟨b,0,none⟩))),(7,one (.int .i64 (i:Nat)))])
   (fun i => [aY b 29 3 [(0, .one,one (.int .i64 ra)),(1, .one,one (.int .i64 cb)),(2, .one,one (slV sv1 ra cap1))],bn sv1 cap1 ra cb bs,aZ cb bs (fu (eD ca F G) i 0),aY b4 29 3 (dy #[Value.int IntKind.i64 0,Value.int IntKind.i64 0,Value.slice none 0 0] [(0,Lay.one),(1,Lay.one),(2,Lay.one)]),aY b3 29 3 [(0, .one,one (.int .i64 ca)),(1, .one,one (.int .i64 cb)),(2, .one,slT .one ca (fun i=>cM cb (G i)))],aY b2 29 3 [(0, .one,one (.int .i64 ra)),(1, .one,one (.int .i64 ca)),(2, .one,slT .one ra (fun i=>cM ca (F i)))]])
   (fun i=>i≤ra) (fun i=>ra - i) 0 (Nat.zero_le _) Ai (.keep Ak (.keep Ak (.keep (dM fun i j hi hj=>by simp [fu]) (SubM.refl _)))) (fun i hi => ?_)
  refine ah (ah (aj (Am Z (Al (aa Z) (Al (ak 5 Z Z Z) (Al (aO Z Z) (Ap (ab ?_))))))))
  refine bd Z (fun hc => ?_) (fun hc => ?_) <;> simp only [decide_eq_true_eq,decide_eq_false_iff_not,Int.ofNat_lt] at hc
  ·obtain ⟨bo,rfl⟩:=kI hsv S
   refine av (ab (ah (ao (ah (aj (An Z (Ap (ab (ao ?_)))))))))
   refine cV (σ:=Nat) (fun j => [(2,one (.pointer (some ⟨b2,0,none⟩))),(3,one (.pointer (some ⟨b3,0,none⟩))),(4,one (.pointer (some ⟨b4,0,none⟩))),(6,one (.pointer (some ⟨b,0,none⟩))),(7,one (.int .i64 (i:Nat))),(8,one (.int .i64 (j:Nat)))])
    (fun j => [aY b 29 3 [(0, .one,one (.int .i64 ra)),(1, .one,one (.int .i64 cb)),(2, .one,one (slV (some bo) ra cap1))],bn (some bo) cap1 ra cb bs,aZ cb bs (fu (eD ca F G) i j),aY b4 29 3 (dy #[Value.int IntKind.i64 0,Value.int IntKind.i64 0,Value.slice none 0 0] [(0,Lay.one),(1,Lay.one),(2,Lay.one)]),aY b3 29 3 [(0, .one,one (.int .i64 ca)),(1, .one,one (.int .i64 cb)),(2, .one,slT .one ca (fun i=>cM cb (G i)))],aY b2 29 3 [(0, .one,one (.int .i64 ra)),(1, .one,one (.int .i64 ca)),(2, .one,slT .one ra (fun i=>cM ca (F i)))]])
    (fun j=>j≤cb) (fun j=>cb - j) 0 (Nat.zero_le _) Ai (SubM.refl _) (fun j hj => ?_)
   refine ah (ah (aj (Am Z (Al (aa Z) (Al (ak 4 Z Z Z) (Al (aO Z Z) (Ap (ab ?_))))))))
   refine bd Z (fun hc2 => ?_) (fun hc2 => ?_) <;> simp only [decide_eq_true_eq,decide_eq_false_iff_not,Int.ofNat_lt] at hc2
   ·refine av (ab (ah (ao (ah (aj (An Z (Ap (ab (ao ?_)))))))))
    refine cV (σ:=Nat) (fun k => [(2,one (.pointer (some ⟨b2,0,none⟩))),(3,one (.pointer (some ⟨b3,0,none⟩))),(4,one (.pointer (some ⟨b4,0,none⟩))),(6,one (.pointer (some ⟨b,0,none⟩))),(7,one (.int .i64 (i:Nat))),(8,one (.int .i64 (j:Nat))),(9,one (.int .i64 (k:Nat)))])
     (fun k => [aY b 29 3 [(0, .one,one (.int .i64 ra)),(1, .one,one (.int .i64 cb)),(2, .one,one (slV (some bo) ra cap1))],bn (some bo) cap1 ra cb bs,aZ cb bs (jQ (eD ca F G) i j (dO k (fun k=>F i k*G k j))),aY b4 29 3 (dy #[Value.int IntKind.i64 0,Value.int IntKind.i64 0,Value.slice none 0 0] [(0,Lay.one),(1,Lay.one),(2,Lay.one)]),aY b3 29 3 [(0, .one,one (.int .i64 ca)),(1, .one,one (.int .i64 cb)),(2, .one,slT .one ca (fun i=>cM cb (G i)))],aY b2 29 3 [(0, .one,one (.int .i64 ra)),(1, .one,one (.int .i64 ca)),(2, .one,slT .one ra (fun i=>cM ca (F i)))]])
     (fun k=>k≤ca) (fun k=>ca - k) 0 (Nat.zero_le _) Ai (.keep Ak (.keep Ak (.keep (by rw [show dO 0 (fun k=>F i k*G k j)=0 from rfl,ri]; exact Own.le_refl _) (SubM.refl _)))) (fun k hk => ?_)
    refine ah (ah (aj (Am Z (Al (aa Z) (Al (ak 5 Z Z Z) (Al (aO Z Z) (Ap (ab ?_))))))))
    refine bd Z (fun hc3 => ?_) (fun hc3 => ?_) <;> simp only [decide_eq_true_eq,decide_eq_false_iff_not,Int.ofNat_lt] at hc3
    ·refine av (ab (ah (ao (aN 33 aK X Y ?_))))
     unfold cM
     refine Al (aa Z) (Al (ak 0 Z Z Z) (Am Z ?_))
     (refine Al (an Z Z ?_) ?_;omega)
     (refine Al (aS 1 Z Z ?_) ?_;omega)
     refine Am Z (Al (aa Z) (Al (ak 0 Z Z Z) (Am Z ?_)))
     (refine Al (an Z Z ?_) ?_;omega)
     (refine Al (aS 1 Z Z ?_) ?_;omega)
     refine Am Z ?_
     (refine Al (an Z Z ?_) ?_;omega)
     (refine Al (bF 2 Z Z (bM ?_) ?_) ?_;omega;omega)
     refine Al (aa Z) (Al (ak 5 Z Z Z) (Am Z ?_))
     (refine Al (ax Z Z ?_) ?_;omega)
     refine Al (aG Z) (Am Z ?_)
     (refine Al (ax Z Z ?_) ?_;omega)
     refine Al (aG Z) (Al (aa Z) (Al (ak 4 Z Z Z) (Am Z ?_)))
     (refine Al (ax Z Z ?_) ?_;omega)
     refine Al (aG Z) (Am Z ?_)
     (refine Al (ax Z Z ?_) ?_;omega)
     refine Al (aG Z) ?_
     refine Al (am (fQ (F i k) (G k j) (bv (hF i k)) (bv (hG k j))) Z ⟨W,W,Aq⟩) ?_
     rw [va]
     refine Al (am (eL (dO k (fun k=>F i k*G k j)) (F i k*G k j) (mM S (fun k=>mJ (hF i k) (hG k j))) (gh (hF i k) (hG k j))) Z ⟨W,W,Aq⟩) ?_
     (refine Al (an Z Z ?_) ?_;omega)
     refine Ap ?_
     (refine bg 2 Z Z Z (bM ?_) ?_ Z ?_;omega;omega)
     refine Ap (aD (ab (aj (Am Z ?_))))
     (refine Al (cr Z Z (aV ?_ ?_)) ?_;omega;omega)
     refine An Z (Ap ?_)
     exact bS (s:=k) (k+1) (show _ from by omega) (by show ca - (k+1)<ca - k;omega) Ai (.keep Ak (.keep Ak (.keep (tH _ _) (SubM.refl _))))
    ·have hkm:k=ca:=by omega
     subst hkm
     refine a4 (az (az (aI (aD (ab (aj (Am Z ?_)))))))
     (refine Al (cr Z Z (aV ?_ ?_)) ?_;omega;omega)
     refine An Z (Ap ?_)
     exact bS (s:=j) (j+1) (show _ from by omega) (by show cb - (j+1)<cb - j;omega) Ai (.keep Ak (.keep Ak (.keep (by rw [← rj]; exact Own.le_refl _) (SubM.refl _))))
   ·have hjm:j=cb:=by omega
    subst hjm
    refine a4 (az (az (aI (aD (ab (aj (Am Z ?_)))))))
    (refine Al (cr Z Z (aV ?_ ?_)) ?_;omega;omega)
    refine An Z (Ap ?_)
    exact bS (s:=i) (i+1) (show _ from by omega) (by show ra - (i+1)<ra - i;omega) Ai (.keep Ak (.keep Ak (.keep mV (SubM.refl _))))
  ·have hin:i=ra:=by omega
   subst hin
   refine a4 (az (az (aI (ab (ah (aj (Al (aC 0 Z Z) (aL 3 Z Z Z Z (An Z ?_)))))))))
   refine Ap (ab (aH ?_))
   have hperm : ∀ (x y z u t s:Own), [x,y,z,u,t,s].Perm ([y,z] ++ [x,u,t,s]):=fun x y z u t s=>(List.Perm.swap y x _).trans (List.Perm.cons y (List.Perm.swap z x _))
   refine fJ [bn sv1 cap1 i cb bs,aZ cb bs (fu (eD ca F G) i 0)] (hperm _ _ _ _ _ _) (.keep (vO.refl _) (.keep (vO.box (jA hlen ⟨by simp,by simp,by simp⟩)) (.keep (vO.refl _) (.keep (vO.refl _) .nil)))) (qR.refl _) ?_
   refine gI Tryz.results74 (.cellW 1 Z Z ?_) (.tmp Z (ar ?_))
   ·simp only [decide_true,if_true]; exact l0 fun a b ha hb=>by simp [fu,ha]
   ·simp
end Tor
end
section
namespace Tor
open Go Go.RowKit Go.Proofs
attribute [local irreducible] J PJ aU one slT cC bJ ci exT cH eP aY bf slV VT.le Ret bW
attribute [local irreducible] bq
theorem gb (ra ca:Nat) (F:Nat→Nat→Int) (cb:Nat) (G:Nat→Nat→Int) (hr0:ra≤1048576) (hc0:ca≤1048576) (hd0:cb≤1048576) (hF : ∀ i j,bV (F i j)) (hG : ∀ i j,bV (G i j)) :
  Ok Tryz.prog 39 [be ra ca F,be ca cb G] (be ra cb (eD ca F G)):=by
 unfold be
 refine Ok.enter Tryz.func39 Z Tryz.ntmps39 Z (fun w O => ?_)
 refine ah (aj ?_)
 refine aR Z Z (ltN Z) (fun b => ?_)
 refine aR Z Z (ltN Z) (fun b => ?_)
 refine aW (T:=29) Z Z Z (fun b => ?_)
 refine Ap (ab (ah (aj (Al (aC 2 Z Z) (Al (aC 1 Z Z) ?_)))))
 have h:=(tI ra ca F ca cb G hr0 hc0 hd0 hF hG)
 rw [decide_eq_true (show ca=ca from rfl)] at h
 refine Al (am h Z ⟨W,W,Aq⟩) ?_
 unfold n0
 simp only [if_true]
 refine Am Z (Al (a6 Z Z) (Al (a6 Z Z) ?_))
 refine aW (T:=29) Z Z Z (fun b => ?_)
 refine aL 0 Z Z Z Z (An Z (Ap (ab (ah (aj (Al (aC 0 Z Z) (aL 1 Z Z Z Z (Ap (ab ?_)))))))))
 refine aH ?_
 exact aJ Tryz.results39 (.cellW 1 Z Z W)
end Tor
end
section
namespace Tor
open Go Go.RowKit Go.Proofs
theorem gB (r c:Nat) (F:Nat→Nat→Int) (hr:r≤1048576) (hF : ∀ i j,cg (F i j)):Ok Tryz.prog 37 [be r c F] (one (.bool true)):=by
 have h:=oL r c (jo r c F) (by simp [jo]; omega) (fun v hv p hp=>by
  simp only [jo,tab,List.map_map,List.mem_map,List.mem_range] at hv
  obtain ⟨i,_,rfl⟩:=hv
  simp only [Function.comp,List.map_map,List.mem_map,List.mem_range] at hp
  obtain ⟨j,_,rfl⟩:=hp
  have:=hF i j
  unfold cg at this
  simp only [Function.comp,kE]; omega)
 rw [mI] at h
 exact h.le ⟨p7 r c F,Aq⟩ W
attribute [local irreducible] J PJ aU one slT cC bJ ci exT cH eP aY bf slV VT.le Ret bW
attribute [local irreducible] bq
end Tor
end
