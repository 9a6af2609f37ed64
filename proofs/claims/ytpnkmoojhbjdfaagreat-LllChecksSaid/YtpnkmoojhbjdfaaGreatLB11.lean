/-
  Proofs that laws of this seat return true for every input, and that their arguments read afterwards as before.
  No condition.
-/
import Derived.Test.YtpnkmoojhbjdfaaGreatLB10
import Derived.Test.YtpnkmoojhbjdfaaGreatRows
set_option maxHeartbeats 16000000
set_option linter.unusedVariables false
set_option linter.unusedSimpArgs false
section
namespace Tor
open Go Go.RowKit Go.Proofs
open Lin (dZ lZ uZ cO dK ec qq cf qF dot gsB gsM sm DD)
def tmR (m:Nat) (F:Nat→Nat→Int) (i k s:Nat):Rat:=if s<k then grQ m F s*grM m F i s*grM m F k s else if s<i then grQ m F s*grM m F i s else grQ m F s
section
variable {m n:Nat} {F:Nat→Nat→Int}
theorem r7 (h:dZ m F n≠0) (hd:DesB m n F) {i j:Nat} (hi:i<n) (hj:j<i):qz 13 (grM m F i j):=lN (mW (hd.l hi Y)) (mW (hd.d Y)) (Lin.cx h Y)
theorem zM (h:dZ m F n≠0) (hd:DesB m n F) {i k s:Nat} (hi:i<n) (hk:k≤i) (hs:s≤k):qz 39 (tmR m F i k s):=by
 unfold tmR
 split
 ·exact fe (fe (nD h hd Y) (r7 h hd hi Y)) (r7 h hd Y Y)
 ·split
  ·exact (fe (nD h hd Y) (r7 h hd hi Y)).mono S
  ·exact (nD h hd Y).mono S
theorem CK (h:dZ m F n≠0) {i k s:Nat} (hi:i<n) (hk:k≤i) (hs:s≤k):tmR m F i k s=cf m (qF F) k s*cf m (qF F) i s*qq m (qF F) s:=by
 unfold tmR
 rw [rY h (show s<n by omega)]
 split
 ·rename_i h1
  rw [rX h hi (show s<i by omega),rX h (show k<n by omega) h1,Lin.kt h1,Lin.kt (show s<i by omega)]; grind
 ·have e:s=k:=by omega
  subst e
  split
  ·rename_i h2
   rw [rX h hi h2,Lin.eH,Lin.kt h2]; grind
  ·have e:s=i:=by omega
   subst e
   rw [Lin.eH]; grind
theorem Bm (h:dZ m F n≠0) {i k:Nat} (hi:i<n) (hk:k≤i):sm (k+1) (tmR m F i k)=((cO m (F i) (F k):Int):Rat):=by
 rw [Lin.be (g:=fun s=>cf m (qF F) k s*cf m (qF F) i s*qq m (qF F) s) (fun s hs=>CK h hi hk Y), ← Lin.rJ i k (k+1) Y,Lin.fu]
theorem Bn (h:dZ m F n≠0) {i:Nat} (hi:i<n):0<dQ (grQ m F i).num:=by
 have h1:0<qq m (qF F) i:=by
  have h2:=Lin.cV (m:=m) (A:=qF F) i
  have h3:=Dx.1 h i hi
  rcases Rat.le_iff_lt_or_eq.1 h2 with h4 | h4
  ·exact h4
  ·exact absurd h4.symm h3
 rw [rY h hi]
 have h5:0<(qq m (qF F) i).num:=by
  have:=(Rat.lt_iff 0 _).1 h1
  simpa using this
 unfold dQ
 rw [if_neg Y]
 split
 ·omega
 ·decide
end
attribute [local irreducible] J PJ aP one slT cv bA bM exT cq eP aW aU slV VT.le Ret bO
attribute [local irreducible] aO bx c8
set_option maxRecDepth 100000 in
theorem tZ (r c:Nat) (l:List Int):Ok Tryz.prog 4 [fj r c l] (one (.bool true)):=by
 have hr:r % 5≤4:=by omega
 have hc:c % 5≤4:=by omega
 have hm:=ij r c l
 have f9 : ∀ i j,((fun i j=>dig l (i*(c % 5)+j)) i j).natAbs≤9:=fun i j=>nR _ _
 unfold fj at hm ⊢
 generalize (fun i j=>dig l (i*(c % 5)+j))=F at *
 generalize r % 5=n at *
 generalize c % 5=m at *
 have hb:=qR hc hr f9
 have hdes:=hb.des
 have hlz : ∀ i j,lz 1 (F i j):=fun i j=>kC (Nat.le_trans (f9 i j) S)
 have hs:=fQ
 by_cases hd:dZ m F n=0
 ·have g1:=rS m n F Y Y hdes hd
  have g2:=rZ m n F hr hc hlz false ⟨fun h=>absurd h S,fun h=>absurd hd h⟩
  refine Ok.enter Tryz.func4 Z Tryz.ntmps4 Z (fun w O => ?_)
  refine ae (aj ?_)
  refine aM Z Z (ltN Z) (fun b1 => ?_)
  refine Ea Z (Ec (aa (ae (aj (DY (am (hs) Z trivial) (Ea Z (Ec (aa (ae ?_)))))))))
  refine aj (DY (ay 0 Z Z) ?_)
  refine DY (am (hm) Z ⟨H,Ed⟩) ?_
  refine aF (T:=28) Z Z Z (fun b4 => ?_)
  refine aH 0 Z Z Z Z (Ec (aa (ae (aj (DY (ay 0 Z Z) ?_)))))
  refine DY (am (g1) Z ⟨H,Ed⟩) ?_
  refine DZ Z (DY (aq Z Z) (DY (aq Z Z) (DY (aq Z Z) (Ea Z (Ea Z (Ea Z (Ec (aa (ae ?_)))))))))
  refine ae (aj (DZ Z (DY (sT Y (cE Z Z)) (Ec (aa (aG Z (ae (aj (DZ Z ?_)))))))))
  refine DY (sT Y (cn Z Z)) (DZ Z (Eb (ay 0 Z Z) ?_))
  refine Eb (am (g2) Z ⟨H,Ed⟩) ?_
  refine Eb (bF Z) (DY (aV Z Z) (DZ Z (Eb (ab Z) (DY (aV Z Z) (Ea Z (Ec (aa (aD (aI ?_)))))))))
  refine aK Tryz.results4 (.tmp Z H)
 ·have g1:=mM m n F Y Y hdes hd
  have zq : ∀ i,i<n→qz 13 (grQ m F i):=fun i hi=>nD hd hdes hi
  have zm : ∀ i j,i<n→j<i→qz 13 (grM m F i j):=fun i j hi hj=>r7 hd hdes hi hj
  have v1:=gc n n (grQ m F) 13 Y S zq
  rw [decide_eq_true Z] at v1
  have q0:=eA 0 S S
  rw [show ((0:Int):Rat)=0 by decide +kernel] at q0
  have m4F : ∀ i j,cX (F i j):=fun i j=>dF (t:=6) (hb.f i j) S
  refine Ok.enter Tryz.func4 Z Tryz.ntmps4 Z (fun w O => ?_)
  refine ae (aj ?_)
  refine aM Z Z (ltN Z) (fun b1 => ?_)
  refine Ea Z (Ec (aa (ae (aj (DY (am (hs) Z trivial) (Ea Z (Ec (aa (ae ?_)))))))))
  refine aj (DY (ay 0 Z Z) ?_)
  refine DY (am (hm) Z ⟨H,Ed⟩) ?_
  refine aF (T:=28) Z Z Z (fun b4 => ?_)
  refine aH 0 Z Z Z Z (Ec (aa (ae (aj (DY (ay 0 Z Z) ?_)))))
  refine DY (am (g1) Z ⟨H,Ed⟩) ?_
  refine DZ Z (DY (aq Z Z) (DY (aq Z Z) (DY (aq Z Z) (Ea Z (Ea Z (Ea Z (Ec (aa (ae ?_)))))))))
  refine ae (aj (DZ Z (DY (sF Y (cE Z Z)) (Ec (aa (az Z (av (aa (ae ?_)))))))))
  refine ae (aj (DZ Z (DY (aZ Z) (DY (ah Z) (DY (ak 0 Z Z Z) (DY (sF Y (cE Z Z)) (DZ Z (Eb (ab Z) (Eb (ah Z) ?_)))))))))
  refine Eb (ak 0 Z Z Z) ?_
  refine Eb (am (v1) Z ⟨H,H,Ed⟩) ?_
  refine Eb (bF Z) (DY (a6 Z Z) (Ec (aa (az Z (av (aa (ae (ae (aj ?_)))))))))
  refine Ea Z (Ec (aa (ar (cm (Γ' := [(2,_),(3,_),(4,_),(5,_),(6,_),(8,_)]) DT (SubM.refl _) ?_))))
  refine bw (σ:=Nat) (Γk := [(3,_),(4,_),(5,_),(6,_)]) DT (fun i => [(8,one (.int .i64 (i:Nat)))]) (fun i M0=>M0) (fun i=>i≤n) (fun i=>n - i) (0) (Nat.zero_le _) DU (.keep DX (.keep DX (.nil))) (fun i hi => ?_)
  refine bN (Γ' := [(8,_),(3,_),(4,_),(5,_),(6,_)]) (M' := [_,_]) Z Z ?_
  by_cases hin:i<n
  ·have v2:=gc i i (grM m F i) 13 Y S (fun j hj=>zm i j hin hj)
   rw [decide_eq_true Z] at v2
   have sg:=kQ (grQ m F i)
   have sg2:=Bn hd hin
   refine ae (ae (aj (DZ Z (DY (ah Z) (DY (ak 0 Z Z Z) (DY (sT Y (a7 Z Z)) (Ec (aa (aG Z ?_)))))))))
   refine av (aa (ae (ar (ae (ae (aj (DZ Z (DZ Z (DY (ax Z Z Y) ?_)))))))))
   refine DY (aJ Z) (DZ Z ?_)
   refine DY (am (v2) Z ⟨H,H,Ed⟩) ?_
   refine DY (bF Z) (DZ Z (Eb (ab Z) (Eb (ab Z) (Eb (ax Z Z Y) (Eb (aJ Z) ?_)))))
   refine Eb (am (sg) Z ⟨H,Ed⟩) ?_
   refine Eb (sF Y (j8 Z Z)) (DY (a6 Z Z) (Ec (aa (az Z (av (aa (ae (aj (Ea Z ?_)))))))))
   refine Ec (aa (ar (cm (Γ' := [(3,_),(4,_),(5,_),(6,_),(8,_),(9,_)]) DT (SubM.refl _) ?_)))
   refine bw (σ:=Nat) (Γk := [(3,_),(4,_),(5,_),(6,_),(8,_)]) DT (fun k => [(9,one (.int .i64 (k:Nat)))]) (fun k M0=>M0) (fun k=>k≤i+1) (fun k=>i+1 - k) (0) (Nat.zero_le _) DU (.keep DX (.keep DX (.nil))) (fun k hk => ?_)
   refine bN (Γ' := [(9,_),(3,_),(4,_),(5,_),(6,_),(8,_)]) (M' := [_,_]) Z Z ?_
   by_cases hki:k≤i
   ·refine ae (ae (aj (DZ Z (DZ Z (DY (sT Y (j8 Z Z)) (Ec (aa (aG Z (av ?_)))))))))
    refine aa (ae (ar (ae (aj ?_))))
    refine DY (am (q0) Z ⟨H,Ed⟩) ?_
    refine aF (T:=45) Z Z Z (fun b10 => ?_)
    refine cK 0 Z Z Z Z (Ec (aa (ae (ae (aj (Ea Z (Ec (aa (ar ?_)))))))))
    refine cm (Γ' := [(3,_),(4,_),(5,_),(6,_),(8,_),(9,_),(10,_),(11,_)]) DT (SubM.refl _) ?_
    refine bw (σ:=Nat) (Γk := [(3,_),(4,_),(5,_),(6,_),(8,_),(9,_),(10,_)]) DT (fun j => [(11,one (.int .i64 (j:Nat)))]) (fun j M0=>(M0.set 0 (aW b10 45 4 [(0, .agg 4,bx (sm j (tmR m F i k)))]))) (fun j=>j≤k+1) (fun j=>k+1 - j) (0) (Nat.zero_le _) DU (.keep DX (.keep DX (.keep DX (.nil)))) (fun j hj => ?_)
    refine bN (Γ' := [(11,_),(3,_),(4,_),(5,_),(6,_),(8,_),(9,_),(10,_)]) (M' := [_,_,_]) Z Z ?_
    have zs:qz 200 (sm j (tmR m F i k)):=(zf (n:=k+1) (f:=tmR m F i k) (fun s hs=>zM hd hdes hin hki Y) j hj).mono (by
     rcases (show j=0∨j=1∨j=2∨j=3∨j=4 by omega) with rfl | rfl | rfl | rfl | rfl <;> decide)
    by_cases hjk:j≤k
    ·have zt:qz 39 (tmR m F i k j):=zM hd hdes hin hki hjk
     have had:Ok Tryz.prog 22 [bx (sm j (tmR m F i k)),bx (tmR m F i k j)] (bx (sm (j+1) (tmR m F i k))):=pj _ _ 200 39 zs zt S
     by_cases h1:j<k
     ·have hm1:=eJ (grQ m F j) (grM m F i j) 13 13 (zq j Y) (zm i j hin Y) S
      have hm2:=eJ (grQ m F j*grM m F i j) (grM m F k j) 26 13 (fe (zq j Y) (zm i j hin Y)) (zm k j Y h1) S
      rw [show grQ m F j*grM m F i j*grM m F k j=tmR m F i k j from (if_pos h1).symm] at hm2
      refine ae (ae (aj (DZ Z (DZ Z (DY (sT Y (j8 Z Z)) (Ec (aa (aG Z (av ?_)))))))))
      refine aa (ae (ar (ae (aj (DZ Z (DZ Z (DY (ax Z Z Y) (DY (aJ Z) ?_))))))))
      refine aF (T:=45) Z Z Z (fun b12 => ?_)
      refine cK 0 Z Z Z Z (Ec (aa (ae (ae (aj (DZ Z (DZ Z (DY (sT Y (a7 Z Z)) (Ec ?_)))))))))
      refine aa (aG Z (aT 9 aS X S (DY (ak 0 Z Z Z) (DZ Z (DZ Z (DY (ax Z Z Y) (DY (aJ Z) (DZ Z (DY (ax Z Z Y) ?_)))))))))
      refine DY (aJ Z) ?_
      refine DY (am (hm1) Z ⟨H,H,Ed⟩) ?_
      refine Ec (aC 0 Z Z Z Z Z (leN Z) Z (Ec (aa (ae (ae (aj (DZ Z (DZ Z (DY (sT Y (a7 Z Z)) ?_)))))))))
      refine Ec (aa (aG Z (aT 9 aS X S (DY (ak 0 Z Z Z) (DZ Z (DZ Z (DY (ax Z Z Y) (DY (aJ Z) (DZ Z ?_)))))))))
      refine DY (ax Z Z Y) (DY (aJ Z) ?_)
      refine DY (am (hm2) Z ⟨H,H,Ed⟩) ?_
      refine Ec (aC 0 Z Z Z Z Z (leN Z) Z (Ec (aa (aj (DY (ak 1 Z Z Z) (DY (ak 0 Z Z Z) ?_))))))
      refine DY (am (had) Z ⟨H,H,Ed⟩) ?_
      refine aC 1 Z Z Z Z Z (leN Z) Z (Ec (aB (aa (aj (DZ Z (DY (bn _ 1 Z Z Y) (Ea Z (Ec ?_))))))))
      refine aN (j+1) Y Y DU (.drop (.keep DX (.keep DX (.keep DX (.nil)))))
     ·have e:j=k:=by omega
      subst e
      by_cases h2:j<i
      ·have hm1:=eJ (grQ m F j) (grM m F i j) 13 13 (zq j Y) (zm i j hin Y) S
       rw [show grQ m F j*grM m F i j=tmR m F i j j by unfold tmR;rw [if_neg h1,if_pos h2]] at hm1
       refine ae (ae (aj (DZ Z (DZ Z (DY (sT Y (j8 Z Z)) (Ec (aa (aG Z (av ?_)))))))))
       refine aa (ae (ar (ae (aj (DZ Z (DZ Z (DY (ax Z Z Y) (DY (aJ Z) ?_))))))))
       refine aF (T:=45) Z Z Z (fun b12 => ?_)
       refine cK 0 Z Z Z Z (Ec (aa (ae (ae (aj (DZ Z (DZ Z (DY (sT Y (a7 Z Z)) (Ec ?_)))))))))
       refine aa (aG Z (aT 9 aS X S (DY (ak 0 Z Z Z) (DZ Z (DZ Z (DY (ax Z Z Y) (DY (aJ Z) (DZ Z (DY (ax Z Z Y) ?_)))))))))
       refine DY (aJ Z) ?_
       refine DY (am (hm1) Z ⟨H,H,Ed⟩) ?_
       refine Ec (aC 0 Z Z Z Z Z (leN Z) Z (Ec (aa (ae (ae (aj (DZ Z (DZ Z (DY (sF Y (a7 Z Z)) ?_)))))))))
       refine Ec (aa (az Z (av (aa (aj (DY (ak 1 Z Z Z) (DY (ak 0 Z Z Z) ?_)))))))
       refine DY (am (had) Z ⟨H,H,Ed⟩) ?_
       refine aC 1 Z Z Z Z Z (leN Z) Z (Ec (aB (aa (aj (DZ Z (DY (bn _ 1 Z Z Y) (Ea Z (Ec ?_))))))))
       refine aN (j+1) Y Y DU (.drop (.keep DX (.keep DX (.keep DX (.nil)))))
      ·have e:j=i:=by omega
       subst e
       rw [show tmR m F j j j=grQ m F j by unfold tmR;rw [if_neg h1,if_neg h2]] at had
       refine ae (ae (aj (DZ Z (DZ Z (DY (sT Y (j8 Z Z)) (Ec (aa (aG Z (av ?_)))))))))
       refine aa (ae (ar (ae (aj (DZ Z (DZ Z (DY (ax Z Z Y) (DY (aJ Z) ?_))))))))
       refine aF (T:=45) Z Z Z (fun b12 => ?_)
       refine cK 0 Z Z Z Z (Ec (aa (ae (ae (aj (DZ Z (DZ Z (DY (sF Y (a7 Z Z)) (Ec ?_)))))))))
       refine aa (az Z (av (aa (ae (ae (aj (DZ Z (DZ Z (DY (sF Y (a7 Z Z)) ?_)))))))))
       refine Ec (aa (az Z (av (aa (aj (DY (ak 1 Z Z Z) (DY (ak 0 Z Z Z) ?_)))))))
       refine DY (am (had) Z ⟨H,H,Ed⟩) ?_
       refine aC 1 Z Z Z Z Z (leN Z) Z (Ec (aB (aa (aj (DZ Z (DY (bn _ 1 Z Z Y) (Ea Z (Ec ?_))))))))
       refine aN (j+1) Y Y DU (.drop (.keep DX (.keep DX (.keep DX (.nil)))))
    ·have e:j=k+1:=by omega
     subst e
     have hdt:=tF m (F i) (F k) Y (m4F i) (m4F k)
     rw [← jr,show Lin.smZ m (fun q=>F i q*F k q)=cO m (F i) (F k) from rfl] at hdt
     have hw:=jO (cO m (F i) (F k))
     have hsa:=kP (sm (k+1) (tmR m F i k)) ((cO m (F i) (F k):Int):Rat)
     rw [decide_eq_true (Bm hd hin hki)] at hsa
     refine ae (ae (aj (DZ Z (DZ Z (DY (sF Y (j8 Z Z)) (Ec (aa (az Z (aY ?_)))))))))
     refine aw (aw (aE (aa (ae ?_))))
     refine dU aS X X ?_
     refine ux (fun B=>ah Z) Z Z ?_
     refine ux (fun B=>ak 1 Z Z Z) Z Z ?_
     refine ux (fun B=>ab Z) Z Z ?_
     refine ux (fun B=>ax Z Z Y) Z Z ?_
     refine ux (fun B=>aJ Z) Z Z ?_
     refine ux (fun B=>ah Z) Z Z ?_
     refine ux (fun B=>ak 1 Z Z Z) Z Z ?_
     refine ux (fun B=>ab Z) Z Z ?_
     refine ux (fun B=>ax Z Z Y) Z Z ?_
     refine ux (fun B=>aJ Z) Z Z ?_
     refine uxk (hdt) Z ⟨H,H,Ed⟩ Z ?_
     refine ux (fun B=>ab Z) Z Z ?_
     refine ux (fun B=>aq Z Z) Z Z ?_
     refine ux (fun B=>aq Z Z) Z Z ?_
     refine ua Z (us Z ?_)
     refine ux (fun B=>ai Z) Z Z ?_
     refine RunU.nil (fun γ => ?_)
     refine cF (M' := [_,_,_,_]) Z (aa (ae (aT 5 aS X S (DY (ak 1 Z Z Z) (DY (ak 0 Z Z Z) ?_)))))
     refine DY (am (hw) Z ⟨H,Ed⟩) ?_
     refine DY (am (hsa) Z ⟨H,H,Ed⟩) ?_
     refine DY (bF Z) (Ec (Ec (aa (az Z (av (aB (aa (aj (DZ Z ?_)))))))))
     refine DY (bn _ 1 Z Z Y) (Ea Z (Ec ?_))
     refine aN (k+1) Y Y DU (.drop (.drop (.keep DX (.keep DX (.nil)))))
   ·have e:k=i+1:=by omega
    subst e
    refine ae (ae (aj (DZ Z (DZ Z (DY (sF Y (j8 Z Z)) (Ec (aa (az Z (aY ?_)))))))))
    refine aw (aw (aE (aB (aa (aj (DZ Z (DY (bn _ 1 Z Z Y) (Ea Z (Ec ?_)))))))))
    refine aN (i+1) Y Y DU (.keep DX (.keep DX (.nil)))
  ·have he:n=i:=by omega
   subst he
   refine ae (ae (aj (DZ Z (DY (ah Z) (DY (ak 0 Z Z Z) (DY (sF Y (a7 Z Z)) (Ec (aa (az Z ?_)))))))))
   refine aY (aw (aw (aE (aa (ae (aj (DZ Z (Ea Z (Ec ?_)))))))))
   refine aa (aD ?_)
   refine aK Tryz.results4 (.tmp Z H)
end Tor
end
section
namespace Tor
open Go Go.RowKit Go.Proofs
open Lin (dZ lZ uZ cO dK ec qq cf qF dot gsB gsM sm)
abbrev u3 (r c:Nat) (x:Int) (F:Nat→Nat→Int):VT:=bA 3 [(0, .one,one (.int .i64 (r:Nat))),(1, .one,one (.int .i64 x)),(2, .one,slT .one r (fun i=>cu c (F i)))]
theorem zN {r c:Nat} {x:Int} {F:Nat→Nat→Int} : VT.le (u3 r c x F) (g7 r x (gn r c F)):=by
 unfold g7
 refine eY (fun q hq => ?_)
 rcases List.mem_cons.1 hq with rfl | hq
 ·exact ⟨_,List.mem_cons_self,H⟩
 rcases List.mem_cons.1 hq with rfl | hq
 ·exact ⟨_,List.mem_cons_of_mem _ List.mem_cons_self,H⟩
 rcases List.mem_cons.1 hq with rfl | hq
 ·refine ⟨_,List.mem_cons_of_mem _ (List.mem_cons_of_mem _ List.mem_cons_self),?_⟩
  unfold d8 gn
  refine VT.le_trans (er (ψ:=fun i=>ea (((tab r c F).map (·.map lj)).getD i [])) (fun i hi => ?_)) (lh (by simp))
  refine VT.le_trans (oU c (F i)) (VT.le_trans (sP _) (lh ?_))
  unfold tab
  simp [List.getD,hi]
 ·cases hq
attribute [local irreducible] J PJ aP one slT cv bA bM exT cq eP aW aU slV VT.le Ret bO
attribute [local irreducible] aO
theorem u4 (r c:Nat) (x:Int) (F:Nat→Nat→Int) (hx:x≠(c:Nat)):Ok Tryz.prog 68 [u3 r c x F,one (.int .i64 (r:Nat)),one (.int .i64 (c:Nat))] (one (.bool false)):=by
 refine Ok.enter Tryz.func68 Z Tryz.ntmps68 Z (fun w O => ?_)
 refine ae (aj ?_)
 refine aM Z Z (ltN Z) (fun b3 => ?_)
 refine Ea Z (Ec (aa (ae (aj (DY (ah Z) (DY (ak 0 Z Z Z) (DZ Z (DY (sT Y (cn Z Z)) (DZ Z ?_)))))))))
 refine Eb (ah Z) (Eb (ak 0 Z Z Z) (Eb (ab Z) (Eb (sF (by assumption) (cn Z Z)) (DY (aV Z Z) (DZ Z (sn0 Z Z Z Z Z (sn0 Z Z Z Z Z (DY (a6 Z Z) (Ea Z ?_)))))))))
 refine Ec (aa (aD ?_))
 refine aK Tryz.results68 (.tmp Z H)
set_option maxRecDepth 100000 in
theorem u5 (m n:Nat) (A R U V:Nat→Nat→Int) (x:Int) (hx:x≠(n:Nat)) (hn:n≤1048576) (hm:m≤1048576) :
  Ok Tryz.prog 29 [bG n m A,rdT (bG n m R) (bG n n U) (u3 n n x V)] (one (.bool false)):=by
 have v1:=cJ n m A
 have v2:=cJ n m R
 have v3:=cJ n n U
 have v4:Ok Tryz.prog 44 [u3 n n x V] (one (.bool (eU n x (gn n n V)))):=(nL n x (gn n n V)).le ⟨zN,Ed⟩ H
 generalize eU n x (gn n n V)=bv at v4
 refine Ok.enter Tryz.func29 Z Tryz.ntmps29 Z (fun w O => ?_)
 refine ae (aj ?_)
 refine aM Z Z (ltN Z) (fun b2 => ?_)
 refine aM Z Z (ltN Z) (fun b3 => ?_)
 refine Ea Z (Ec (aa (ae (ae (aj (DY (ay 1 Z Z) (DY (ah Z) (DY (ak 0 Z Z Z) (DY (ah Z) ?_)))))))))
 refine DY (ak 0 Z Z Z) (DY (ah Z) (DY (ak 0 Z Z Z) (stS Z Z Z Z (PartsK.cons Z (PartsK.cons Z (PartsK.cons Z (PartsK.cons Z (PartsK.nil (DY (aZ Z) ?_)))))))))
 refine DZ Z (Ec (aa (ar (cm (Γ' := [(2,_),(3,_),(4,_),(18,_),(19,_),(20,_)]) DT (SubM.refl _) ?_))))
 refine bw (σ:=Nat) (Γk := [(2,_),(3,_),(18,_),(19,_)]) DT (fun i => [(20,one (.int .i64 (i:Nat)))]) (fun i M0=>M0) (fun i=>i≤4) (fun i=>4 - i) (0) (Nat.zero_le _) DU (.keep DX (.keep DX (.nil))) (fun i hi => ?_)
 refine bN (Γ' := [(20,_),(2,_),(3,_),(18,_),(19,_)]) (M' := [_,_]) Z Z ?_
 by_cases hi4:i<4
 ·rcases (show i=0∨i=1∨i=2∨i=3 by omega) with rfl | rfl | rfl | rfl
  ·refine ae (aj (DY (sT Y (a7 Z Z)) (Ec (aa (ae (aG Z (av (aa (ae ?_)))))))))
   refine ar (ae (aj (DY (ax Z Z Y) (DY (aJ Z) ?_))))
   refine aF (T:=28) Z Z Z (fun b6 => ?_)
   refine aH 0 Z Z Z Z (Ec (aa (ae (aj (DY (ay 0 Z Z) ?_)))))
   refine DY (am (v1) Z ⟨H,Ed⟩) ?_
   refine DY (bF Z) (DZ Z (Eb (ah Z) (Eb (ak 0 Z Z Z) (Eb (ah Z) (Eb (ak 2 Z Z Z) (Eb (sF Y (cE Z Z)) (DY (a6 Z Z) (Ec (aa ?_)))))))))
   refine az Z (av (aB (aa (aj (DY (bn _ 1 Z Z Y) (DZ Z (Ec ?_)))))))
   refine aN (1) S S DU (.drop (.keep DX (.keep DX (.nil))))
  ·refine ae (aj (DY (sT Y (a7 Z Z)) (Ec (aa (ae (aG Z (av (aa (ae ?_)))))))))
   refine ar (ae (aj (DY (ax Z Z Y) (DY (aJ Z) ?_))))
   refine aF (T:=28) Z Z Z (fun b6 => ?_)
   refine aH 0 Z Z Z Z (Ec (aa (ae (aj (DY (ay 0 Z Z) ?_)))))
   refine DY (am (v2) Z ⟨H,Ed⟩) ?_
   refine DY (bF Z) (DZ Z (Eb (ah Z) (Eb (ak 0 Z Z Z) (Eb (ah Z) (Eb (ak 2 Z Z Z) (Eb (sF Y (cE Z Z)) (DY (a6 Z Z) (Ec (aa ?_)))))))))
   refine az Z (av (aB (aa (aj (DY (bn _ 1 Z Z Y) (DZ Z (Ec ?_)))))))
   refine aN (2) S S DU (.drop (.keep DX (.keep DX (.nil))))
  ·refine ae (aj (DY (sT Y (a7 Z Z)) (Ec (aa (ae (aG Z (av (aa (ae ?_)))))))))
   refine ar (ae (aj (DY (ax Z Z Y) (DY (aJ Z) ?_))))
   refine aF (T:=28) Z Z Z (fun b6 => ?_)
   refine aH 0 Z Z Z Z (Ec (aa (ae (aj (DY (ay 0 Z Z) ?_)))))
   refine DY (am (v3) Z ⟨H,Ed⟩) ?_
   refine DY (bF Z) (DZ Z (Eb (ah Z) (Eb (ak 0 Z Z Z) (Eb (ah Z) (Eb (ak 2 Z Z Z) (Eb (sF Y (cE Z Z)) (DY (a6 Z Z) (Ec (aa ?_)))))))))
   refine az Z (av (aB (aa (aj (DY (bn _ 1 Z Z Y) (DZ Z (Ec ?_)))))))
   refine aN (3) S S DU (.drop (.keep DX (.keep DX (.nil))))
  ·cases bv
   ·refine ae (aj (DY (sT Y (a7 Z Z)) (Ec (aa (ae (aG Z (av (aa (ae ?_)))))))))
    refine ar (ae (aj (DY (ax Z Z Y) (DY (aJ Z) ?_))))
    refine aF (T:=28) Z Z Z (fun b6 => ?_)
    refine aH 0 Z Z Z Z (Ec (aa (ae (aj (DY (ay 0 Z Z) ?_)))))
    refine DY (am (v4) Z ⟨H,Ed⟩) ?_
    refine DY (bF Z) (DZ Z (sn0 Z Z Z Z Z (sn0 Z Z Z Z Z (sn0 Z Z Z Z Z (sn0 Z Z Z Z Z (sn0 Z Z Z Z Z (DY (aV Z Z) (Ec (aa ?_)))))))))
    refine aG Z (ae (aj (Ea Z (Ec (aa (aD (a9 (aI (aI ?_)))))))))
    refine a9 (aI ?_)
    refine aK Tryz.results29 (.tmp Z H)
   ·refine ae (aj (DY (sT Y (a7 Z Z)) (Ec (aa (ae (aG Z (av (aa (ae ?_)))))))))
    refine ar (ae (aj (DY (ax Z Z Y) (DY (aJ Z) ?_))))
    refine aF (T:=28) Z Z Z (fun b6 => ?_)
    refine aH 0 Z Z Z Z (Ec (aa (ae (aj (DY (ay 0 Z Z) ?_)))))
    refine DY (am (v4) Z ⟨H,Ed⟩) ?_
    refine DY (bF Z) (DZ Z (Eb (ah Z) (Eb (ak 0 Z Z Z) (Eb (ah Z) (Eb (ak 2 Z Z Z) (Eb (sF Y (cE Z Z)) (DY (a6 Z Z) (Ec (aa ?_)))))))))
    refine az Z (av (aB (aa (aj (DY (bn _ 1 Z Z Y) (DZ Z (Ec ?_)))))))
    refine aN (4) S S DU (.drop (.keep DX (.keep DX (.nil))))
 ·have he:i=4:=by omega
  subst he
  refine ae (aj (DY (sF Y (a7 Z Z)) (Ec (aa (ae (az Z (aY (aw (aw ?_)))))))))
  refine aE (aa (ae (ae (aj (DY (ah Z) (DY (ah Z) (DY (bt 0 0 1 Z Z Z Z Z) (DY (ah Z) (DY (ak 1 Z Z Z) ?_)))))))))
  refine DY (sF Y (cE Z Z)) (DZ Z (Eb (ah Z) (Eb (ah Z) (Eb (bt 0 3 1 Z Z Z Z Z) (Eb (ah Z) (Eb (ak 1 Z Z Z) (Eb (sF Y (cE Z Z)) (DY (a6 Z Z) (DZ Z ?_)))))))))
  refine Eb (ah Z) (Eb (ah Z) (Eb (bt 0 6 1 Z Z Z Z Z) (Eb (ah Z) (Eb (ak 1 Z Z Z) (Eb (sT (by assumption) (cE Z Z)) (DY (a6 Z Z) (Ec (aa (aG Z ?_)))))))))
  refine ae (aj (Ea Z (Ec (aa (aD (aI ?_))))))
  refine aK Tryz.results29 (.tmp Z H)
set_option maxRecDepth 100000 in
theorem u6 (m n:Nat) (A R U V:Nat→Nat→Int) (x:Int) (hx:x≠(n:Nat)) (hn:n≤4) (hm:m≤4) (hA : ∀ i j,dA (A i j)) (hU : ∀ i j,dA (U i j)) (hR : ∀ i j,lz 1 (R i j)) :
  Ok Tryz.prog 28 [bG n m A,rdT (bG n m R) (bG n n U) (u3 n n x V)] (one (.bool false)):=by
 have hn':n≤1048576:=by omega
 have v1:=lL n m A hn' (fun i j=>cI (hA i j))
 have v2:=jm n m R hn' (fun i j=>(hR i j).small S)
 have v3:=jm n n U hn' (fun i j=>cI (hU i j))
 have v4:=u4 n n x V hx
 refine Ok.enter Tryz.func28 Z Tryz.ntmps28 Z (fun w O => ?_)
 refine ae (aj ?_)
 refine aM Z Z (ltN Z) (fun b2 => ?_)
 refine aM Z Z (ltN Z) (fun b3 => ?_)
 refine Ea Z (Ec (aa (ae (ae (aj (DY (ay 1 Z Z) ?_))))))
 refine DY (am (v1) Z ⟨H,Ed⟩) ?_
 refine DY (bF Z) (DZ Z (Eb (ah Z) (Eb (ak 0 Z Z Z) (Eb (ah Z) (Eb (ak 1 Z Z Z) (Eb (ah Z) (Eb (ak 1 Z Z Z) ?_)))))))
 refine Eb (am (v2) Z ⟨H,H,H,Ed⟩) ?_
 refine Eb (bF Z) (DY (a6 Z Z) (DZ Z (Eb (ah Z) (Eb (ak 0 Z Z Z) (Eb (ah Z) (Eb (ak 1 Z Z Z) (Eb (ah Z) (Eb (ak 1 Z Z Z) ?_))))))))
 refine Eb (am (v3) Z ⟨H,H,H,Ed⟩) ?_
 refine Eb (bF Z) (DY (a6 Z Z) (DZ Z (Eb (ah Z) (Eb (ak 0 Z Z Z) (Eb (ah Z) (Eb (ak 1 Z Z Z) (Eb (ah Z) (Eb (ak 1 Z Z Z) ?_))))))))
 refine Eb (am (v4) Z ⟨H,H,H,Ed⟩) ?_
 refine Eb (bF Z) (DY (a6 Z Z) (Ec (aa (aG Z (ae (aj (Ea Z (Ec (aa ?_)))))))))
 refine aD (aI ?_)
 refine aK Tryz.results28 (.tmp Z H)
end Tor
end
section
namespace Tor
open Go Go.RowKit Go.Proofs
open Lin (dZ lZ uZ cO dK ec qq cf qF dot gsB gsM sm)
theorem zO {m n:Nat} {F:Nat→Nat→Int} (hm:m≤4) (hn:n≤4) (hF : ∀ i j,(F i j).natAbs≤4096):DesB m n F:=by
 have hd : ∀ i j,(cO m (F i) (F j)).natAbs≤67108864:=fun i j=>by
  have h1:=iI (B:=16777216) (f:=fun k=>F i k*F j k) (fun k=>by rw [Int.natAbs_mul]; exact Nat.mul_le_mul (hF i k) (hF j k)) m
  exact Nat.le_trans h1 (Nat.le_trans (Nat.mul_le_mul_right _ hm) S)
 refine ⟨fun i j=>dF (t:=12) (hF i j) S,fun i j t ht hj hi => ?_⟩
 have h1:=nA (n:=t+1) (fun a b=>hd (Lin.rr t i a) (Lin.rr t j b))
 refine dF (t:=120) (Nat.le_trans h1 ?_) S
 rcases (show t=0∨t=1∨t=2∨t=3 by omega) with rfl | rfl | rfl | rfl <;> decide
theorem wz {i j B:Nat} {k:Int} {F:Nat→Nat→Int} (hF : ∀ a b,(F a b).natAbs≤B) (hk:k.natAbs≤128) (a b:Nat):(j6 i j k F a b).natAbs≤B+128:=by
 have:=hF a b
 unfold j6;split <;> omega
theorem wA {i j:Nat} {k:Int} {F:Nat→Nat→Int} (hF : ∀ a b,(aL (F a b).natAbs).length≤25000) (hk:k.natAbs≤128) (a b:Nat):dA (j6 i j k F a b):=by
 unfold j6;split
 ·have h1:lz 25000 (F a b):=hF a b
  have h2:lz 25000 k:=(lz1 Y).mono S
  exact Nat.le_trans (uG h1 h2) S
 ·exact pI (hF a b)
theorem wB {F:Nat→Nat→Int} (hF : ∀ a b,(aL (F a b).natAbs).length≤25000) (a b:Nat):dA (F a b * -1):=by
 rw [Int.mul_neg,Int.mul_one]
 unfold dA
 rw [Int.natAbs_neg]
 exact Nat.le_trans (hF a b) S
theorem CL (m n:Nat) (A R U V:Nat→Nat→Int) : ∃ v:Bool,v=true↔ChkP m n A R U V:=by
 by_cases h:ChkP m n A R U V
 ·exact ⟨true,fun _=>h,fun _=>rfl⟩
 ·exact ⟨false,fun e=>absurd e S,fun e=>absurd e h⟩
theorem iJ (m n:Nat) (A R U V:Nat→Nat→Int) (hn:n≤4) (hm:m≤4) (hA : ∀ i j,dA (A i j)) (hR : ∀ i j,(R i j).natAbs≤4096) (hU : ∀ i j,dA (U i j)) (hV : ∀ i j,dA (V i j)) :
  ∃ v:Bool,Ok Tryz.prog 29 [bG n m A,rdT (bG n m R) (bG n n U) (bG n n V)] (one (.bool v))∧Ok Tryz.prog 28 [bG n m A,rdT (bG n m R) (bG n n U) (bG n n V)] (one (.bool v)):=by
 obtain ⟨v,hv⟩:=CL m n A R U V
 exact ⟨v,kV m n A R U V Y Y hA hU hV (zO hm hn hR) v hv,fP m n A R U V hn hm hA hU hV (fun i j=>kC (hR i j)) v hv⟩
theorem zP {b:Nat} {T:TypeId} {DP DO φ ψ χ:VT} : Own.le (aW b T 9 [(0, .agg 3,DP),(3, .agg 3,DO),(6, .agg 3,bA 3 [(0, .one, φ),(1, .one, ψ),(2, .one, χ)])]) (aW b T 9 [(0, .agg 3,DP),(3, .agg 3,DO),(6, .one, φ),(7, .one, ψ),(8, .one, χ)]) :=
 ⟨rfl,fun g k ⟨c,h1,h2,h3,h4⟩=>⟨c,h1,h2,h3,fun q hq=>by
  obtain ⟨x,hx,c',rfl,k1,k2,k3⟩:=h4 (6, .agg 3,bA 3 [(0, .one, φ),(1, .one, ψ),(2, .one, χ)]) (List.mem_cons_of_mem _ (List.mem_cons_of_mem _ List.mem_cons_self))
  have hx:(if 6+3≤c.size then some (Value.agg (c.extract 6 (6+3))) else none)=some (.agg c'):=hx
  rw [if_pos Y] at hx
  have hx:c.extract 6 9=c':=by injection hx with hx;injection hx
  have hg : ∀ j,j<3→c'[j]? = c[6+j]? := fun j hj=>by rw [← hx,Array.getElem?_extract,if_pos Y]
  simp only [List.mem_cons,List.not_mem_nil,or_false] at hq
  rcases hq with rfl | rfl | rfl | rfl | rfl
  ·exact h4 _ List.mem_cons_self
  ·exact h4 _ (List.mem_cons_of_mem _ List.mem_cons_self)
  ·obtain ⟨y,hy,hp⟩:=k3 (0, .one, φ) (by simp);exact ⟨y,(hg 0 S).symm.trans hy,hp⟩
  ·obtain ⟨y,hy,hp⟩:=k3 (1, .one, ψ) (by simp);exact ⟨y,(hg 1 S).symm.trans hy,hp⟩
  ·obtain ⟨y,hy,hp⟩:=k3 (2, .one, χ) (by simp);exact ⟨y,(hg 2 S).symm.trans hy,hp⟩⟩⟩
theorem zQ {b:Nat} {T:TypeId} {DP DO φ ψ χ:VT} : Own.le (aW b T 9 [(0, .agg 3,DP),(3, .agg 3,DO),(6, .one, φ),(7, .one, ψ),(8, .one, χ)]) (aW b T 9 [(0, .agg 3,DP),(3, .agg 3,DO),(6, .agg 3,bA 3 [(0, .one, φ),(1, .one, ψ),(2, .one, χ)])]) :=
 ⟨rfl,fun g k ⟨c,h1,h2,h3,h4⟩=>⟨c,h1,h2,h3,fun q hq=>by
  have hg : ∀ j,j<3→(c.extract 6 9)[j]? = c[6+j]? := fun j hj=>by rw [Array.getElem?_extract,if_pos Y]
  simp only [List.mem_cons,List.not_mem_nil,or_false] at hq
  rcases hq with rfl | rfl | rfl
  ·exact h4 _ List.mem_cons_self
  ·exact h4 _ (List.mem_cons_of_mem _ List.mem_cons_self)
  ·refine ⟨.agg (c.extract 6 9),if_pos (by show 6+3≤c.size;omega),c.extract 6 9,rfl,by rw [Array.size_extract]; omega,?_,fun q hq => ?_⟩
   ·rw [Array.all_eq_true] at h3 ⊢
    intro i hi
    rw [Array.getElem_extract]; exact h3 _ _
   ·simp only [List.mem_cons,List.not_mem_nil,or_false] at hq
    rcases hq with rfl | rfl | rfl
    ·obtain ⟨x,hx,hp⟩:=h4 (6, .one, φ) (by simp);exact ⟨x,(hg 0 S).trans hx,hp⟩
    ·obtain ⟨x,hx,hp⟩:=h4 (7, .one, ψ) (by simp);exact ⟨x,(hg 1 S).trans hx,hp⟩
    ·obtain ⟨x,hx,hp⟩:=h4 (8, .one, χ) (by simp);exact ⟨x,(hg 2 S).trans hx,hp⟩⟩⟩
attribute [local irreducible] J PJ aP one slT cv bA bM exT cq eP aW aU slV VT.le Ret bO
attribute [local irreducible] aO bx c8
set_option maxRecDepth 100000 in
theorem t0 (r c:Nat) (l:List Int) (wt wi wj:Nat) (k:Int) (hw:wt≤255) (hi:wi≤255) (hj:wj≤255) (hk : -128≤k∧k≤127):Ok Tryz.prog 8 [fj r c l,Bb wt wi wj k] (one (.bool true)):=by
 have hr:r % 5≤4:=by omega
 have hc:c % 5≤4:=by omega
 have hm:=ij r c l
 have f9 : ∀ i j,((fun i j=>dig l (i*(c % 5)+j)) i j).natAbs≤9:=fun i j=>nR _ _
 unfold fj at hm ⊢
 generalize (fun i j=>dig l (i*(c % 5)+j))=F at *
 generalize r % 5=n at *
 generalize c % 5=m at *
 have hb:=qR hc hr f9
 have hdes:=hb.des
 have hs:=fQ
 by_cases hd:dZ m F n=0
 ·have g1:=ju m n F Y Y hdes hd
  refine Ok.enter Tryz.func8 Z Tryz.ntmps8 Z (fun w O => ?_)
  refine ae (aj ?_)
  refine aM Z Z (ltN Z) (fun b2 => ?_)
  refine aM Z Z (ltN Z) (fun b3 => ?_)
  refine Ea Z (Ec (aa (ae (aj (DY (am (hs) Z trivial) (Ea Z (Ec (aa (ae ?_)))))))))
  refine aj (DY (ay 1 Z Z) ?_)
  refine DY (am (hm) Z ⟨H,Ed⟩) ?_
  refine aF (T:=28) Z Z Z (fun b6 => ?_)
  refine aH 0 Z Z Z Z (Ec (aa (ae (aj (DY (ay 0 Z Z) ?_)))))
  refine DY (am (g1) Z ⟨H,Ed⟩) ?_
  refine DZ Z (DY (aq Z Z) (DY (aq Z Z) ?_))
  refine aF (T:=54) Z Z Z (fun b7 => ?_)
  refine aH 0 Z Z Z Z (Ea Z (Ec (aa (ae (ae (aj (DZ Z (DY (sT Y (cE Z Z)) (Ec ?_)))))))))
  refine aa (aG Z (ae (aj (DZ Z (DY (sT Y (cn Z Z)) (DZ Z (Eb (ab Z) (DY (aV Z Z) (Ea Z ?_)))))))))
  refine Ec (aa (aD (aI ?_)))
  refine aK Tryz.results8 (.tmp Z H)
 ·have g1:=gp m n 1024 F hb hd
  have mF : ∀ i j,dA (F i j):=fun i j=>(dF (t:=6) (hb.f i j) S).L
  have hkb:k.natAbs≤128:=by omega
  have hk2 : -128≤k.tmod 2∧k.tmod 2≤127:=by
   have h1:=Int.tmod_lt_of_pos k (show (0:Int)<2 by decide)
   have h2:=Int.natAbs_tmod k 2
   have h3:k.natAbs % (2:Int).natAbs≤1:=by show k.natAbs % 2≤1;omega
   omega
  have hk3:(k.tmod 2).natAbs≤128:=by omega
  have fb:=kX n m F 0 wj wi (k.tmod 2) Y Y mF hj hi hk2
  have bB : ∀ a b,(j6 (wj % n) (wi % m) (k.tmod 2) F a b).natAbs≤9+128:=wz f9 hk3
  have mB : ∀ a b,dA (j6 (wj % n) (wi % m) (k.tmod 2) F a b):=fun a b=>(dF (t:=8) (Nat.le_trans (bB a b) S) S).L
  refine Ok.enter Tryz.func8 Z Tryz.ntmps8 Z (fun w O => ?_)
  refine ae (aj ?_)
  refine aM Z Z (ltN Z) (fun b2 => ?_)
  refine aM Z Z (ltN Z) (fun b3 => ?_)
  refine Ea Z (Ec (aa (ae (aj (DY (am (hs) Z trivial) (Ea Z (Ec (aa (ae ?_)))))))))
  refine aj (DY (ay 1 Z Z) ?_)
  refine DY (am (hm) Z ⟨H,Ed⟩) ?_
  refine aF (T:=28) Z Z Z (fun b6 => ?_)
  refine aH 0 Z Z Z Z (Ec (aa (ae (aj (DY (ay 0 Z Z) ?_)))))
  refine di (g1) Z ⟨H,Ed⟩ Z Z (fun s16 => ?_)
  refine DZ Z (DY (aq Z Z) (DY (aq Z Z) ?_))
  refine aF (T:=54) Z Z Z (fun b7 => ?_)
  refine aH 0 Z Z Z Z (Ea Z (Ec (aa (ae (ae ?_)))))
  obtain ⟨s,hs'⟩:=s16
  have k0:=fP m n F s.R s.U s.V hr hc mF hs'.mU hs'.mV hs'.lzR true ⟨fun _=>hs'.chk,fun _=>rfl⟩
  have bR : ∀ i j,(s.R i j).natAbs≤4096:=fun i j=>Nat.le_trans (hs'.f i j) S
  obtain ⟨vb,b1',b2'⟩:=iJ m n (j6 (wj % n) (wi % m) (k.tmod 2) F) s.R s.U s.V hr hc mB bR hs'.mU hs'.mV
  generalize j6 (wj % n) (wi % m) (k.tmod 2) F=B at *
  refine aj (DZ Z (DY (sF Y (cE Z Z)) (Ec (aa (az Z (av (aa (ae (ae ?_)))))))))
  refine aj (DY (ay 1 Z Z) (DY (ay 0 Z Z) ?_))
  refine DY (am (k0) Z ⟨H,H,Ed⟩) ?_
  refine DY (bF Z) (Ec (aa (az Z (av (aa (ae (aj (DY (ay 0 Z Z) ?_))))))))
  refine aF (T:=54) Z Z Z (fun b9 => ?_)
  refine aH 0 Z Z Z Z (Ec (aa (ae (ae ?_))))
  rcases (show wt % 6=0∨wt % 6=1∨wt % 6=2∨wt % 6=3∨wt % 6=4∨wt % 6=5 by omega) with h6 | h6 | h6 | h6 | h6 | h6
  ·have fo:=kX n m s.R wt wi wj k Y Y hs'.mR hi hj hk
   obtain ⟨v,k1,k2⟩:=iJ m n F (j6 (wi % n) (wj % m) k s.R) s.U s.V hr hc mF (fun a b=>Nat.le_trans (wz hs'.f hkb a b) S) hs'.mU hs'.mV
   generalize j6 (wi % n) (wj % m) k s.R=DP at *
   refine aj (DY (ah Z) (DY (ak 3 Z Z Z) (DY (gi 6 Z Z Z S) (Ec (aa (ar (ae (aj (DY (sT Y (cn Z Z)) ?_)))))))))
   refine Ea Z (Ec (aa (aG Z (aj (DY (ah Z) (DY (ak 1 Z Z Z) (DY (ay 3 Z Z) ?_)))))))
   refine DY (am (fo) Z ⟨H,H,Ed⟩) ?_
   refine DY (ah Z) (aC 0 Z Z Z Z Z (leN Z) Z (Ec (aB (aa (ae (aj (DY (ay 2 Z Z) (DY (ah Z) (DY (ak 3 Z Z Z) ?_)))))))))
   refine DY (ah Z) (DY (ak 3 Z Z Z) (DY (ah Z) (DY (ak 3 Z Z Z) (DY (jX Z Z S Z) (stB Z Z Z (BuildK.cons Z Z Z (BuildK.cons Z Z Z (BuildK.cons Z Z Z (BuildK.nil ?_)))))))))
   refine DY (am (fb) Z ⟨H,H,Ed⟩) ?_
   refine aF (T:=28) Z Z Z (fun b10 => ?_)
   refine aH 0 Z Z Z Z (Ec (aa (ae (aT 19 aS X S (DY (ay 3 Z Z) (DY (ay 1 Z Z) ?_))))))
   refine DY (am (k1) Z ⟨H,H,Ed⟩) ?_
   refine DY (ay 3 Z Z) (DY (ay 1 Z Z) ?_)
   refine DY (am (k2) Z ⟨H,H,Ed⟩) ?_
   refine DY (sBt (beq_self_eq_true _) (fv Z Z)) (DZ Z (Eb (ay 0 Z Z) (Eb (ay 2 Z Z) ?_)))
   refine Eb (am (b1') Z ⟨H,H,Ed⟩) ?_
   refine Eb (ay 0 Z Z) (Eb (ay 2 Z Z) ?_)
   refine Eb (am (b2') Z ⟨H,H,Ed⟩) ?_
   refine Eb (sBt (beq_self_eq_true _) (fv Z Z)) (DY (aV Z Z) (DZ Z (Eb (ab Z) (DY (aV Z Z) (Ec (Ea Z (Ec (aa (aD ?_)))))))))
   refine aK Tryz.results8 (.tmp Z H)
  ·have fo:=kX n n s.U wt wi wj k Y Y hs'.mU hi hj hk
   obtain ⟨v,k1,k2⟩:=iJ m n F s.R (j6 (wi % n) (wj % n) k s.U) s.V hr hc mF bR (wA hs'.U hkb) hs'.mV
   generalize j6 (wi % n) (wj % n) k s.U=DP at *
   refine aj (DY (ah Z) (DY (ak 3 Z Z Z) (DY (gi 6 Z Z Z S) (Ec (aa (ar (ae (aj (DY (sF Y (cn Z Z)) ?_)))))))))
   refine Ea Z (Ec (aa (az Z (ae (aj (DY (sT Y (cn Z Z)) (Ea Z (Ec (aa ?_)))))))))
   refine aG Z (aj (DY (ah Z) (DY (ak 1 Z Z Z) (DY (ay 3 Z Z) ?_))))
   refine DY (am (fo) Z ⟨H,H,Ed⟩) ?_
   refine DY (ah Z) (aC 0 Z Z Z Z Z (leN Z) Z (Ec (aB (aa (ae (aj (DY (ay 2 Z Z) (DY (ah Z) (DY (ak 3 Z Z Z) ?_)))))))))
   refine DY (ah Z) (DY (ak 3 Z Z Z) (DY (ah Z) (DY (ak 3 Z Z Z) (DY (jX Z Z S Z) (stB Z Z Z (BuildK.cons Z Z Z (BuildK.cons Z Z Z (BuildK.cons Z Z Z (BuildK.nil ?_)))))))))
   refine DY (am (fb) Z ⟨H,H,Ed⟩) ?_
   refine aF (T:=28) Z Z Z (fun b10 => ?_)
   refine aH 0 Z Z Z Z (Ec (aa (ae (aT 19 aS X S (DY (ay 3 Z Z) (DY (ay 1 Z Z) ?_))))))
   refine DY (am (k1) Z ⟨H,H,Ed⟩) ?_
   refine DY (ay 3 Z Z) (DY (ay 1 Z Z) ?_)
   refine DY (am (k2) Z ⟨H,H,Ed⟩) ?_
   refine DY (sBt (beq_self_eq_true _) (fv Z Z)) (DZ Z (Eb (ay 0 Z Z) (Eb (ay 2 Z Z) ?_)))
   refine Eb (am (b1') Z ⟨H,H,Ed⟩) ?_
   refine Eb (ay 0 Z Z) (Eb (ay 2 Z Z) ?_)
   refine Eb (am (b2') Z ⟨H,H,Ed⟩) ?_
   refine Eb (sBt (beq_self_eq_true _) (fv Z Z)) (DY (aV Z Z) (DZ Z (Eb (ab Z) (DY (aV Z Z) (Ec (Ea Z (Ec (aa (aD ?_)))))))))
   refine aK Tryz.results8 (.tmp Z H)
  ·have fo:=kX n n s.V wt wi wj k Y Y hs'.mV hi hj hk
   obtain ⟨v,k1,k2⟩:=iJ m n F s.R s.U (j6 (wi % n) (wj % n) k s.V) hr hc mF bR hs'.mU (wA hs'.V hkb)
   generalize j6 (wi % n) (wj % n) k s.V=DP at *
   refine aj (DY (ah Z) (DY (ak 3 Z Z Z) (DY (gi 6 Z Z Z S) (Ec (aa (ar (ae (aj (DY (sF Y (cn Z Z)) ?_)))))))))
   refine Ea Z (Ec (aa (az Z (ae (aj (DY (sF Y (cn Z Z)) (Ea Z (Ec (aa ?_)))))))))
   refine az Z (ae (aj (DY (sT Y (cn Z Z)) (Ea Z (Ec (aa (aG Z (aj (DY (ah Z) ?_)))))))))
   refine DY (ak 1 Z Z Z) (DY (ay 3 Z Z) ?_)
   refine DY (am (fo) Z ⟨H,H,Ed⟩) ?_
   refine DY (ah Z) (aC 0 Z Z Z Z Z (leN Z) Z (Ec (aB (aa (ae (aj (DY (ay 2 Z Z) (DY (ah Z) (DY (ak 3 Z Z Z) ?_)))))))))
   refine DY (ah Z) (DY (ak 3 Z Z Z) (DY (ah Z) (DY (ak 3 Z Z Z) (DY (jX Z Z S Z) (stB Z Z Z (BuildK.cons Z Z Z (BuildK.cons Z Z Z (BuildK.cons Z Z Z (BuildK.nil ?_)))))))))
   refine DY (am (fb) Z ⟨H,H,Ed⟩) ?_
   refine aF (T:=28) Z Z Z (fun b10 => ?_)
   refine aH 0 Z Z Z Z (Ec (aa (ae (aT 19 aS X S (DY (ay 3 Z Z) (DY (ay 1 Z Z) ?_))))))
   refine DY (am (k1) Z ⟨H,H,Ed⟩) ?_
   refine DY (ay 3 Z Z) (DY (ay 1 Z Z) ?_)
   refine DY (am (k2) Z ⟨H,H,Ed⟩) ?_
   refine DY (sBt (beq_self_eq_true _) (fv Z Z)) (DZ Z (Eb (ay 0 Z Z) (Eb (ay 2 Z Z) ?_)))
   refine Eb (am (b1') Z ⟨H,H,Ed⟩) ?_
   refine Eb (ay 0 Z Z) (Eb (ay 2 Z Z) ?_)
   refine Eb (am (b2') Z ⟨H,H,Ed⟩) ?_
   refine Eb (sBt (beq_self_eq_true _) (fv Z Z)) (DY (aV Z Z) (DZ Z (Eb (ab Z) (DY (aV Z Z) (Ec (Ea Z (Ec (aa (aD ?_)))))))))
   refine aK Tryz.results8 (.tmp Z H)
  ·have o1:=fZ (-1) S S
   have sm1:bJ (-1):=(lz1 W).small (n:=1) S
   have s1:=ns n m s.R (-1) Y Y (fun i j=>cI (hs'.mR i j)) sm1
   have s2:=ns n n s.U (-1) Y Y (fun i j=>cI (hs'.mU i j)) sm1
   have s3:=ns n n s.V (-1) Y Y (fun i j=>cI (hs'.mV i j)) sm1
   obtain ⟨v,k1,k2⟩:=iJ m n F (fun i j=>s.R i j * -1) (fun i j=>s.U i j * -1) (fun i j=>s.V i j * -1) hr hc mF (fun a b=>by show (s.R a b * -1).natAbs≤_;have:=bR a b;omega) (wB hs'.U) (wB hs'.V)
   refine aj (DY (ah Z) (DY (ak 3 Z Z Z) (DY (gi 6 Z Z Z S) (Ec (aa (ar (ae (aj (DY (sF Y (cn Z Z)) ?_)))))))))
   refine Ea Z (Ec (aa (az Z (ae (aj (DY (sF Y (cn Z Z)) (Ea Z (Ec (aa ?_)))))))))
   refine az Z (ae (aj (DY (sF Y (cn Z Z)) (Ea Z (Ec (aa (az Z (ae (aj ?_)))))))))
   refine DY (sT Y (cn Z Z)) (Ea Z (Ec (aa (aG Z (aT 13 aS X S (DY (ah Z) (DY (ak 1 Z Z Z) ?_)))))))
   refine DY (am (o1) Z ⟨H,Ed⟩) ?_
   refine DY (am (s1) Z ⟨H,H,Ed⟩) ?_
   refine DY (ah Z) (DY (ak 1 Z Z Z) ?_)
   refine DY (am (o1) Z ⟨H,Ed⟩) ?_
   refine DY (am (s2) Z ⟨H,H,Ed⟩) ?_
   refine DY (ah Z) (DY (ak 1 Z Z Z) ?_)
   refine DY (am (o1) Z ⟨H,Ed⟩) ?_
   refine DY (am (s3) Z ⟨H,H,Ed⟩) ?_
   refine stB Z Z Z (BuildK.cons Z Z Z (BuildK.cons Z Z Z (BuildK.cons Z Z Z (BuildK.nil (Ec (aH 0 Z Z Z Z (Ec (aB (aa ?_)))))))))
   refine ae (aj (DY (ay 2 Z Z) (DY (ah Z) (DY (ak 3 Z Z Z) (DY (ah Z) (DY (ak 3 Z Z Z) (DY (ah Z) (DY (ak 3 Z Z Z) (DY (jX Z Z S Z) ?_)))))))))
   refine stB Z Z Z (BuildK.cons Z Z Z (BuildK.cons Z Z Z (BuildK.cons Z Z Z (BuildK.nil ?_))))
   refine DY (am (fb) Z ⟨H,H,Ed⟩) ?_
   refine aF (T:=28) Z Z Z (fun b10 => ?_)
   refine aH 0 Z Z Z Z (Ec (aa (ae (aT 19 aS X S (DY (ay 3 Z Z) (DY (ay 1 Z Z) ?_))))))
   refine DY (am (k1) Z ⟨H,H,Ed⟩) ?_
   refine DY (ay 3 Z Z) (DY (ay 1 Z Z) ?_)
   refine DY (am (k2) Z ⟨H,H,Ed⟩) ?_
   refine DY (sBt (beq_self_eq_true _) (fv Z Z)) (DZ Z (Eb (ay 0 Z Z) (Eb (ay 2 Z Z) ?_)))
   refine Eb (am (b1') Z ⟨H,H,Ed⟩) ?_
   refine Eb (ay 0 Z Z) (Eb (ay 2 Z Z) ?_)
   refine Eb (am (b2') Z ⟨H,H,Ed⟩) ?_
   refine Eb (sBt (beq_self_eq_true _) (fv Z Z)) (DY (aV Z Z) (DZ Z (Eb (ab Z) (DY (aV Z Z) (Ec (Ea Z (Ec (aa (aD ?_)))))))))
   refine aK Tryz.results8 (.tmp Z H)
  ·have id1:=jG n Y
   have mI : ∀ i j,dA ((fun i j=>if i=j then 1 else 0:Nat→Nat→Int) i j):=fun i j=>by
    show dA (if i=j then 1 else 0)
    split
    ·exact Nat.le_trans (uH (n:=1) S) S
    ·exact Nat.zero_le _
   obtain ⟨v,k1,k2⟩:=iJ m n F F (fun i j=>if i=j then 1 else 0) (fun i j=>if i=j then 1 else 0) hr hc mF (fun a b=>Nat.le_trans (f9 a b) S) mI mI
   refine aj (DY (ah Z) (DY (ak 3 Z Z Z) (DY (gi 6 Z Z Z S) (Ec (aa (ar (ae (aj (DY (sF Y (cn Z Z)) ?_)))))))))
   refine Ea Z (Ec (aa (az Z (ae (aj (DY (sF Y (cn Z Z)) (Ea Z (Ec (aa ?_)))))))))
   refine az Z (ae (aj (DY (sF Y (cn Z Z)) (Ea Z (Ec (aa (az Z (ae (aj ?_)))))))))
   refine DY (sF Y (cn Z Z)) (Ea Z (Ec (aa (az Z (ae (aj (DY (sT Y (cn Z Z)) (Ea Z (Ec ?_)))))))))
   refine aa (aG Z (aT 8 aS X S (DY (ay 2 Z Z) (DY (ah Z) (DY (ak 2 Z Z Z) ?_)))))
   refine DY (am (id1) Z ⟨H,Ed⟩) ?_
   refine DY (ah Z) (DY (ak 2 Z Z Z) ?_)
   refine DY (am (id1) Z ⟨H,Ed⟩) ?_
   refine stB Z Z Z (BuildK.cons Z Z Z (BuildK.cons Z Z Z (BuildK.cons Z Z Z (BuildK.nil (Ec (aH 0 Z Z Z Z (Ec (aB (aa ?_)))))))))
   refine ae (aj (DY (ay 2 Z Z) (DY (ah Z) (DY (ak 3 Z Z Z) (DY (ah Z) (DY (ak 3 Z Z Z) (DY (ah Z) (DY (ak 3 Z Z Z) (DY (jX Z Z S Z) ?_)))))))))
   refine stB Z Z Z (BuildK.cons Z Z Z (BuildK.cons Z Z Z (BuildK.cons Z Z Z (BuildK.nil ?_))))
   refine DY (am (fb) Z ⟨H,H,Ed⟩) ?_
   refine aF (T:=28) Z Z Z (fun b10 => ?_)
   refine aH 0 Z Z Z Z (Ec (aa (ae (aT 19 aS X S (DY (ay 3 Z Z) (DY (ay 1 Z Z) ?_))))))
   refine DY (am (k1) Z ⟨H,H,Ed⟩) ?_
   refine DY (ay 3 Z Z) (DY (ay 1 Z Z) ?_)
   refine DY (am (k2) Z ⟨H,H,Ed⟩) ?_
   refine DY (sBt (beq_self_eq_true _) (fv Z Z)) (DZ Z (Eb (ay 0 Z Z) (Eb (ay 2 Z Z) ?_)))
   refine Eb (am (b1') Z ⟨H,H,Ed⟩) ?_
   refine Eb (ay 0 Z Z) (Eb (ay 2 Z Z) ?_)
   refine Eb (am (b2') Z ⟨H,H,Ed⟩) ?_
   refine Eb (sBt (beq_self_eq_true _) (fv Z Z)) (DY (aV Z Z) (DZ Z (Eb (ab Z) (DY (aV Z Z) (Ec (Ea Z (Ec (aa (aD ?_)))))))))
   refine aK Tryz.results8 (.tmp Z H)
  ·refine aj (DY (ah Z) (DY (ak 3 Z Z Z) (DY (gi 6 Z Z Z S) (Ec (aa (ar (ae (aj (DY (sF Y (cn Z Z)) ?_)))))))))
   refine Ea Z (Ec (aa (az Z (ae (aj (DY (sF Y (cn Z Z)) (Ea Z (Ec (aa ?_)))))))))
   refine az Z (ae (aj (DY (sF Y (cn Z Z)) (Ea Z (Ec (aa (az Z (ae (aj ?_)))))))))
   refine DY (sF Y (cn Z Z)) (Ea Z (Ec (aa (az Z (ae (aj (DY (sF Y (cn Z Z)) (Ea Z (Ec ?_)))))))))
   refine aa (az Z ?_)
   refine et (ConvM.le (zP (DP:=bG n m s.R) (DO:=bG n n s.U) (φ:=one (.int .i64 (n:Nat))) (ψ:=one (.int .i64 (n:Nat))) (χ:=slT .one n fun i=>cu n (s.V i)))) ?_
   refine aj (DY (ah Z) (DY (ah Z) (DY (ak 0 Z Z Z) (DY (ah Z) (DY (ak 3 Z Z Z) (DY (jX Z Z S Z) (DY (eZ Z Y Y) (DY (ck Z Z (aR Y Y)) (DY (ah Z) ?_)))))))))
   refine DY (ah Z) (aC 0 Z Z Z Z Z (leN Z) Z (Ec (aB (aa (ae ?_)))))
   refine et (ConvM.le (zQ (DP:=bG n m s.R) (DO:=bG n n s.U) (φ:=one (.int .i64 (n:Nat))) (ψ:=one (.int .i64 ((n:Nat)+k.tmod 2))) (χ:=slT .one n fun i=>cu n (s.V i)))) ?_
   by_cases h0:k.tmod 2=0
   ·obtain ⟨v,k1,k2⟩:=iJ m n F s.R s.U s.V hr hc mF bR hs'.mU hs'.mV
    have k3:Ok Tryz.prog 29 [bG n m F,rdT (bG n m s.R) (bG n n s.U) (u3 n n ((n:Nat)+k.tmod 2) s.V)] (one (.bool v)):=by rw [h0,Int.add_zero]; exact k1
    have k4:Ok Tryz.prog 28 [bG n m F,rdT (bG n m s.R) (bG n n s.U) (u3 n n ((n:Nat)+k.tmod 2) s.V)] (one (.bool v)):=by rw [h0,Int.add_zero]; exact k2
    clear k1 k2
    refine aj (DY (ay 2 Z Z) (DY (ah Z) (DY (ak 3 Z Z Z) (DY (ah Z) (DY (ak 3 Z Z Z) (DY (ah Z) (DY (ak 3 Z Z Z) (DY (jX Z Z S Z) (stB Z Z Z ?_)))))))))
    refine BuildK.cons Z Z Z (BuildK.cons Z Z Z (BuildK.cons Z Z Z (BuildK.nil ?_)))
    refine DY (am (fb) Z ⟨H,H,Ed⟩) ?_
    refine aF (T:=28) Z Z Z (fun b10 => ?_)
    refine aH 0 Z Z Z Z (Ec (aa (ae (aT 19 aS X S (DY (ay 3 Z Z) (DY (ay 1 Z Z) ?_))))))
    refine DY (am (k3) Z ⟨H,H,Ed⟩) ?_
    refine DY (ay 3 Z Z) (DY (ay 1 Z Z) ?_)
    refine DY (am (k4) Z ⟨H,H,Ed⟩) ?_
    refine DY (sBt (beq_self_eq_true _) (fv Z Z)) (DZ Z (Eb (ay 0 Z Z) (Eb (ay 2 Z Z) ?_)))
    refine Eb (am (b1') Z ⟨H,H,Ed⟩) ?_
    refine Eb (ay 0 Z Z) (Eb (ay 2 Z Z) ?_)
    refine Eb (am (b2') Z ⟨H,H,Ed⟩) ?_
    refine Eb (sBt (beq_self_eq_true _) (fv Z Z)) (DY (aV Z Z) (DZ Z (Eb (ab Z) (DY (aV Z Z) (Ec (Ea Z (Ec (aa (aD ?_)))))))))
    refine aK Tryz.results8 (.tmp Z H)
   ·have k1:=u5 m n F s.R s.U s.V ((n:Nat)+k.tmod 2) Y Y Y
    have k2:=u6 m n F s.R s.U s.V ((n:Nat)+k.tmod 2) Y hr hc mF hs'.mU hs'.lzR
    refine aj (DY (ay 2 Z Z) (DY (ah Z) (DY (ak 3 Z Z Z) (DY (ah Z) (DY (ak 3 Z Z Z) (DY (ah Z) (DY (ak 3 Z Z Z) (DY (jX Z Z S Z) (stB Z Z Z ?_)))))))))
    refine BuildK.cons Z Z Z (BuildK.cons Z Z Z (BuildK.cons Z Z Z (BuildK.nil ?_)))
    refine DY (am (fb) Z ⟨H,H,Ed⟩) ?_
    refine aF (T:=28) Z Z Z (fun b10 => ?_)
    refine aH 0 Z Z Z Z (Ec (aa (ae (aT 19 aS X S (DY (ay 3 Z Z) (DY (ay 1 Z Z) ?_))))))
    refine DY (am (k1) Z ⟨H,H,Ed⟩) ?_
    refine DY (ay 3 Z Z) (DY (ay 1 Z Z) ?_)
    refine DY (am (k2) Z ⟨H,H,Ed⟩) ?_
    refine DY (fv Z Z) (DZ Z (Eb (ay 0 Z Z) (Eb (ay 2 Z Z) ?_)))
    refine Eb (am (b1') Z ⟨H,H,Ed⟩) ?_
    refine Eb (ay 0 Z Z) (Eb (ay 2 Z Z) ?_)
    refine Eb (am (b2') Z ⟨H,H,Ed⟩) ?_
    refine Eb (sBt (beq_self_eq_true _) (fv Z Z)) (DY (aV Z Z) (DZ Z (Eb (ab Z) (DY (aV Z Z) (Ec (Ea Z (Ec (aa (aD ?_)))))))))
    refine aK Tryz.results8 (.tmp Z H)
end Tor
end
section
namespace Tor
open Go Go.RowKit Go.Proofs
theorem r8 {p0:Prop} (r c:Nat) (l:List Int) (wt wi wj:Nat) (k:Int) (y0:p0) (y1:(wt:Int)≤IntKind.max .u8∧(wi:Int)≤IntKind.max .u8∧(wj:Int)≤IntKind.max .u8∧(IntKind.min .i8≤k∧k≤IntKind.max .i8)∧True):Ok Tryz.prog 8 [fj r c l,Bb wt wi wj k] (one (.bool true)) :=
 t0 r c l wt wi wj k (Int.ofNat_le.1 y1.1) (Int.ofNat_le.1 y1.2.1) (Int.ofNat_le.1 y1.2.2.1) y1.2.2.2.1
end Tor
end
section
set_option maxRecDepth 100000
namespace Tor
open Go Go.RowKit Go.ChangeShapes Go.WideShapes Go.ChangeAt Go.Joins Go.Proofs
theorem nE {DS:Type} {enc:TypeId × Value→DS} {DR:World} {base:Nat} {v:Value} {d:DataW DS} {ps:List MemPlace} (hval:Value.okWide Tryz.prog DR .any base 24 v) (hT:DataW.Trod enc Tryz.prog DR 0 (fun _=>true) true 24 v d ps) (hw : ∀ x∈DataW.weights Tryz.prog 24 d,x≤reachBytes) :
  ∃ (r:Nat) (c:Nat) (l:List Int),(fj r c l).p v (ct DR)∧(r:Int)≤IntKind.max .u8∧(c:Int)≤IntKind.max .u8∧(∀ x∈l,IntKind.min .i8≤x∧x≤IntKind.max .i8)∧True:=by
 obtain ⟨cs,rfl,h⟩:=vv 8 (ts := [5,5,22]) X (.inl ⟨_,Tryz.underlying24⟩) hval hT hw
 obtain ⟨c0,r0,rfl,h0,g0⟩:=h
 obtain ⟨c1,r1,rfl,h1,g1⟩:=g0
 obtain ⟨c2,r2,rfl,h2,g2⟩:=g1
 cases g2
 obtain ⟨r,rfl,b0⟩:=kg Tryz.underlying5 Z h0
 obtain ⟨c,rfl,b1⟩:=kg Tryz.underlying5 Z h1
 obtain ⟨l,k2,b2⟩:=qc Tryz.underlying22 Tryz.underlying67 X (of_decide_eq_true X) h2
 exact ⟨r,c,l,Bt (φs := [one (.int .u8 r),one (.int .u8 c),jY .i8 l]) ⟨rfl,rfl,⟨rfl,rfl,⟨k2,z6 k2,Ed⟩⟩⟩,b0,b1,b2,Ed⟩
theorem DE {DS:Type} {enc:TypeId × Value→DS} {DR:World} {base:Nat} {v:Value} {d:DataW DS} {ps:List MemPlace} (hval:Value.okWide Tryz.prog DR .any base 22 v) (hT:DataW.Trod enc Tryz.prog DR 0 (fun _=>true) true 22 v d ps) (hw : ∀ x∈DataW.weights Tryz.prog 22 d,x≤reachBytes) :
  ∃ (d:List Int),(jY .i8 d).p v (ct DR)∧(∀ x∈d,IntKind.min .i8≤x∧x≤IntKind.max .i8)∧True:=by
 have h:=xQ (.inr (.inr ⟨_,Tryz.underlying22⟩)) hval hT hw
 obtain ⟨d,k0,b0⟩:=qc Tryz.underlying22 Tryz.underlying67 X (of_decide_eq_true X) h
 exact ⟨d,k0,b0,Ed⟩
theorem CM {DS:Type} {enc:TypeId × Value→DS} {DR:World} {base:Nat} {v:Value} {d:DataW DS} {ps:List MemPlace} (hval:Value.okWide Tryz.prog DR .any base 69 v) (hT:DataW.Trod enc Tryz.prog DR 0 (fun _=>true) true 69 v d ps) (hw : ∀ x∈DataW.weights Tryz.prog 69 d,x≤reachBytes) :
  ∃ (wt:Nat) (wi:Nat) (wj:Nat) (k:Int),(Bb wt wi wj k).p v (ct DR)∧(wt:Int)≤IntKind.max .u8∧(wi:Int)≤IntKind.max .u8∧(wj:Int)≤IntKind.max .u8∧(IntKind.min .i8≤k∧k≤IntKind.max .i8)∧True:=by
 obtain ⟨cs,rfl,h⟩:=vv 8 (ts := [5,5,5,67]) X (.inl ⟨_,Tryz.underlying69⟩) hval hT hw
 obtain ⟨c0,r0,rfl,h0,g0⟩:=h
 obtain ⟨c1,r1,rfl,h1,g1⟩:=g0
 obtain ⟨c2,r2,rfl,h2,g2⟩:=g1
 obtain ⟨c3,r3,rfl,h3,g3⟩:=g2
 cases g3
 obtain ⟨wt,rfl,b0⟩:=kg Tryz.underlying5 Z h0
 obtain ⟨wi,rfl,b1⟩:=kg Tryz.underlying5 Z h1
 obtain ⟨wj,rfl,b2⟩:=kg Tryz.underlying5 Z h2
 obtain ⟨k,rfl,b3⟩:=oK Tryz.underlying67 h3
 exact ⟨wt,wi,wj,k,Bt (φs := [one (.int .u8 wt),one (.int .u8 wi),one (.int .u8 wj),one (.int .i8 k)]) ⟨rfl,rfl,⟨rfl,rfl,⟨rfl,rfl,⟨rfl,rfl,Ed⟩⟩⟩⟩,b0,b1,b2,b3,Ed⟩
end Tor
namespace Go.Proofs.YtpnkmoojhbjdfaaGreat
open Go.ChangeShapes Go.WideShapes Go.ChangeAt Go.RowKit Go.Joins Tor
theorem lllMatchesReference_own:ownKnob Tryz.prog.godebug=none:=by kernel_rfl
theorem lllMatchesReference_laid:laidOutB Tryz.prog=true:=by kernel_rfl
set_option maxRecDepth 100000 in
theorem lllMatchesReference_lifted (os:Os) (started:os.Started) (DS:Type) (enc:TypeId × Value→DS) :
  ReturnsInHanded {} Tryz.checked os 3 .any (Rows.lllMatchesReferenceSpec.pre6 enc Tryz.prog Tryz.f3 Rows.lllMatchesReferenceRow.domain false) (Rows.lllMatchesReferenceSpec.post enc Tryz.prog Tryz.f3 false true false false):=by
 refine returnsInHanded_of_change_sized (C:=Tryz.checked) lllMatchesReference_own started X Tryz.func3
  (ChangeSpec.witness6 (enc:=enc) (C:=Tryz.checked) false ⟨#[], #[.agg #[.int .u8 0, .int .u8 0, .slice none 0 0]], []⟩ 8 X X X X) ?_
 intro DR base args ds gs before hval0 hW hcnd hsz0 _
 have hval : ∀ (j:Nat) t v,Tryz.f3.params[j]? = some t→args[j]? = some v→Value.okWide Tryz.prog DR .any base t v:=hval0
 have hsz:(DataW.weightsEach Tryz.prog (Tryz.f3.params.toList ++ Rows.lllMatchesReferenceSpec.plain.varTypes Tryz.prog) (ds ++ gs)).all (· ≤ reachBytes)=true:=hsz0
 have hW':=hW
 obtain ⟨p,q,hA0,hV,rfl,hfz,hnd⟩:=hW
 have hA:DataW.TrodAll enc Tryz.prog DR 0 (fun _=>true) true Tryz.f3.params.toList args.toList ds p:=hA0
 rw [Tryz.params3] at hA hval hsz
 obtain ⟨v0,d0,rfl,rfl,h0⟩:=trodAll_one hA
 obtain ⟨rfl,rfl⟩:=trodVars_none hV
 obtain ⟨r_0,c_0,l_0,x0,y0⟩:=nE (hval 0 24 _ Z Z) h0 (ez hsz 0 Z Z)
 refine (Ok.outside (DR:=DR) (args := #[v0]) (uX r_0 c_0 l_0) (And.intro x0 (trivial))).mono fun e W' ⟨v,he,hv,hw⟩ => ?_
 subst he
 have hv:v = .bool true:=hv
 subst hv
 refine ⟨_,rfl,_, [],_, [],_, [],hW',trodAll_mk1 (shut_bool Tryz.underlying4 true),trodAll_mk1
  (Below.trod lllMatchesReference_laid X (of_decide_eq_true X) h0 hw (fun x hx=>by simpa using hW'.lt x (by simp only [List.mem_append] at hx ⊢; simp [hx]))),rfl,hw.frame _,fun h=>by cases h⟩
theorem lllMatchesReference_holds:Rows.LllMatchesReferenceSaid :=
 OpenClaim.holds_of_wide 3 Tryz.f3 Z Z Z Z Z Z Z ⟨rfl,rfl,rfl,rfl,rfl⟩ Z Z Z Z Z X Tryz.func3 X
  (of_decide_eq_true X) (by unfold Func.isWrapper;first | (rw [if_pos W]; kernel_rfl) | (rw [if_neg W]; exact ⟨rfl,rfl⟩))
  (fun os started DS enc _=>lllMatchesReference_lifted os started DS enc)
end Go.Proofs.YtpnkmoojhbjdfaaGreat
namespace Tor
end Tor
namespace Go.Proofs.YtpnkmoojhbjdfaaGreat
open Go.ChangeShapes Go.WideShapes Go.ChangeAt Go.RowKit Go.Joins Tor
theorem lllDecomposes_own:ownKnob Tryz.prog.godebug=none:=by kernel_rfl
theorem lllDecomposes_laid:laidOutB Tryz.prog=true:=by kernel_rfl
set_option maxRecDepth 100000 in
theorem lllDecomposes_lifted (os:Os) (started:os.Started) (DS:Type) (enc:TypeId × Value→DS) :
  ReturnsInHanded {} Tryz.checked os 4 .any (Rows.lllDecomposesSpec.pre6 enc Tryz.prog Tryz.f4 Rows.lllDecomposesRow.domain false) (Rows.lllDecomposesSpec.post enc Tryz.prog Tryz.f4 false true false false):=by
 refine returnsInHanded_of_change_sized (C:=Tryz.checked) lllDecomposes_own started X Tryz.func4
  (ChangeSpec.witness6 (enc:=enc) (C:=Tryz.checked) false ⟨#[], #[.agg #[.int .u8 0, .int .u8 0, .slice none 0 0]], []⟩ 8 X X X X) ?_
 intro DR base args ds gs before hval0 hW hcnd hsz0 _
 have hval : ∀ (j:Nat) t v,Tryz.f4.params[j]? = some t→args[j]? = some v→Value.okWide Tryz.prog DR .any base t v:=hval0
 have hsz:(DataW.weightsEach Tryz.prog (Tryz.f4.params.toList ++ Rows.lllDecomposesSpec.plain.varTypes Tryz.prog) (ds ++ gs)).all (· ≤ reachBytes)=true:=hsz0
 have hW':=hW
 obtain ⟨p,q,hA0,hV,rfl,hfz,hnd⟩:=hW
 have hA:DataW.TrodAll enc Tryz.prog DR 0 (fun _=>true) true Tryz.f4.params.toList args.toList ds p:=hA0
 rw [Tryz.params4] at hA hval hsz
 obtain ⟨v0,d0,rfl,rfl,h0⟩:=trodAll_one hA
 obtain ⟨rfl,rfl⟩:=trodVars_none hV
 obtain ⟨r_0,c_0,l_0,x0,y0⟩:=nE (hval 0 24 _ Z Z) h0 (ez hsz 0 Z Z)
 refine (Ok.outside (DR:=DR) (args := #[v0]) (tZ r_0 c_0 l_0) (And.intro x0 (trivial))).mono fun e W' ⟨v,he,hv,hw⟩ => ?_
 subst he
 have hv:v = .bool true:=hv
 subst hv
 refine ⟨_,rfl,_, [],_, [],_, [],hW',trodAll_mk1 (shut_bool Tryz.underlying4 true),trodAll_mk1
  (Below.trod lllDecomposes_laid X (of_decide_eq_true X) h0 hw (fun x hx=>by simpa using hW'.lt x (by simp only [List.mem_append] at hx ⊢; simp [hx]))),rfl,hw.frame _,fun h=>by cases h⟩
theorem lllDecomposes_holds:Rows.LllDecomposesSaid :=
 OpenClaim.holds_of_wide 4 Tryz.f4 Z Z Z Z Z Z Z ⟨rfl,rfl,rfl,rfl,rfl⟩ Z Z Z Z Z X Tryz.func4 X
  (of_decide_eq_true X) (by unfold Func.isWrapper;first | (rw [if_pos W]; kernel_rfl) | (rw [if_neg W]; exact ⟨rfl,rfl⟩))
  (fun os started DS enc _=>lllDecomposes_lifted os started DS enc)
end Go.Proofs.YtpnkmoojhbjdfaaGreat
namespace Tor
end Tor
namespace Go.Proofs.YtpnkmoojhbjdfaaGreat
open Go.ChangeShapes Go.WideShapes Go.ChangeAt Go.RowKit Go.Joins Tor
theorem lllReduces_own:ownKnob Tryz.prog.godebug=none:=by kernel_rfl
theorem lllReduces_laid:laidOutB Tryz.prog=true:=by kernel_rfl
set_option maxRecDepth 100000 in
theorem lllReduces_lifted (os:Os) (started:os.Started) (DS:Type) (enc:TypeId × Value→DS) :
  ReturnsInHanded {} Tryz.checked os 5 .any (Rows.lllReducesSpec.pre6 enc Tryz.prog Tryz.f5 Rows.lllReducesRow.domain false) (Rows.lllReducesSpec.post enc Tryz.prog Tryz.f5 false true false false):=by
 refine returnsInHanded_of_change_sized (C:=Tryz.checked) lllReduces_own started X Tryz.func5
  (ChangeSpec.witness6 (enc:=enc) (C:=Tryz.checked) false ⟨#[], #[.agg #[.int .u8 0, .int .u8 0, .slice none 0 0]], []⟩ 8 X X X X) ?_
 intro DR base args ds gs before hval0 hW hcnd hsz0 _
 have hval : ∀ (j:Nat) t v,Tryz.f5.params[j]? = some t→args[j]? = some v→Value.okWide Tryz.prog DR .any base t v:=hval0
 have hsz:(DataW.weightsEach Tryz.prog (Tryz.f5.params.toList ++ Rows.lllReducesSpec.plain.varTypes Tryz.prog) (ds ++ gs)).all (· ≤ reachBytes)=true:=hsz0
 have hW':=hW
 obtain ⟨p,q,hA0,hV,rfl,hfz,hnd⟩:=hW
 have hA:DataW.TrodAll enc Tryz.prog DR 0 (fun _=>true) true Tryz.f5.params.toList args.toList ds p:=hA0
 rw [Tryz.params5] at hA hval hsz
 obtain ⟨v0,d0,rfl,rfl,h0⟩:=trodAll_one hA
 obtain ⟨rfl,rfl⟩:=trodVars_none hV
 obtain ⟨r_0,c_0,l_0,x0,y0⟩:=nE (hval 0 24 _ Z Z) h0 (ez hsz 0 Z Z)
 refine (Ok.outside (DR:=DR) (args := #[v0]) (r5 r_0 c_0 l_0) (And.intro x0 (trivial))).mono fun e W' ⟨v,he,hv,hw⟩ => ?_
 subst he
 have hv:v = .bool true:=hv
 subst hv
 refine ⟨_,rfl,_, [],_, [],_, [],hW',trodAll_mk1 (shut_bool Tryz.underlying4 true),trodAll_mk1
  (Below.trod lllReduces_laid X (of_decide_eq_true X) h0 hw (fun x hx=>by simpa using hW'.lt x (by simp only [List.mem_append] at hx ⊢; simp [hx]))),rfl,hw.frame _,fun h=>by cases h⟩
theorem lllReduces_holds:Rows.LllReducesSaid :=
 OpenClaim.holds_of_wide 5 Tryz.f5 Z Z Z Z Z Z Z ⟨rfl,rfl,rfl,rfl,rfl⟩ Z Z Z Z Z X Tryz.func5 X
  (of_decide_eq_true X) (by unfold Func.isWrapper;first | (rw [if_pos W]; kernel_rfl) | (rw [if_neg W]; exact ⟨rfl,rfl⟩))
  (fun os started DS enc _=>lllReduces_lifted os started DS enc)
end Go.Proofs.YtpnkmoojhbjdfaaGreat
namespace Tor
end Tor
namespace Go.Proofs.YtpnkmoojhbjdfaaGreat
open Go.ChangeShapes Go.WideShapes Go.ChangeAt Go.RowKit Go.Joins Tor
theorem lllKeepsVolume_own:ownKnob Tryz.prog.godebug=none:=by kernel_rfl
theorem lllKeepsVolume_laid:laidOutB Tryz.prog=true:=by kernel_rfl
set_option maxRecDepth 100000 in
theorem lllKeepsVolume_lifted (os:Os) (started:os.Started) (DS:Type) (enc:TypeId × Value→DS) :
  ReturnsInHanded {} Tryz.checked os 6 .any (Rows.lllKeepsVolumeSpec.pre6 enc Tryz.prog Tryz.f6 Rows.lllKeepsVolumeRow.domain false) (Rows.lllKeepsVolumeSpec.post enc Tryz.prog Tryz.f6 false true false false):=by
 refine returnsInHanded_of_change_sized (C:=Tryz.checked) lllKeepsVolume_own started X Tryz.func6
  (ChangeSpec.witness6 (enc:=enc) (C:=Tryz.checked) false ⟨#[], #[.agg #[.int .u8 0, .int .u8 0, .slice none 0 0]], []⟩ 8 X X X X) ?_
 intro DR base args ds gs before hval0 hW hcnd hsz0 _
 have hval : ∀ (j:Nat) t v,Tryz.f6.params[j]? = some t→args[j]? = some v→Value.okWide Tryz.prog DR .any base t v:=hval0
 have hsz:(DataW.weightsEach Tryz.prog (Tryz.f6.params.toList ++ Rows.lllKeepsVolumeSpec.plain.varTypes Tryz.prog) (ds ++ gs)).all (· ≤ reachBytes)=true:=hsz0
 have hW':=hW
 obtain ⟨p,q,hA0,hV,rfl,hfz,hnd⟩:=hW
 have hA:DataW.TrodAll enc Tryz.prog DR 0 (fun _=>true) true Tryz.f6.params.toList args.toList ds p:=hA0
 rw [Tryz.params6] at hA hval hsz
 obtain ⟨v0,d0,rfl,rfl,h0⟩:=trodAll_one hA
 obtain ⟨rfl,rfl⟩:=trodVars_none hV
 obtain ⟨r_0,c_0,l_0,x0,y0⟩:=nE (hval 0 24 _ Z Z) h0 (ez hsz 0 Z Z)
 refine (Ok.outside (DR:=DR) (args := #[v0]) (tY r_0 c_0 l_0) (And.intro x0 (trivial))).mono fun e W' ⟨v,he,hv,hw⟩ => ?_
 subst he
 have hv:v = .bool true:=hv
 subst hv
 refine ⟨_,rfl,_, [],_, [],_, [],hW',trodAll_mk1 (shut_bool Tryz.underlying4 true),trodAll_mk1
  (Below.trod lllKeepsVolume_laid X (of_decide_eq_true X) h0 hw (fun x hx=>by simpa using hW'.lt x (by simp only [List.mem_append] at hx ⊢; simp [hx]))),rfl,hw.frame _,fun h=>by cases h⟩
theorem lllKeepsVolume_holds:Rows.LllKeepsVolumeSaid :=
 OpenClaim.holds_of_wide 6 Tryz.f6 Z Z Z Z Z Z Z ⟨rfl,rfl,rfl,rfl,rfl⟩ Z Z Z Z Z X Tryz.func6 X
  (of_decide_eq_true X) (by unfold Func.isWrapper;first | (rw [if_pos W]; kernel_rfl) | (rw [if_neg W]; exact ⟨rfl,rfl⟩))
  (fun os started DS enc _=>lllKeepsVolume_lifted os started DS enc)
end Go.Proofs.YtpnkmoojhbjdfaaGreat
namespace Tor
end Tor
namespace Go.Proofs.YtpnkmoojhbjdfaaGreat
open Go.ChangeShapes Go.WideShapes Go.ChangeAt Go.RowKit Go.Joins Tor
theorem lllShort_own:ownKnob Tryz.prog.godebug=none:=by kernel_rfl
theorem lllShort_laid:laidOutB Tryz.prog=true:=by kernel_rfl
set_option maxRecDepth 100000 in
theorem lllShort_lifted (os:Os) (started:os.Started) (DS:Type) (enc:TypeId × Value→DS) :
  ReturnsInHanded {} Tryz.checked os 7 .any (Rows.lllShortSpec.pre6 enc Tryz.prog Tryz.f7 Rows.lllShortRow.domain false) (Rows.lllShortSpec.post enc Tryz.prog Tryz.f7 false true false false):=by
 refine returnsInHanded_of_change_sized (C:=Tryz.checked) lllShort_own started X Tryz.func7
  (ChangeSpec.witness6 (enc:=enc) (C:=Tryz.checked) false ⟨#[], #[.agg #[.int .u8 0, .int .u8 0, .slice none 0 0], .slice none 0 0], []⟩ 8 X X X X) ?_
 intro DR base args ds gs before hval0 hW hcnd hsz0 _
 have hval : ∀ (j:Nat) t v,Tryz.f7.params[j]? = some t→args[j]? = some v→Value.okWide Tryz.prog DR .any base t v:=hval0
 have hsz:(DataW.weightsEach Tryz.prog (Tryz.f7.params.toList ++ Rows.lllShortSpec.plain.varTypes Tryz.prog) (ds ++ gs)).all (· ≤ reachBytes)=true:=hsz0
 have hW':=hW
 obtain ⟨p,q,hA0,hV,rfl,hfz,hnd⟩:=hW
 have hA:DataW.TrodAll enc Tryz.prog DR 0 (fun _=>true) true Tryz.f7.params.toList args.toList ds p:=hA0
 rw [Tryz.params7] at hA hval hsz
 obtain ⟨v0,v1,d0,d1,p0,p1,rfl,rfl,rfl,h0,h1⟩:=trodAll_two hA
 obtain ⟨rfl,rfl⟩:=trodVars_none hV
 obtain ⟨r_0,c_0,l_0,x0,y0⟩:=nE (hval 0 24 _ Z Z) h0 (ez hsz 0 Z Z)
 obtain ⟨d_1,x1,y1⟩:=DE (hval 1 22 _ Z Z) h1 (ez hsz 1 Z Z)
 refine (Ok.outside (DR:=DR) (args := #[v0,v1]) (u1 r_0 c_0 l_0 d_1) (And.intro x0 (And.intro x1 (trivial)))).mono fun e W' ⟨v,he,hv,hw⟩ => ?_
 subst he
 have hv:v = .bool true:=hv
 subst hv
 refine ⟨_,rfl,_, [],_, [],_, [],hW',trodAll_mk1 (shut_bool Tryz.underlying4 true),trodAll_mk2
  (Below.trod lllShort_laid X (of_decide_eq_true X) h0 hw (fun x hx=>by simpa using hW'.lt x (by simp only [List.mem_append] at hx ⊢; simp [hx])))
  (Below.trod lllShort_laid X (of_decide_eq_true X) h1 hw (fun x hx=>by simpa using hW'.lt x (by simp only [List.mem_append] at hx ⊢; simp [hx]))),rfl,hw.frame _,fun h=>by cases h⟩
theorem lllShort_holds:Rows.LllShortSaid :=
 OpenClaim.holds_of_wide 7 Tryz.f7 Z Z Z Z Z Z Z ⟨rfl,rfl,rfl,rfl,rfl⟩ Z Z Z Z Z X Tryz.func7 X
  (of_decide_eq_true X) (by unfold Func.isWrapper;first | (rw [if_pos W]; kernel_rfl) | (rw [if_neg W]; exact ⟨rfl,rfl⟩))
  (fun os started DS enc _=>lllShort_lifted os started DS enc)
end Go.Proofs.YtpnkmoojhbjdfaaGreat
namespace Tor
end Tor
namespace Go.Proofs.YtpnkmoojhbjdfaaGreat
open Go.ChangeShapes Go.WideShapes Go.ChangeAt Go.RowKit Go.Joins Tor
theorem lllChecks_own:ownKnob Tryz.prog.godebug=none:=by kernel_rfl
theorem lllChecks_laid:laidOutB Tryz.prog=true:=by kernel_rfl
set_option maxRecDepth 100000 in
theorem lllChecks_lifted (os:Os) (started:os.Started) (DS:Type) (enc:TypeId × Value→DS) :
  ReturnsInHanded {} Tryz.checked os 8 .any (Rows.lllChecksSpec.pre6 enc Tryz.prog Tryz.f8 Rows.lllChecksRow.domain false) (Rows.lllChecksSpec.post enc Tryz.prog Tryz.f8 false true false false):=by
 refine returnsInHanded_of_change_sized (C:=Tryz.checked) lllChecks_own started X Tryz.func8
  (ChangeSpec.witness6 (enc:=enc) (C:=Tryz.checked) false ⟨#[], #[.agg #[.int .u8 0, .int .u8 0, .slice none 0 0], .agg #[.int .u8 0, .int .u8 0, .int .u8 0, .int .i8 0]], []⟩ 8 X X X X) ?_
 intro DR base args ds gs before hval0 hW hcnd hsz0 _
 have hval : ∀ (j:Nat) t v,Tryz.f8.params[j]? = some t→args[j]? = some v→Value.okWide Tryz.prog DR .any base t v:=hval0
 have hsz:(DataW.weightsEach Tryz.prog (Tryz.f8.params.toList ++ Rows.lllChecksSpec.plain.varTypes Tryz.prog) (ds ++ gs)).all (· ≤ reachBytes)=true:=hsz0
 have hW':=hW
 obtain ⟨p,q,hA0,hV,rfl,hfz,hnd⟩:=hW
 have hA:DataW.TrodAll enc Tryz.prog DR 0 (fun _=>true) true Tryz.f8.params.toList args.toList ds p:=hA0
 rw [Tryz.params8] at hA hval hsz
 obtain ⟨v0,v1,d0,d1,p0,p1,rfl,rfl,rfl,h0,h1⟩:=trodAll_two hA
 obtain ⟨rfl,rfl⟩:=trodVars_none hV
 obtain ⟨r_0,c_0,l_0,x0,y0⟩:=nE (hval 0 24 _ Z Z) h0 (ez hsz 0 Z Z)
 obtain ⟨wt_1,wi_1,wj_1,k_1,x1,y1⟩:=CM (hval 1 69 _ Z Z) h1 (ez hsz 1 Z Z)
 refine (Ok.outside (DR:=DR) (args := #[v0,v1]) (r8 r_0 c_0 l_0 wt_1 wi_1 wj_1 k_1 y0 y1) (And.intro x0 (And.intro x1 (trivial)))).mono fun e W' ⟨v,he,hv,hw⟩ => ?_
 subst he
 have hv:v = .bool true:=hv
 subst hv
 refine ⟨_,rfl,_, [],_, [],_, [],hW',trodAll_mk1 (shut_bool Tryz.underlying4 true),trodAll_mk2
  (Below.trod lllChecks_laid X (of_decide_eq_true X) h0 hw (fun x hx=>by simpa using hW'.lt x (by simp only [List.mem_append] at hx ⊢; simp [hx])))
  (Below.trod lllChecks_laid X (of_decide_eq_true X) h1 hw (fun x hx=>by simpa using hW'.lt x (by simp only [List.mem_append] at hx ⊢; simp [hx]))),rfl,hw.frame _,fun h=>by cases h⟩
theorem lllChecks_holds:Rows.LllChecksSaid :=
 OpenClaim.holds_of_wide 8 Tryz.f8 Z Z Z Z Z Z Z ⟨rfl,rfl,rfl,rfl,rfl⟩ Z Z Z Z Z X Tryz.func8 X
  (of_decide_eq_true X) (by unfold Func.isWrapper;first | (rw [if_pos W]; kernel_rfl) | (rw [if_neg W]; exact ⟨rfl,rfl⟩))
  (fun os started DS enc _=>lllChecks_lifted os started DS enc)
end Go.Proofs.YtpnkmoojhbjdfaaGreat
namespace Tor
end Tor
end
