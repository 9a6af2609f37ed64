/-
  Theorems that the proofs of laws of this seat rest on.
  No condition.
-/
import Derived.Test.YtfaglimgjfhdfaaGreatZN10
set_option maxHeartbeats 20000000
set_option linter.unusedVariables false
set_option linter.unusedSimpArgs false
set_option linter.unusedSectionVars false
section
namespace Tor
open Go Go.RowKit Go.Proofs
variable [Tor.Co.Kc]
theorem BE (x y z u t:Own) : [x,y,z,u,t].Perm ([y,z] ++ [x,u,t]):=(List.Perm.swap y x _).trans (List.Perm.cons y (List.Perm.swap z x _))
attribute [local irreducible] J PJ aC one slT bL bE bw exT cj eP aT aH slV VT.le Ret bQ
attribute [local irreducible] aU cZ
theorem yh (r c:Nat) (F:Nat→Nat→Int) (l m:List Int) (hl:l.length≤1048576) (hm:m.length≤1048576) :
  Ok Tryz.prog 112 [cr r c F,jE .i64 l,jE .i64 m] (xu (!(outs r l || outs c m)) 1 l.length m.length (q7 l m F)):=by
 unfold xu cr
 have hi1:=na l r hl
 have hi2:=na m c hm
 unfold jE at hi1 hi2 ⊢
 refine Ok.enter Tryz.func112 Z Tryz.ntmps112 Z (fun w O => ?_)
 cases h1:outs r l with
 | true =>
  rw [h1] at hi1
  refine ae (ai ?_)
  refine bJ Z Z (ltN Z) (fun b3 => ?_)
  refine bZ (T:=35) Z Z Z (fun b6 => ?_)
  refine Cd Z (Cf (aa (ae (ae (ai (Cc Z (Cb (aj Z) (Cb (am 1 Z Z Z) ?_))))))))
  refine Cb (ao (hi1) Z ⟨A,A,Cg⟩) ?_
  refine Cb (c8 Z) (Cc Z (sg0 Z Z Z Z (sg0 Z Z Z Z (sg0 Z Z Z Z (sg0 Z Z Z Z (sg0 Z Z Z Z (Cb (bh Z Z) (Cf (aa ?_)))))))))
  refine aM Z (ae (ai (stB Z Z Z (BuildK.nil (bX 0 Z Z Z Z (Cd Z (Cf (aa (aG ?_)))))))))
  refine aJ ?_
  refine db Tryz.results112 (.cellW 0 Z Z (q0 _)) (.tmp Z A)
 | false =>
  rw [h1] at hi1
  cases h2:outs c m with
  | true =>
   rw [h2] at hi2
   refine ae (ai ?_)
   refine bJ Z Z (ltN Z) (fun b3 => ?_)
   refine bZ (T:=35) Z Z Z (fun b6 => ?_)
   refine Cd Z (Cf (aa (ae (ae (ai (Cc Z (Cb (aj Z) (Cb (am 1 Z Z Z) ?_))))))))
   refine Cb (ao (hi1) Z ⟨A,A,Cg⟩) ?_
   refine Cb (c8 Z) (Cc Z (Ce (ab Z) (Ce (aj Z) (Ce (am 1 Z Z Z) ?_))))
   refine Ce (ao (hi2) Z ⟨A,A,Cg⟩) ?_
   refine Ce (c8 Z) (Cb (bT Z Z) (Cf (aa (aM Z (ae (ai (stB Z Z Z (BuildK.nil (bX 0 Z Z Z Z ?_)))))))))
   refine Cd Z (Cf (aa (aG (aJ ?_))))
   refine db Tryz.results112 (.cellW 0 Z Z (q0 _)) (.tmp Z A)
  | false =>
   rw [h2] at hi2
   refine ae (ai ?_)
   refine bJ Z Z (ltN Z) (fun b3 => ?_)
   refine bZ (T:=35) Z Z Z (fun b6 => ?_)
   refine Cd Z (Cf (aa (ae (ae (ai (Cc Z (Cb (aj Z) (Cb (am 1 Z Z Z) ?_))))))))
   refine Cb (ao (hi1) Z ⟨A,A,Cg⟩) ?_
   refine Cb (c8 Z) (Cc Z (Ce (ab Z) (Ce (aj Z) (Ce (am 1 Z Z Z) ?_))))
   refine Ce (ao (hi2) Z ⟨A,A,Cg⟩) ?_
   refine Ce (c8 Z) (Cb (bT Z Z) (Cf (aa (aD Z (ay (aa (ae (ai (Cc Z ?_)))))))))
   refine Cb (a9 Z) (Cc Z (Cb (a9 Z) ?_))
   refine gM (kV _ _ (by assumption) (by assumption)) Z ⟨A,A,Cg⟩ Z Z (fun s28 => ?_)
   refine bZ (T:=35) Z Z Z (fun b8 => ?_)
   refine bX 0 Z Z Z Z (Cf (aa (ae (ae (ai (Cd Z (Cf (aa (aw ?_)))))))))
   obtain ⟨⟨bs,sv1,cap1⟩,hlen,hsv⟩:=s28
   simp only at hlen hsv
   unfold kU
   dsimp only
   refine cv (Γ' := [(1,_),(2,_),(3,_),(6,_),(7,_),(8,_),(9,_)]) BW (SubM.refl _) ?_
   refine bO (σ:=Nat) (Γk := [(1,_),(2,_),(3,_),(6,_),(7,_),(8,_)]) BW (fun i => [(9,one (.int .i64 (i:Nat)))]) (fun i M0=>(M0.set 2 (dQ m.length bs (gF (q7 l m F) i 0)))) (fun i=>i≤l.length) (fun i=>l.length - i) (0) (Nat.zero_le _) BX (.keep Ca (.keep Ca (.keep (ez fun i j hi hj=>by simp [gF]) (.keep Ca (.keep Ca (.nil)))))) (fun i hi => ?_)
   refine cg (Γ' := [(9,_),(1,_),(2,_),(3,_),(6,_),(7,_),(8,_)]) (M' := [_,_,_,_,_]) Z Z (ae (ae (ai (Cc Z (Cc Z (Cb (a9 Z) (Cb (bD Z Z) (Cf (aa ?_)))))))))
   refine ku Z (fun hc => ?_) (fun hc => ?_)
   ·obtain ⟨bo,rfl⟩:=fA hsv X
    have hx:=uc h1 (show i<l.length by omega)
    refine ay (aa (ae (aw (ae (ai (Cd Z (Cf (aa (aw ?_)))))))))
    refine cv (Γ' := [(1,_),(2,_),(3,_),(6,_),(7,_),(8,_),(9,_),(10,_)]) BW (SubM.refl _) ?_
    refine bO (σ:=Nat) (Γk := [(1,_),(2,_),(3,_),(6,_),(7,_),(8,_),(9,_)]) BW (fun j => [(10,one (.int .i64 (j:Nat)))]) (fun j M0=>(M0.set 2 (dQ m.length bs (gF (q7 l m F) i j)))) (fun j=>j≤m.length) (fun j=>m.length - j) (0) (Nat.zero_le _) BX (.keep Ca (.keep Ca (.keep Ca (.keep Ca (.keep Ca (.nil)))))) (fun j hj => ?_)
    refine cg (Γ' := [(10,_),(1,_),(2,_),(3,_),(6,_),(7,_),(8,_),(9,_)]) (M' := [_,_,_,_,_]) Z Z (ae (ae (ai (Cc Z (Cc Z (Cb (a9 Z) (Cb (bD Z Z) (Cf (aa ?_)))))))))
    refine ku Z (fun hc2 => ?_) (fun hc2 => ?_)
    ·have hy:=uc h2 (show j<m.length by omega)
     refine ay (aa (ae (aw (bG 20 bH Y U (Cb (aj Z) (Cb (am 0 Z Z Z) (Cc Z ?_)))))))
     (refine Cb (ar Z Z ?_) ?_;omega)
     (refine Cb (bM 1 Z Z ?_) ?_;omega)
     refine Cc Z (Cb (aj Z) (Cb (am 4 Z Z Z) (Cc Z (Cc Z ?_))))
     (refine Cb (aI Z Z ?_) ?_;omega)
     refine Cb (aY Z) ?_
     (refine Cb (ej Z Z ?_ ?_) ?_;omega;omega)
     refine Cb (aY Z) (Cc Z (Cc Z ?_))
     (refine Cb (aI Z Z ?_) ?_;omega)
     refine Cb (aY Z) ?_
     (refine Cb (ej Z Z ?_ ?_) ?_;omega;omega)
     refine Cb (aY Z) (Cf ?_)
     (refine Cb (ar Z Z ?_) ?_;omega)
     (refine fD 2 Z Z Z (m7 ?_) ?_ Z ?_;omega;omega)
     refine Cf (aK (aa (ai (Cc Z (Cb (bU _ 1 Z Z X) (Cd Z (Cf ?_)))))))
     refine aX (j+1) X X BX (.keep Ca (.keep Ca (.keep (od _ Z) (.keep Ca (.keep Ca (.nil))))))
    ·have hjm:j=m.length:=by omega
     subst hjm
     refine a8 (ax (ax (aL (aK (aa (ai (Cc Z (Cb (bU _ 1 Z Z X) (Cd Z ?_)))))))))
     refine Cf ?_
     refine aX (i+1) X X BX (.keep Ca (.keep Ca (.keep (m9) (.keep Ca (.keep Ca (.nil))))))
   ·have hin:i=l.length:=by omega
    subst hin
    refine a8 (ax (ax (aL (aa (ae (ai (Cb (bI 0 Z Z) (bX 3 Z Z Z Z (Cd Z ?_)))))))))
    refine Cf (aa (aG ?_))
    refine fW [gT sv1 cap1 l.length m.length bs,dQ m.length bs (gF (q7 l m F) l.length 0)] (BE _ _ _ _ _) (.keep (p8.refl _) (.keep (p8.box (eQ hlen ⟨by simp,by simp,by simp⟩)) (.keep (p8.refl _) .nil))) (uE.refl _) ?_
    refine db Tryz.results112 (.cellW 1 Z Z ((py fun a b ha hb=>by simp [gF,ha]))) (.tmp Z A)
end Tor
end
section
namespace Tor
open Go Go.RowKit Go.Proofs
variable [Tor.Co.Kc]
theorem yi {a b a':VT} (h:VT.le a a'):VT.le (bw [a,b]) (bw [a',b]):=fun v g ⟨vs,e,hp⟩=>⟨vs,e,by
 match vs,hp with
 | [x, y], ⟨h1, h2, _⟩ => exact ⟨h _ _ h1, h2, trivial⟩⟩
def dZ (B:Nat):Nat→Nat
 | 0 => 1
 | n + 1 => (n + 1) * (B * dZ B n)
theorem lH {B:Nat} {f:Nat→Int} (h : ∀ k,(f k).natAbs≤B) : ∀ n,(Lin.smZ n f).natAbs≤n*B
 | 0 => Nat.zero_le _
 | n + 1 => by
  have ih:=lH h n
  have:=h n
  show (Lin.smZ n f+f n).natAbs≤_
  rw [Nat.succ_mul]
  exact Nat.le_trans (Int.natAbs_add_le _ _) (Nat.add_le_add ih this)
theorem rD (j:Nat):(Lin.m3 j).natAbs=1:=by unfold Lin.m3;split <;> rfl
theorem j8 {B:Nat} : ∀ {n:Nat} {F:Nat→Nat→Int},(∀ i j,(F i j).natAbs≤B)→(Lin.bY n F).natAbs≤dZ B n
 | 0, _, _ => Nat.le_refl _
 | n + 1, F, h => by
  rw [Lin.bY]
  refine lH (fun k => ?_) (n+1)
  rw [Int.natAbs_mul,Int.natAbs_mul,rD,Nat.one_mul]
  exact Nat.mul_le_mul (h 0 k) (j8 fun i j=>h _ _)
def xpS (n:Nat) (F:Nat→Nat→Int) (k:Nat):Int:=Lin.smZ k (fun j=>Lin.m3 j*F 0 j*Lin.bY n (fun i k=>F (i+1) (Lin.skip j k)))
theorem vM {B n:Nat} {F:Nat→Nat→Int} (h : ∀ i j,(F i j).natAbs≤B) {k:Nat} (hk:k≤n+1):(xpS n F k).natAbs≤dZ B (n+1):=by
 refine Nat.le_trans (lH (B:=B*dZ B n) (fun k => ?_) k) (Nat.mul_le_mul_right _ hk)
 rw [Int.natAbs_mul,Int.natAbs_mul,rD,Nat.one_mul]
 exact Nat.mul_le_mul (h 0 k) (j8 fun i j=>h _ _)
theorem lb {n q:Nat} (g:Nat→Int) (h:q<n):((List.range n).map g).getD q 0=g q:=by
 simp [List.getD,h]
theorem vN (n k:Nat) (F:Nat→Nat→Int) (hn:n≤1024) (hk:k≤n):Ok Tryz.prog 112 [cr (n+1) (n+1) F,slT .one n (fun q=>one (.int .i64 ((q+1:Nat):Int))),slT .one n (fun q=>one (.int .i64 (Lin.skip k q:Nat)))]
  (bw [cr n n (fun i j=>F (i+1) (Lin.skip k j)),one (.int .i64 0)]):=by
 have h:=yh (n+1) (n+1) F ((List.range n).map fun q=>((q+1:Nat):Int)) ((List.range n).map fun q=>(Lin.skip k q:Int)) (by simp;omega) (by simp;omega)
 have o1:outs (n+1) ((List.range n).map fun q=>((q+1:Nat):Int))=false:=List.any_eq_false.2 fun x hx=>by
  obtain ⟨q,hq,rfl⟩:=List.mem_map.1 hx
  have:=List.mem_range.1 hq
  simp only [decide_eq_true_eq]; omega
 have o2:outs (n+1) ((List.range n).map fun q=>(Lin.skip k q:Int))=false:=List.any_eq_false.2 fun x hx=>by
  obtain ⟨q,hq,rfl⟩:=List.mem_map.1 hx
  have:=List.mem_range.1 hq
  have:Lin.skip k q<n+1:=by unfold Lin.skip;split <;> omega
  simp only [decide_eq_true_eq]; omega
 rw [o1,o2] at h
 refine h.le ⟨A,?_,?_,Cg⟩ ?_
 ·exact cH (by simp) fun q hq=>by rw [lb (fun q=>((q+1:Nat):Int)) hq]
 ·exact cH (by simp) fun q hq=>by rw [lb (fun q=>(Lin.skip k q:Int)) hq]
 ·unfold xu
  simp only [Bool.or_self,Bool.not_false,if_true,List.length_map,List.length_range]
  exact yi (py fun i j hi hj=>by
   unfold q7
   rw [lb (fun q=>((q+1:Nat):Int)) hi,lb (fun q=>(Lin.skip k q:Int)) hj]; rfl)
theorem uu {n:Nat} : VT.le (slT .one (((n+1:Nat):Int) - 1).toNat (fun j=>one (.int .i64 ((Int.toNat 1+j:Nat):Int)))) (slT .one n (fun q=>one (.int .i64 ((q+1:Nat):Int)))):=cH X fun q hq=>by
 rw [show Int.toNat 1+q=q+1 by simp;omega]
theorem yj {n k:Nat} (hk:k≤n) {ψ:Nat→VT} : VT.le (slT .one (0+((k:Int) - 0).toNat+(((n+1:Nat):Int) - ((k+1:Nat):Int)).toNat) (fun q=>if q<0+((k:Int) - 0).toNat then (if q<0 then ψ q else one (.int .i64 ((Int.toNat 0+(q - 0):Nat):Int))) else one (.int .i64 (((((k+1:Nat):Int)).toNat+(q - (0+((k:Int) - 0).toNat)):Nat):Int))))
  (slT .one n (fun q=>one (.int .i64 (Lin.skip k q:Nat)))):=cH X fun q hq=>by
 unfold Lin.skip
 by_cases h:q<k
 ·rw [if_pos X,if_neg (Nat.not_lt_zero _),if_pos h,show Int.toNat 0+(q - 0)=q by simp]
 ·rw [if_neg X,if_neg h,show ((k+1:Nat):Int).toNat+(q - (0+((k:Int) - 0).toNat))=q+1 by omega]
attribute [local irreducible] J PJ aC one slT bL bE bw exT cj eP aT aH slV VT.le Ret bQ dz ed
attribute [local irreducible] aU
theorem oz (B:Nat) : ∀ (n:Nat) (F:Nat→Nat→Int),n≤8→(∀ i j,(F i j).natAbs≤B)→(∀ k,k≤n→dZ B k≤2^400)→B≤2^400→Ok Tryz.prog 68 [cr n n F] (aU (Lin.bY n F))
 | 0, F, hn, hF, hD, hB => by
  have h1:=fN 1 U U
  unfold cr
  refine Ok.enter Tryz.func68 Z Tryz.ntmps68 Z (fun w O => ?_)
  refine ae (ai ?_)
  refine bJ Z Z (ltN Z) (fun b1 => ?_)
  refine aN (T:=28) Z (ltN Z) (fun b2 => ?_)
  refine Cf (aa (ae (ae (ai (Cb (aj Z) (Cb (am 1 Z Z Z) (Cb (sT X (cQ Z Z)) (Cf (aa ?_)))))))))
  refine aM Z (ae (ai ?_))
  refine Cb (ao (h1) Z ⟨A,Cg⟩) ?_
  refine az 0 Z Z Z Z Z (leN Z) Z (Cf (aa (aG (aJ ?_))))
  refine aV Tryz.results68 (.cellB 0 Z Z Z A)
 | n + 1, F, hn, hF, hD, hB => by
  have h0:=fN 0 U U
  have ih:=fun k=>oz B n (fun i j=>F (i+1) (Lin.skip k j)) X (fun i j=>hF _ _) (fun k hk=>hD k X) hB
  have hm4 : ∀ {x:Int} {m:Nat},m≤n+1→x.natAbs≤dZ B m→gS x:=fun hm h=>Nat.le_trans h (hD _ hm)
  have hdet:Lin.bY (n+1) F=xpS n F (n+1):=rfl
  have hpk:=fun k (hk:k≤n)=>vN n k F X hk
  have hra:=vn (n+1) X
  rw [hdet]
  unfold cr ei at *
  refine Ok.enter Tryz.func68 Z Tryz.ntmps68 Z (fun w O => ?_)
  refine ae (ai ?_)
  refine bJ Z Z (ltN Z) (fun b1 => ?_)
  refine aN (T:=28) Z (ltN Z) (fun b2 => ?_)
  refine Cf (aa (ae (ae (ai (Cb (aj Z) (Cb (am 1 Z Z Z) (Cb (sF X (cQ Z Z)) (Cf (aa ?_)))))))))
  refine aD Z (ay (aa (ae ?_)))
  refine fX bH Y Y ?_
  refine uxk (h0) Z ⟨A,Cg⟩ Z ?_
  refine ux (fun B=>aj Z) Z Z ?_
  refine ux (fun B=>am 1 Z Z Z) Z Z ?_
  refine uxk (hra) Z ⟨A,Cg⟩ Z ?_
  refine ua Z (us Z ?_)
  refine ux (fun B=>ah Z) Z Z ?_
  refine RunU.nil (fun γ => ?_)
  refine er (M' := [_,_,_]) Z (aa (ae (ae (ai (Cd Z (Cf (aa (aw (cv (Γ' := [(1,_),(2,_),(3,_),(4,_),(5,_)]) BW (SubM.refl _) ?_)))))))))
  refine bO (σ:=Nat) (Γk := [(1,_),(2,_),(3,_),(4,_)]) BW (fun k => [(5,one (.int .i64 (k:Nat)))]) (fun k M0=>(M0.set 0 (aT (γ 3) 28 2 [(0, .agg 2,aU (xpS n F k))]))) (fun k=>k≤n+1) (fun k=>n+1 - k) (0) (Nat.zero_le _) BX (.keep Ca (.keep Ca (.keep Ca (.nil)))) (fun k hk => ?_)
  refine cg (Γ' := [(5,_),(1,_),(2,_),(3,_),(4,_)]) (M' := [_,_,_]) Z Z ?_
  by_cases hk:k<n+1
  ·have ihk:=ih k
   have hpk':=hpk k X
   clear ih hpk
   refine ae (ae (ai (Cc Z (Cb (aj Z) (Cb (am 2 Z Z Z) (Cb (sT X (bD Z Z)) (Cf (aa (aM Z ?_)))))))))
   refine ay (aa (ae (aw (ae (ai (oJ (n:=0) Z Z Z Z Z ?_))))))
   refine PartsK.nil (fun bl => ?_)
   refine Cc Z (Cc Z ?_)
   refine Cb (fT Z Z Z Z (fun _=>rfl) X X X X) ?_
   (refine dB 0 Z Z Z (leN Z) ?_ ?_ Z (ltN Z) (fun sv28 cap28 => ?_);omega;omega)
   refine Cd Z (Cf (aa (ae (ai (Cc Z (Cc Z (Cc Z (Cb (bU _ 1 Z Z X) ?_))))))))
   refine Cb (fT Z Z Z Z (fun h=>nomatch h) X X X X) ?_
   (refine dB 0 Z Z Z (leN Z) ?_ ?_ Z (ltN Z) (fun sv34 cap34 => ?_);omega;omega)
   refine Cd Z (Cf (aa (ae (vW (t:=6) (i:=0) Z Z (pV (t:=6) Z (yj X) ?_)))))
   have hsu:xpS n F (k+1)=xpS n F k+Lin.m3 k*F 0 k*Lin.bY n (fun i j=>F (i+1) (Lin.skip k j)):=rfl
   have hdb:=j8 (n:=n) (F:=fun i j=>F (i+1) (Lin.skip k j)) (fun i j=>hF _ _)
   have hF0:gS (F 0 k):=Nat.le_trans (hF 0 k) hB
   have hd4:gS (Lin.bY n (fun i j=>F (i+1) (Lin.skip k j))):=hm4 X hdb
   have hs4:gS (xpS n F k):=hm4 (Nat.le_refl _) (vM hF X)
   have hp:cf (F 0 k*Lin.bY n (fun i j=>F (i+1) (Lin.skip k j))):=gz (wJ hF0 hd4) V
   generalize Lin.bY n (fun i j=>F (i+1) (Lin.skip k j))=d at *
   have hmu:=g9 (F 0 k) d (cM hF0) (cM hd4)
   by_cases hod:k % 2=1
   ·have hsg:Lin.m3 k = -1:=by unfold Lin.m3;rw [if_neg X]
    have hsu':xpS n F (k+1)=xpS n F k + -(F 0 k*d):=by rw [hsu,hsg]; grind
    have hng:=qD (F 0 k*d) hp
    have had:=kI (xpS n F k) (-(F 0 k*d)) (cM hs4) (uT hp)
    refine fX bH Y Y ?_
    refine ux (fun B=>bI 2 Z Z) Z Z ?_
    refine ux (fun B=>ab Z) Z Z ?_
    refine ux (fun B=>fT Z Z Z Z (fun h=>nomatch h) X X X X) Z Z ?_
    refine ux (fun B=>ab Z) Z Z ?_
    refine uxk (hpk') Z ⟨A,(uu),A,Cg⟩ Z ?_
    refine ux (fun B=>ab Z) Z Z ?_
    refine ux (fun B=>aA Z Z) Z Z ?_
    refine ux (fun B=>aA Z Z) Z Z ?_
    refine ua Z (us Z ?_)
    refine ux (fun B=>ah Z) Z Z ?_
    refine RunU.nil (fun γ => ?_)
    refine er (M' := [_,_,_,_]) Z (oE (dO.refl _) (.keep qj (SubM.refl _)) (aa (ae ?_)))
    refine fX bH Y Y ?_
    refine ux (fun B=>aj Z) Z Z ?_
    refine ux (fun B=>am 3 Z Z Z) Z Z ?_
    refine ux (fun B=>ej Z Z X X) Z Z ?_
    refine ux (fun B=>aY Z) Z Z ?_
    refine ux (fun B=>ab Z) Z Z ?_
    refine ux (fun B=>aI Z Z X) Z Z ?_
    refine ux (fun B=>aY Z) Z Z ?_
    refine ux (fun B=>bI 0 Z Z) Z Z ?_
    refine uxk (ihk) Z ⟨A,Cg⟩ Z ?_
    refine uxk (hmu) Z ⟨A,A,Cg⟩ Z ?_
    refine ua Z (us Z ?_)
    refine RunU.nil (fun γ => ?_)
    refine er (M' := [_,_,_,_,_]) Z (aa (ae (ae (ai (Cc Z (Cb (eh 2 Z Z Z U) (Cb (sT X (cQ Z Z)) (Cf (aa ?_)))))))))
    refine aM Z (ai (Cb (am 0 Z Z Z) ?_))
    refine Cb (ao (hng) Z ⟨A,Cg⟩) ?_
    refine az 0 Z Z Z Z Z (leN Z) Z (Cf (aa (ai (Cb (am 2 Z Z Z) (Cb (am 0 Z Z Z) ?_)))))
    refine Cb (ao (had) Z ⟨A,A,Cg⟩) ?_
    refine az 2 Z Z Z Z Z (leN Z) Z (Cf (aK (aa (ai (Cc Z (Cb (bU _ 1 Z Z X) (Cd Z (Cf ?_))))))))
    refine aX (k+1) (hk) X BX (.drop (.drop (.keep (hsu'▸Own.le_refl _) (.keep Ca (.keep Ca (.nil))))))
   ·have hsg:Lin.m3 k=1:=by unfold Lin.m3;rw [if_pos X]
    have hsu':xpS n F (k+1)=xpS n F k+F 0 k*d:=by rw [hsu,hsg]; grind
    have had:=kI (xpS n F k) (F 0 k*d) (cM hs4) hp
    refine fX bH Y Y ?_
    refine ux (fun B=>bI 2 Z Z) Z Z ?_
    refine ux (fun B=>ab Z) Z Z ?_
    refine ux (fun B=>fT Z Z Z Z (fun h=>nomatch h) X X X X) Z Z ?_
    refine ux (fun B=>ab Z) Z Z ?_
    refine uxk (hpk') Z ⟨A,(uu),A,Cg⟩ Z ?_
    refine ux (fun B=>ab Z) Z Z ?_
    refine ux (fun B=>aA Z Z) Z Z ?_
    refine ux (fun B=>aA Z Z) Z Z ?_
    refine ua Z (us Z ?_)
    refine ux (fun B=>ah Z) Z Z ?_
    refine RunU.nil (fun γ => ?_)
    refine er (M' := [_,_,_,_]) Z (oE (dO.refl _) (.keep qj (SubM.refl _)) (aa (ae ?_)))
    refine fX bH Y Y ?_
    refine ux (fun B=>aj Z) Z Z ?_
    refine ux (fun B=>am 3 Z Z Z) Z Z ?_
    refine ux (fun B=>ej Z Z X X) Z Z ?_
    refine ux (fun B=>aY Z) Z Z ?_
    refine ux (fun B=>ab Z) Z Z ?_
    refine ux (fun B=>aI Z Z X) Z Z ?_
    refine ux (fun B=>aY Z) Z Z ?_
    refine ux (fun B=>bI 0 Z Z) Z Z ?_
    refine uxk (ihk) Z ⟨A,Cg⟩ Z ?_
    refine uxk (hmu) Z ⟨A,A,Cg⟩ Z ?_
    refine ua Z (us Z ?_)
    refine RunU.nil (fun γ => ?_)
    refine er (M' := [_,_,_,_,_]) Z (aa (ae (ae (ai (Cc Z (Cb (eh 2 Z Z Z U) (Cb (sF X (cQ Z Z)) (Cf (aa ?_)))))))))
    refine aD Z (ay (aa (ai (Cb (am 2 Z Z Z) (Cb (am 0 Z Z Z) ?_)))))
    refine Cb (ao (had) Z ⟨A,A,Cg⟩) ?_
    refine az 2 Z Z Z Z Z (leN Z) Z (Cf (aK (aa (ai (Cc Z (Cb (bU _ 1 Z Z X) (Cd Z (Cf ?_))))))))
    refine aX (k+1) (hk) X BX (.drop (.drop (.keep (hsu'▸Own.le_refl _) (.keep Ca (.keep Ca (.nil))))))
  ·have hke:k=n+1:=by omega
   subst hke
   refine ae (ae (ai (Cc Z (Cb (aj Z) (Cb (am 2 Z Z Z) (Cb (sF X (bD Z Z)) (Cf (aa (aD Z ?_)))))))))
   refine a8 (ax (ax (aL (aa (ae (ai (Cb (am 0 Z Z Z) (az 1 Z Z Z Z Z (leN Z) Z (Cf ?_)))))))))
   refine aa (aG ?_)
   refine aV Tryz.results68 (.cellB 1 Z Z Z A)
end Tor
end
section
namespace Tor
open Go Go.RowKit Go.Proofs
variable [Tor.Co.Kc]
instance {n:Nat} {f:Nat→Int} : Flat (ei n f) .one:=by unfold ei;infer_instance
attribute [local irreducible] J PJ aC one slT bL bE bw exT cj eP aT aH slV VT.le Ret bQ
attribute [local irreducible] aU cZ
theorem sZ (r c:Nat) (F:Nat→Nat→Int) (k:Int) (hr0:r≤1048576) (hc0:c≤1048576) (hF : ∀ i j,cf (F i j)) (hk:cf k):OkM Tryz.prog 42 [cr r c F,aU k] (kU r c) (fun s => [gT s.1.2.1 s.1.2.2 r c s.1.1,dQ c s.1.1 (fun i j=>F i j*k)]):=by
 unfold cr
 refine OkM.enter Tryz.func42 Z Tryz.ntmps42 Z (fun w O => ?_)
 refine ae (ai ?_)
 refine bJ Z Z (ltN Z) (fun b2 => ?_)
 refine jH Z Z (ltN Z) (fun b3 => ?_)
 refine bZ (T:=35) Z Z Z (fun b4 => ?_)
 refine Cf (aa (ae (ai (Cb (aj Z) (Cb (am 2 Z Z Z) (Cb (aj Z) (Cb (am 2 Z Z Z) ?_)))))))
 refine gM (kV _ _ (by assumption) (by assumption)) Z ⟨A,A,Cg⟩ Z Z (fun s12 => ?_)
 refine bZ (T:=35) Z Z Z (fun b5 => ?_)
 refine bX 0 Z Z Z Z (Cf (aa (ae (ae (ai (Cd Z (Cf (aa (aw ?_)))))))))
 obtain ⟨⟨bs,sv1,cap1⟩,hlen,hsv⟩:=s12
 simp only at hlen hsv
 unfold kU
 dsimp only
 refine cv (Γ' := [(2,_),(3,_),(4,_),(5,_),(6,_)]) BW (SubM.refl _) ?_
 refine bO (σ:=Nat) (Γk := [(2,_),(3,_),(4,_),(5,_)]) BW (fun i => [(6,one (.int .i64 (i:Nat)))]) (fun i M0=>(M0.set 2 (dQ c bs (gF (fun i j=>F i j*k) i 0)))) (fun i=>i≤r) (fun i=>r - i) (0) (Nat.zero_le _) BX (.keep Ca (.keep Ca (.keep (ez fun i j hi hj=>by simp [gF]) (.keep Ca (.keep Ca (.keep Ca (.nil))))))) (fun i hi => ?_)
 refine cg (Γ' := [(6,_),(2,_),(3,_),(4,_),(5,_)]) (M' := [_,_,_,_,_,_]) Z Z (ae (ae (ai (Cc Z (Cb (aj Z) (Cb (am 5 Z Z Z) (Cb (bD Z Z) (Cf (aa ?_)))))))))
 refine ku Z (fun hc => ?_) (fun hc => ?_)
 ·obtain ⟨bo,rfl⟩:=fA hsv X
  refine ay (aa (ae (aw (ae (ai (Cd Z (Cf (aa (aw ?_)))))))))
  refine cv (Γ' := [(2,_),(3,_),(4,_),(5,_),(6,_),(7,_)]) BW (SubM.refl _) ?_
  refine bO (σ:=Nat) (Γk := [(2,_),(3,_),(4,_),(5,_),(6,_)]) BW (fun j => [(7,one (.int .i64 (j:Nat)))]) (fun j M0=>(M0.set 2 (dQ c bs (gF (fun i j=>F i j*k) i j)))) (fun j=>j≤c) (fun j=>c - j) (0) (Nat.zero_le _) BX (.keep Ca (.keep Ca (.keep Ca (.keep Ca (.keep Ca (.keep Ca (.nil))))))) (fun j hj => ?_)
  refine cg (Γ' := [(7,_),(2,_),(3,_),(4,_),(5,_),(6,_)]) (M' := [_,_,_,_,_,_]) Z Z (ae (ae (ai (Cc Z (Cb (aj Z) (Cb (am 5 Z Z Z) (Cb (bD Z Z) (Cf (aa ?_)))))))))
  refine ku Z (fun hc2 => ?_) (fun hc2 => ?_)
  ·refine ay (aa (ae (aw (bG 16 bH Y U (Cb (aj Z) (Cb (am 0 Z Z Z) (Cc Z ?_)))))))
   (refine Cb (ar Z Z ?_) ?_;omega)
   (refine Cb (bM 1 Z Z ?_) ?_;omega)
   refine Cc Z (Cb (aj Z) (Cb (am 5 Z Z Z) (Cc Z ?_)))
   (refine Cb (aI Z Z ?_) ?_;omega)
   refine Cb (aY Z) (Cc Z ?_)
   (refine Cb (aI Z Z ?_) ?_;omega)
   refine Cb (aY Z) (Cb (am 4 Z Z Z) ?_)
   refine Cb (ao (g9 _ _ (hF _ _) (by assumption)) Z ⟨A,A,Cg⟩) ?_
   refine Cf ?_
   (refine Cb (ar Z Z ?_) ?_;omega)
   (refine fD 2 Z Z Z (m7 ?_) ?_ Z ?_;omega;omega)
   refine Cf (aK (aa (ai (Cc Z (Cb (bU _ 1 Z Z X) (Cd Z (Cf ?_)))))))
   refine aX (j+1) X X BX (.keep Ca (.keep Ca (.keep (od _ Z) (.keep Ca (.keep Ca (.keep Ca (.nil)))))))
  ·have hjm:j=c:=by omega
   subst hjm
   refine a8 (ax (ax (aL (aK (aa (ai (Cc Z (Cb (bU _ 1 Z Z X) (Cd Z ?_)))))))))
   refine Cf ?_
   refine aX (i+1) X X BX (.keep Ca (.keep Ca (.keep (m9) (.keep Ca (.keep Ca (.keep Ca (.nil)))))))
 ·have hin:i=r:=by omega
  subst hin
  refine a8 (ax (ax (aL (aa (ae (ai (Cb (bI 0 Z Z) (bX 3 Z Z Z Z (Cf ?_)))))))))
  refine aa (aG ?_)
  exact mz ⟨(bs,sv1,cap1),hlen,hsv⟩ Tryz.results42 (.cellW 3 Z Z A) (.drop (.keep Ca (.keep (ez fun a b ha hb=>by simp [gF]; omega) (SubM.nilR _))))
theorem lU (r c:Nat) (F:Nat→Nat→Int) (hr0:r≤1048576) (hc0:c≤1048576) (hF : ∀ i j,cf (F i j)):OkM Tryz.prog 14 [cr r c F] (kU r c) (fun s => [gT s.1.2.1 s.1.2.2 r c s.1.1,dQ c s.1.1 (fun i j=>F i j*1)]):=by
 have hs:=sZ r c F 1 hr0 hc0 hF nX
 unfold cr at hs ⊢
 refine OkM.enter Tryz.func14 Z Tryz.ntmps14 Z (fun w O => ?_)
 refine ae (ai ?_)
 refine bJ Z Z (ltN Z) (fun b1 => ?_)
 refine bZ (T:=35) Z Z Z (fun b2 => ?_)
 refine Cf (aa (ae (bG 2 bH Y U (Cb (bI 1 Z Z) ?_))))
 refine Cb (ao (fN _ X X) Z ⟨A,Cg⟩) ?_
 refine Cf ?_
 refine gM (hs) Z ⟨A,A,Cg⟩ Z Z (fun s5 => ?_)
 refine bX 2 Z Z Z Z (Cf (aa (aG ?_)))
 exact mz s5 Tryz.results14 (.cellW 2 Z Z A) (.keep Ca (.keep Ca (SubM.nilR _)))
end Tor
end
section
namespace Tor
open Go Go.RowKit Go.Proofs
theorem uv (l:List Int) (n:Nat):(dig l n).natAbs≤9:=by
 unfold dig;rw [Int.natAbs_tmod]
 show (l.getD n 0).natAbs % 10≤9
 omega
def Sz (m K:Nat):Prop:=m≤12∧(m*(K*K)+1)^m<2^598∧K≤2^400
theorem Sz.pow {m K n:Nat} (h:Sz m K) (hn:n≤m):(m*(K*K)+1)^n<2^598:=Nat.lt_of_le_of_lt (Nat.pow_le_pow_right X hn) h.2.1
theorem Sz.len {m K n:Nat} (hn:n≤m) {f:Nat→Int} (hf : ∀ k,(f k).natAbs≤K):eH n f≤m*(K*K)+1:=Nat.le_succ_of_le (Nat.le_trans (xE hf) (Nat.mul_le_mul_right _ hn))
theorem Sz.detG {m K n:Nat} (h:Sz m K) (hn:n≤m) {F:Nat→Nat→Int} (hF : ∀ i j,(F i j).natAbs≤K):DetG n F (m*(K*K)+1) :=
 ⟨Nat.le_trans hn h.1,fun i j=>Nat.le_trans (hF i j) h.2.2,by omega,h.pow hn,fun i _=>Sz.len hn (hF i)⟩
theorem Sz.det {m K n:Nat} (h:Sz m K) (hn:n≤m) {F:Nat→Nat→Int} (hF : ∀ i j,(F i j).natAbs≤K):(Lin.bY n F).natAbs<2^300 :=
 Nat.lt_of_le_of_lt (uf n F) (ox (Nat.lt_of_le_of_lt (pA (fun i _=>Sz.len hn (hF i)) n (Nat.le_refl n)) (h.pow hn)))
theorem Sz.m4 {m K n:Nat} (h:Sz m K) (hn:n≤m) {F:Nat→Nat→Int} (hF : ∀ i j,(F i j).natAbs≤K):gS (Lin.bY n F):=Nat.le_of_lt (Nat.lt_trans (h.det hn hF) V)
theorem Sz.small {m K n:Nat} (h:Sz m K) (hn:n≤m) {F:Nat→Nat→Int} (hF : ∀ i j,(F i j).natAbs≤K):cf (Lin.bY n F):=cM (h.m4 hn hF)
theorem lc {m K n:Nat} (h:Sz m K) (hn:n≤m) (F:Nat→Nat→Int) (hF : ∀ i j,(F i j).natAbs≤K):Ok Tryz.prog 17 [cr n n F] (bw [aU (Lin.bY n F),one (.bool true)]):=vL n F _ (h.detG hn hF) (h.small hn hF)
theorem iE (x:Int):Ok Tryz.prog 18 [aU x,aU x] (one (.bool true)):=by
 have h:=kH x x
 rw [decide_eq_true Z] at h;exact h
attribute [local irreducible] J PJ aC one slT bL bE bw exT cj eP aT aH slV VT.le Ret bQ dz ed
attribute [local irreducible] aU ei
theorem nq (r c:Nat) (l:List Int):Ok Tryz.prog 13 [gU r c l] (cr (r % 5) (r % 5) (fun i j=>dig l (i*(r % 5)+j))):=by
 have h:=sq (r % 5) (r % 5) l X X
 have h5:=BB r
 have hr:r % 5<5:=Nat.mod_lt _ U
 unfold gU cr at *
 refine Ok.enter Tryz.func13 Z Tryz.ntmps13 Z (fun w O => ?_)
 refine ae (ai ?_)
 refine bJ Z Z (ltN Z) (fun b1 => ?_)
 refine bZ (T:=35) Z Z Z (fun b2 => ?_)
 refine Cf (aa (ae (ai (Cb (aj Z) (Cb (am 1 Z Z Z) (Cb (eh 5 Z Z Z U) (Cb (dc Z X X) (Cb (aj Z) (Cb (am 1 Z Z Z) ?_)))))))))
 refine Cb (eh 5 Z Z Z U) (Cb (dc Z X X) (Cb (aj Z) (Cb (am 1 Z Z Z) ?_)))
 refine Cb (ao (h) Z ⟨A,A,A,Cg⟩) ?_
 refine bX 0 Z Z Z Z (Cf (aa (aG ?_)))
 refine aV Tryz.results13 (.cellW 0 Z Z A)
end Tor
end
section
namespace Tor
open Go Go.RowKit
variable [Tor.Co.Kc]
section
variable {P:Program} {E:Env} {ops:Array Oper} {σ:Type}
def MkO (P:Program) (E:Env) (Γ:Ctx) (M:Mem) (o:Oper) (ψ:σ→VT) (Ms:σ→Mem):Prop :=
 ∀ (a:Act) (w:World),Base E M w→(∀ x φ,x∈o.op.operands→aB Γ x=some φ→φ.p (a.eval x) (hv E M w)) →
  ∀ (next:Act→World→Prop),
   (∀ s v w',Ext w w'→(∀ q∈Ms s,q.p (raw w') (hid ((E.O ++ aS M) ++ aS (Ms s)) (view w')))→(aS (Ms s)).Nodup→(∀ b∈aS (Ms s),w.heap.size≤b∧b<w'.heap.size) →
    (ψ s).p v (hid ((E.O ++ aS M) ++ aS (Ms s)) (view w'))→next (a.put o.dst v) w')→Co.opX P o a w next
theorem pO {Γ:Ctx} {M:Mem} {f:FuncId} [hF:Fn P f] {xs:Array Operand} {ats:Array TypeId} {φs φs':List VT} {ψ:σ→VT} {Ms:σ→Mem} {d:Option Tmp} {ty:TypeId} {pos:String} {af:Array Edge} {gd:Option (Nat × Bool)} (h:OkM P f φs' ψ Ms) (hx:fB Γ xs.toList=some φs) (hle:gK φs φs') :
  MkO P E Γ M ⟨d, .call ⟨.value (.func f),xs,ats⟩,ty,pos,af,gd⟩ ψ Ms:=by
 intro a w hb hf next hn
 have hp:=fv (a:=a) (h:=hv E M w) hx (fun x φ hx' he=>hf x φ (by simp [Op.operands,Call.operands]; exact .inr (by simpa using hx')) he)
 have hcall:=h w _ _ hb.ex (fU hle hp)
 refine ⟨fun _=>hF.plain _,?_⟩
 have hr:(execOp a.eval ⟨d, .call ⟨.value (.func f),xs,ats⟩,ty,pos,af,gd⟩).run P w = .ok (.enter f (xs.toList.map a.eval).toArray) w:=by
  have h0:a.eval (.func f) = .func (.func f) #[] #[]:=rfl
  have h9:(xs.map a.eval)=(xs.toList.map a.eval).toArray:=by simp [← Array.toList_map]
  simp [execOp,resolve,Deferred.ofValue,invoke,h0,hF.run,h9]
 rw [hr]
 refine ig hcall ?_
 rintro e w' ⟨s,v,rfl,hv',hext,hmem,hnd,hbl⟩
 exact ⟨v,rfl,hn s v w' hext hmem hnd (fun b h=>⟨(hbl b h).1,(hbl b h).2.1⟩) hv'⟩
theorem lI {Γ:Ctx} {M:Mem} {T:TypeId} {m:Nat} {z:Array Value} {pl:List (Nat × Lay)} [hB:BuildOf P T m z pl] {ψ:σ→VT} {Ms:σ→Mem} {d:Option Tmp} {ty:TypeId} {pos:String} {af:Array Edge} {gd:Option (Nat × Bool)} (g:Nat→σ)
  (h1 : ∀ b, ψ (g b)=one (.pointer (some ⟨b,0,none⟩))) (h2 : ∀ b,Ms (g b) = [aT b T m (dJ z pl)]) (hz:(pl.all fun q=>(bP q.2 z q.1).isSome)=true) :
  MkO P E Γ M ⟨d, .alloc T,ty,pos,af,gd⟩ ψ Ms:=by
 intro a w hb hf next hn
 have hz0:=hB.zero w
 refine ⟨fun h=>(by cases h),?_⟩
 have hr:(execOp a.eval ⟨d, .alloc T,ty,pos,af,gd⟩).run P w = .ok (.value (.pointer (some ⟨w.heap.size,0,none⟩))) (w.alloc (.cells z T)):=by
  simp [execOp,Instr.alloc,Sem.run_bind,hz0,newVar,newRow,newObj,Sem.run,Value.cells]
 rw [hr]
 refine hn (g w.heap.size) _ _ (Ext.alloc w _) ?_ ?_ ?_ ?_
 ·rw [h2]; intro q hq
  cases List.mem_singleton.1 hq
  exact ⟨z,ci w _ _ _,hB.zs,hB.zo,ki hz⟩
 ·rw [h2]; simp [aS,aT]
 ·rw [h2]; intro b hb'
  simp [aS,aT] at hb'
  subst hb'
  exact ⟨Nat.le_refl _,d9 (ci w _ _ _)⟩
 ·rw [h1]; rfl
inductive OpW (P:Program) (E:Env) (M:Mem) (ops:Array Oper) (mk:List Nat) (ψm:Nat→σ→VT) (Ms:Nat→σ→Mem) (i:Nat) (Γ:(Nat→σ)→Ctx) (o:Oper):((Nat→σ)→Ctx)→Prop
 | pure {d : Nat} {ψ : (Nat → σ) → VT} (ds : List Nat) : mk.elem i = false → (ds.all fun j => iG 6 ops j i) = true → (∀ s s', (∀ j ∈ ds, s j = s' j) → ψ s = ψ s') → (∀ s B, StepG P (E.hide B) (Γ s) M ops o ((d, ψ s) :: Γ s)) → OpW P E M ops mk ψm Ms i Γ o (fun s => (d, ψ s) :: Γ s)
 | make {d : Nat} : mk.elem i = true → o.dst = some d → d < E.N → o.guard = none → (∀ s B, MkO P (E.hide B) (Γ s) M o (ψm i) (Ms i)) → OpW P E M ops mk ψm Ms i Γ o (fun s => (d, ψm i (s i)) :: Γ s)
inductive RunW (P:Program) (E:Env) (M:Mem) (ops:Array Oper) (mk:List Nat) (ψm:Nat→σ→VT) (Ms:Nat→σ→Mem):Nat→((Nat→σ)→Ctx)→List Oper→(((Nat→σ)→Ctx)→Prop)→Prop
 | nil {i Γ K} : K Γ → RunW P E M ops mk ψm Ms i Γ [] K
 | step {i Γ o os K Γ'} : OpW P E M ops mk ψm Ms i Γ o Γ' → RunW P E M ops mk ψm Ms (i + 1) Γ' os K → RunW P E M ops mk ψm Ms i Γ (o :: os) K
theorem RunW.chain {M:Mem} {mk:List Nat} {ψm:Nat→σ→VT} {Ms:Nat→σ→Mem} {i:Nat} {Γ:(Nat→σ)→Ctx} {os:List Oper} {K:((Nat→σ)→Ctx)→Prop} (h:RunW P E M ops mk ψm Ms i Γ os K) :
  ∃ (G:Nat→(Nat→σ)→Ctx),G i=Γ∧K (G (i+os.length)) ∧ ∀ j o,os[j]? = some o→OpW P E M ops mk ψm Ms (i+j) (G (i+j)) o (G (i+j+1)):=by
 induction h with
 | @nil i Γ K hK => exact ⟨fun _ => Γ, rfl, hK, fun j o h => by simp at h⟩
 | @step i Γ o os K Γ' hs _ ih =>
  obtain ⟨G,h0,hK,hG⟩:=ih
  refine ⟨fun j=>if j=i then Γ else G j,by simp,?_,fun j o' hj => ?_⟩
  ·have e1:i+(o :: os).length=i+1+os.length:=by simp only [List.length_cons]; omega
   have e2 : ¬ (i+(o :: os).length=i):=by simp only [List.length_cons]; omega
   simp only [if_neg e2,e1]; rw [e1] at e2;simp only [if_neg e2]; exact hK
  ·cases j with
   | zero =>
    simp only [List.getElem?_cons_zero,Option.some.injEq] at hj;subst hj
    have e : ¬ (i+0+1=i):=by omega
    simp only [Nat.add_zero,if_true] at e ⊢; rw [if_neg e,h0]; exact hs
   | succ j =>
    simp only [List.getElem?_cons_succ] at hj
    have:=hG j o' hj
    have e1 : ¬ (i+(j+1)=i):=by omega
    have e2 : ¬ (i+(j+1)+1=i):=by omega
    simp only [if_neg e1,if_neg e2]
    rw [show i+(j+1)=i+1+j by omega]; exact this
theorem OpW.dst {M:Mem} {mk:List Nat} {ψm:Nat→σ→VT} {Ms:Nat→σ→Mem} {i:Nat} {Γ Γ':(Nat→σ)→Ctx} {o:Oper} (h:OpW P E M ops mk ψm Ms i Γ o Γ') (s0:Nat→σ) : ∃ (d:Nat) (ψ:(Nat→σ)→VT),o.dst=some d∧d<E.N ∧ ∀ s, Γ' s=(d, ψ s) :: Γ s:=by
 cases h with
 | @pure d ψ ds _ _ _ hs =>
  obtain ⟨d', ψ',h1,h2,h3⟩:=(hs s0 []).dst'
  simp only [List.cons.injEq,Prod.mk.injEq,and_true] at h3
  exact ⟨d, ψ,by rw [h1,h3.1],by rw [h3.1]; exact h2,fun s=>rfl⟩
 | @make d _ h1 h2 _ _ => exact ⟨d, fun s => ψm i (s i), h1, h2, fun s => rfl⟩
section
variable {M:Mem} {mk:List Nat} {ψm:Nat→σ→VT} {Ms:Nat→σ→Mem} {G:Nat→(Nat→σ)→Ctx} {n:Nat}
theorem tb (hG : ∀ j o,j<n→ops[j]? = some o→OpW P E M ops mk ψm Ms j (G j) o (G (j+1))) (s:Nat→σ) {t j:Nat} {o:Oper} (hj:j<n) (ho:ops[j]? = some o) (hno:dstOf ops j≠some t):bt (G (j+1) s) t=bt (G j s) t:=by
 obtain ⟨d, ψ,hd,_,hΓ⟩:=(hG j o hj ho).dst s
 rw [hΓ,aW,if_neg]
 intro e;subst e;exact hno (by simp [dstOf,ho,hd])
theorem gV (hG : ∀ j o,j<n→ops[j]? = some o→OpW P E M ops mk ψm Ms j (G j) o (G (j+1))) (hn:n≤ops.size) (s:Nat→σ) {t i k:Nat} (hik:i≤k) (hk:k≤n)
    (hno : ∀ j,i≤j→j<k→dstOf ops j≠some t):bt (G k s) t=bt (G i s) t:=by
  induction k with
  | zero => have : i = 0 := by omega
            subst this;rfl
  | succ k ih =>
    by_cases e:i=k+1
    · subst e;rfl
    · have ho:ops[k]? = some ops[k]:=by simp [show k<ops.size by omega]
      rw [tb hG s X ho (hno k X X)]
      exact ih X X (fun j h1 h2=>hno j h1 X)
theorem yk (hG : ∀ j o,j<n→ops[j]? = some o→OpW P E M ops mk ψm Ms j (G j) o (G (j+1))) (hn:n≤ops.size) {s s':Nat→σ} (h0:G 0 s=G 0 s') {l:Array Bool} (hl:Lst ops l) (hs : ∀ j,l.getD j false=true→s j=s' j) :
  ∀ k,k≤n → ∀ t,(∀ j,j<k→dstOf ops j=some t→l.getD j false=true)→bt (G k s) t=bt (G k s') t
 | 0, _, t, _ => by rw [h0]
 | k + 1, hk, t, hw => by
  have ho:ops[k]? = some ops[k]:=by simp [show k<ops.size by omega]
  have ih:=yk hG hn h0 hl hs k X t (fun j hj=>hw j X)
  have hop:=hG k _ X ho
  obtain ⟨d, ψ,hd,_,hΓ⟩:=hop.dst s
  have hdk:dstOf ops k=some d:=by simp [dstOf,ho,hd]
  rw [hΓ s,hΓ s',aW,aW]
  by_cases e:d=t
  ·rw [if_pos e,if_pos e]
   have hlk:=hw k X (by rw [hdk,e])
   generalize hX:G (k+1)=BR at hop hΓ
   generalize hY:G k=BS at hop hΓ
   cases hop with
   | @pure d' ψ' ds hb hp hψ hst =>
    have e1:=hΓ s
    have e2:=hΓ s'
    simp only [List.cons.injEq,Prod.mk.injEq,and_true] at e1 e2
    rw [← e1.2, ← e2.2,hψ s s' (fun j hj=>hs j (lh hl 6 k hlk j (by have:=List.all_eq_true.1 hp j hj;exact this)))]
   | make hb h1 h2 h3 h4 =>
    have e1:=hΓ s
    have e2:=hΓ s'
    simp only [List.cons.injEq,Prod.mk.injEq,and_true] at e1 e2
    rw [← e1.2, ← e2.2,hs k hlk]
  ·rw [if_neg e,if_neg e]; exact ih
end
theorem rE {fq n:Nat} {E':Env} {G G':Nat→Ctx} {M:Mem} {l:Array Bool} {a:Act} {w w':World} {i d:Nat} {v:Value} (hok:eg fq n ops=true) (hl:Lst ops l) (hd:d<a.tmps.size) (hi1:i<ops.size) (hi2:l.getD i false=false) (hdi:dstOf ops i=some d)
  (hbt : ∀ k t,i+1≤k→k≤n→(∀ j,i+1≤j→j<k→dstOf ops j≠some t)→bt (G' k) t=bt (G' (i+1)) t) (hself : ∀ φ,bt (G' (i+1)) d=some φ→φ.p v (hv E' M w'))
  (hag : ∀ k,k≤n → ∀ t,(∀ j,j<k→dstOf ops j=some t→l.getD j false=true)→bt (G' k) t=bt (G k) t) (hle:Hp.le (hv E M w) (hv E' M w')) (hI:Inv E ops n G M l a w) :
  Inv E' ops n G' M (l.setIfInBounds i true) (a.put (some d) v) w':=by
 have hn:n≤ops.size:=by simp only [eg,Bool.and_eq_true] at hok;exact of_decide_eq_true hok.1
 have hls:=hl.size
 have hsame : ∀ j,j≠i→(l.setIfInBounds i true).getD j false=l.getD j false:=fun j hj=>by rw [aZ X,if_neg (fun e=>hj e.symm)]
 have hself':(l.setIfInBounds i true).getD i false=true:=by rw [aZ X,if_pos Z]
 intro k' hk' t φ hlk hlo hhi
 by_cases htd:d=t
 ·subst htd
  have hik:i<k':=by
   rcases Nat.lt_or_ge i k' with h' | h'
   ·exact h'
   ·have:=hhi i h' hi1 hdi;rw [hself'] at this;cases this
  have hno : ∀ j,i+1≤j→j<k'→dstOf ops j≠some d:=by
   intro j h1 h2 hdj
   have h3:=hlo j h2 hdj
   rw [hsame j X] at h3
   rcases cV hok (i:=i) (j:=j) X X with hp | ⟨_,hp⟩
   ·have:=lh hl _ j h3 i hp;rw [this] at hi2;cases hi2
   ·rw [eL hdi hdj] at hp;cases hp
  rw [hbt k' d X hk' hno] at hlk
  rw [be hd]; exact hself φ hlk
 ·rw [aP htd]
  have hlo' : ∀ j,j<k'→dstOf ops j=some t→l.getD j false=true:=fun j hj hdj=>by
   have hji:j≠i:=fun e=>by subst e;rw [hdi] at hdj;cases hdj;exact htd Z
   have:=hlo j hj hdj;rwa [hsame j hji] at this
  rw [hag k' hk' t hlo'] at hlk
  refine φ.mono hle (hI k' hk' t φ hlk hlo' (fun j hj hjs hdj => ?_))
  have hji:j≠i:=fun e=>by subst e;rw [hdi] at hdj;cases hdj;exact htd Z
  have:=hhi j hj hjs hdj;rwa [hsame j hji] at this
theorem tc {fq n:Nat} {G:Nat→Ctx} {M:Mem} {l:Array Bool} {a:Act} {w:World} (hI:Inv E ops n G M l a w) (hok:eg fq n ops=true) (hl:Lst ops l)
  {i:Nat} {o:Oper} (hin:i<n) (ho:ops[i]? = some o) (hi2:l.getD i false=false) (hi:i∈Region.ready .any ops l) :
  ∀ t φ,t∈iN ops o→bt (G i) t=some φ→φ.p (a.tmps.getD t undef) (hv E M w):=by
 have hi1:=cy hi
 intro t φ ht hlk
 refine hI i X t φ hlk (fun j hj hdj => ?_) (fun j hj hjs hdj => ?_)
 ·rcases cV hok hj hi1 with hp | ⟨_,hp⟩
  ·exact p6 hl hi hp
  ·rw [dY hdj (by simpa [cR,ho] using ht)] at hp;cases hp
 ·rcases Nat.lt_or_ge i j with h' | h'
  ·rw [← Bool.not_eq_true]; intro hlj
   rcases cV hok h' hjs with hp | ⟨_,hp⟩
   ·have:=lh hl _ j hlj i hp;rw [this] at hi2;cases hi2
   ·rw [dF hdj (by simpa [cR,ho] using ht)] at hp;cases hp
  ·have:j=i:=by omega
   subst this;exact hi2
theorem te {fq n:Nat} (hok:eg fq n ops=true) {Q:Act→World→Prop} (Iv:Array Bool→Act→World→Prop)
  (hstep : ∀ l a w i,Iv l a w→Lst ops l→i<n→l.getD i false=false→i∈Region.ready .any ops l→Co.wpOpX P ops i (fun a' w'=>Iv (l.setIfInBounds i true) a' w') a w)
  (htail : ∀ l a w,Iv l a w→Lst ops l→(∀ j,j<ops.size→(l.getD j false=true↔j<n))→Co.wpOpsX P ops Q (List.range' n (ops.size - n)) a w)
  (hgrow : ∀ l a w w₁,Iv l a w→Ext w w₁→Iv l a w₁) :
  ∀ (fuel:Nat) (l:Array Bool) (a:Act) (w:World),Lst ops l→left ops l≤fuel→Iv l a w→(∃ i,i<n∧l.getD i false=false)→Co.wpAnyX P .any ops Q fuel l a w:=by
 have hn:n≤ops.size:=by simp only [eg,Bool.and_eq_true] at hok;exact of_decide_eq_true hok.1
 have tail : ∀ (m:Nat) (fuel:Nat) (l:Array Bool) (k:Nat) (a:Act) (w:World),k+m=ops.size→n≤k→Lst ops l→(∀ j,j<ops.size→(l.getD j false=true↔j<k))→m≤fuel →
   Co.wpOpsX P ops Q (List.range' k m) a w→Co.wpAnyX P .any ops Q fuel l a w:=by
  intro m
  induction m with
  | zero =>
   intro fuel l k a w hkm hnk hl hiff _ h
   have hr:Region.ready .any ops l = []:=by
    rw [List.eq_nil_iff_forall_not_mem]
    intro j hj
    have h1:=cy hj
    have h2:=(mem_ready.1 hj).1
    have h3:=(hiff j h1).2 X
    rw [c5 (by have:=hl.size;omega) true false,h3] at h2;cases h2
   have hq:Q a w:=by simpa [Co.wpOpsX] using h
   cases fuel with
   | zero => exact ⟨hr, hq⟩
   | succ f => exact ⟨fun _ => hq, fun i hi => by rw [hr] at hi; cases hi⟩
  | succ m ih =>
   intro fuel l k a w hkm hnk hl hiff hf h
   obtain ⟨f,rfl⟩ : ∃ f,fuel=f+1:=⟨fuel - 1,by omega⟩
   have hsz:=hl.size
   have hkl:l.getD k false=false:=by
    rw [← Bool.not_eq_true]; intro h';have:=(hiff k X).1 h';omega
   refine ⟨fun hr => ?_,fun i hi w₁ hw₁ => ?_⟩
   ·obtain ⟨i,hi⟩:=jo hok hsz (j:=k) X hkl
    rw [hr] at hi;cases hi
   ·have hi1:=cy hi
    have hi2:=(mem_ready.1 hi).1
    rw [c5 X true false] at hi2
    have hik:k≤i:=by
     rcases Nat.lt_or_ge i k with h' | h'
     ·rw [(hiff i hi1).2 h'] at hi2;cases hi2
     ·exact h'
    have:i=k:=by
     rcases Nat.lt_or_ge k i with h' | h'
     ·rcases cV hok h' hi1 with hp | ⟨hp,_⟩
      ·have:=p6 hl hi hp;rw [this] at hkl;cases hkl
      ·omega
     ·omega
    subst this
    rw [List.range'_succ] at h
    refine Co.wpOpX_mono (fun a' w' h' => ?_) (h w₁ hw₁)
    refine ih f _ (i+1) a' w' X X ⟨by simpa using hsz,?_⟩ ?_ X h'
    ·intro j hj i' hp
     rw [aZ X] at hj ⊢
     split
     ·rfl
     ·split at hj
      ·rename_i h1;subst h1;exact bS hi hp
      ·exact hl.closed j hj i' hp
    ·intro j hj
     rw [aZ X]
     split
     ·rename_i h1;subst h1;simp
     ·rename_i h1;rw [hiff j hj]; omega
 intro fuel
 induction fuel with
 | zero =>
  intro l a w hl hleft _ ⟨i,hi,hil⟩
  have:=dj (ops:=ops) hl.size (i:=i) X hil
  omega
 | succ fuel ih =>
  intro l a w hl hleft hI ⟨i0,hi0,hil0⟩
  have hls:=hl.size
  refine ⟨fun hr => ?_,fun i hi w₁ hw₁ => ?_⟩
  ·obtain ⟨i,hi⟩:=jo hok hls (j:=i0) X hil0
   rw [hr] at hi;cases hi
  ·have hi1:=cy hi
   have hi2:l.getD i false=false:=by
    have:=(mem_ready.1 hi).1
    rw [c5 X true false] at this;exact this
   have hin:i<n:=by
    rcases Nat.lt_or_ge i n with h' | h'
    ·exact h'
    ·rcases cV hok (i:=i0) (j:=i) X hi1 with hp | ⟨hp,_⟩
     ·have:=p6 hl hi hp;rw [this] at hil0;cases hil0
     ·omega
   refine Co.wpOpX_mono (fun a' w' h' => ?_) (hstep l a w₁ i (hgrow l a w w₁ hI hw₁) hl hin hi2 hi)
   have hl':Lst ops (l.setIfInBounds i true):=by
    refine ⟨by simpa using hls,fun j hj i' hp => ?_⟩
    rw [aZ X] at hj ⊢
    split
    ·rfl
    ·split at hj
     ·rename_i h1;subst h1;exact bS hi hp
     ·exact hl.closed j hj i' hp
   have hleft':=dj (ops:=ops) hls hi1 hi2
   by_cases hmore : ∃ i',i'<n∧(l.setIfInBounds i true).getD i' false=false
   ·exact ih _ _ _ hl' X h' hmore
   ·have hall : ∀ j,j<n→(l.setIfInBounds i true).getD j false=true:=by
     intro j hj;rw [← Bool.not_eq_false]; intro h;exact hmore ⟨j,hj,h⟩
    have hlate : ∀ j,n≤j→j<ops.size→(l.setIfInBounds i true).getD j false=false:=by
     intro j hj hjs
     rw [aZ X,if_neg X, ← Bool.not_eq_true]
     intro hlj
     rcases cV hok (i:=i) (j:=j) X hjs with hp | ⟨hp,_⟩
     ·have:=lh hl _ j hlj i hp;rw [this] at hi2;cases hi2
     ·omega
    have hiff : ∀ j,j<ops.size→((l.setIfInBounds i true).getD j false=true↔j<n):=fun j hj=>by
     constructor
     ·intro h;rcases Nat.lt_or_ge j n with h' | h'
      ·exact h'
      ·rw [hlate j h' hj] at h;cases h
     ·exact hall j
    refine tail (ops.size - n) fuel _ n _ w' X (Nat.le_refl _) hl' hiff ?_ (htail _ _ _ h' hl' hiff)
    have:ops.size - n≤left ops (l.setIfInBounds i true):=by
     unfold left
     have h1:(List.range' n (ops.size - n)).Sublist ((List.range ops.size).filter fun i' => !(l.setIfInBounds i true).getD i' false):=by
      have h2:((List.range' n (ops.size - n)).filter fun i' => !(l.setIfInBounds i true).getD i' false)=List.range' n (ops.size - n):=by
       rw [List.filter_eq_self]
       intro j hj;rw [List.mem_range'_1] at hj
       rw [hlate j X X]; rfl
      rw [← h2]
      refine List.Sublist.filter _ ?_
      have h3:List.range ops.size=List.range' 0 n ++ List.range' n (ops.size - n):=by
       have := @List.range'_append 0 n (ops.size - n) 1
       rw [List.range_eq_range']
       simp only [Nat.one_mul,Nat.zero_add] at this
       rw [this]; congr 1;omega
      rw [h3]; exact List.sublist_append_right _ _
     have:=h1.length_le;simpa using this
    omega
def gI (Ms:Nat→σ→Mem) (s:Nat→σ) (ord:List Nat):Mem:=ord.flatMap fun j=>Ms j (s j)
theorem lJ {Ms:Nat→σ→Mem} {s:Nat→σ} {j:Nat} {ord:List Nat} : gI Ms s (j :: ord)=Ms j (s j) ++ gI Ms s ord:=rfl
theorem ns {Ms:Nat→σ→Mem} {s s':Nat→σ} : ∀ {ord:List Nat},(∀ j∈ord,s j=s' j)→gI Ms s ord=gI Ms s' ord
 | [], _ => rfl
 | j :: ord, h => by rw [lJ, lJ, h j List.mem_cons_self, ns (fun k hk => h k (List.mem_cons_of_mem _ hk))]
structure IvW (E:Env) (D:List Deferred) (M:Mem) (ops:Array Oper) (n:Nat) (mk:List Nat) (Ms:Nat→σ→Mem) (G:Nat→(Nat→σ)→Ctx) (s:Nat→σ) (ord:List Nat) (l:Array Bool) (a:Act) (w:World):Prop where
 sz:a.tmps.size=E.N
 df:a.defers=D
 nd:ord.Nodup
 mem : ∀ j,j∈ord↔(j∈mk∧l.getD j false=true)
 base:Base E (gI Ms s ord ++ M) w
 inv:Inv (E.hide (aS (gI Ms s ord))) ops n (fun k=>G k s) M l a w
theorem Bp {D:List Deferred} {Γ:Ctx} {M:Mem} {id:Nat} {Q:Exit→Act→World→Prop} (fq n:Nat) (mk:List Nat) (s0:σ) (ψm:Nat→σ→VT) (Ms:Nat→σ→Mem) (hm:P.follows .mixedOrders=true) (hok:eg fq n ops=true) (hn0:0<n) (hmk:(mk.all fun j=>decide (j<n))=true) (hmd:mk.Nodup)
  (h:RunW P E M ops mk ψm Ms 0 (fun _=>Γ) (ops.toList.take n) (fun Γ' => ∀ s,Run P E ops false n D (Γ' s) (gI Ms s mk ++ M) (ops.toList.drop n) (fun D' Γ' M'=>PJ E D' Γ' M' .normal Q))):J P E D Γ M (.region id ops true) Q:=by
 intro a w hS
 have hn:n≤ops.size:=by simp only [eg,Bool.and_eq_true] at hok;exact of_decide_eq_true hok.1
 refine dM hm fun w₁ hw₁ => ?_
 have k0:Ext w { w₁ with drawn:=w₁.drawn+1 } := hw₁.trans ⟨rfl,rfl,rfl,Nat.le_refl _,fun _ _=>rfl⟩
 obtain ⟨G,hG0,hK,hG'⟩:=h.chain
 have hlen:(ops.toList.take n).length=n:=by simp [hn]
 rw [hlen,Nat.zero_add] at hK
 have hG : ∀ j o,j<n→ops[j]? = some o→OpW P E M ops mk ψm Ms j (G j) o (G (j+1)):=fun j o hj ho=>by
  have:=hG' j o (by rw [List.getElem?_take,if_pos hj]; simpa using ho)
  simpa using this
 have hl0 : ∀ j,(Array.replicate ops.size false).getD j false=false:=fun j=>by
  simp [Array.getD_eq_getD_getElem?,Array.getElem?_replicate]; split <;> rfl
 refine te hok (fun l a' w' => ∃ s ord,IvW E D M ops n mk Ms G s ord l a' w') ?_ ?_ (fun l a w w' ⟨s,ord,h⟩ k=>⟨s,ord,⟨h.sz,h.df,h.nd,h.mem,h.base.ext k,fun i hi t φ e1 e2 e3=>φ.mono (Base.hv_ext k) (h.inv i hi t φ e1 e2 e3)⟩⟩) ops.size _ a _ ⟨by simp,fun j hj => ?_⟩ ?_ ⟨fun _=>s0, [],hS.sz,hS.df,List.nodup_nil,fun j => ?_,?_,?_⟩ ⟨0,hn0,hl0 0⟩
 ·rintro l a' w' i ⟨s,ord,hI⟩ hl hin hi2 hi
  have hi1:=cy hi
  have hls:=hl.size
  have ho:ops[i]? = some ops[i]:=by simp [hi1]
  have hsame : ∀ j,j≠i→(l.setIfInBounds i true).getD j false=l.getD j false:=fun j hj=>by rw [aZ X,if_neg (fun e=>hj e.symm)]
  have hself:(l.setIfInBounds i true).getD i false=true:=by rw [aZ X,if_pos Z]
  have hnm:=tc hI.inv hok hl hin ho hi2 hi
  generalize hX:G (i+1)=BR
  generalize hY:G i=BS at hnm
  have hop:=hG i _ hin ho
  have hX2:=hX
  rw [hX,hY] at hop
  cases hop with
  | @pure d ψ ds hb hp hψ hst =>
   obtain ⟨d', ψ',hd,hN,hΓ,hrun⟩:=(hst s (aS (gI Ms s ord))).run ho
   simp only [List.cons.injEq,Prod.mk.injEq,and_true] at hΓ
   obtain ⟨e1,e2⟩:=hΓ
   subst e1 e2
   have hdi:dstOf ops i=some d:=by simp [dstOf,ho,hd]
   refine hrun a' w' hI.base.swap hnm _ fun v w'' k hv'=>⟨s,ord,by simp [Act.put,hI.sz],hI.df,hI.nd,fun j => ?_,hI.base.ext k,?_⟩
   ·rw [hI.mem j]
    by_cases e:j=i
    ·subst e
     constructor
     ·rintro ⟨_,h2⟩;rw [h2] at hi2;cases hi2
     ·rintro ⟨h1,_⟩;rw [List.elem_eq_true_of_mem h1] at hb;cases hb
    ·rw [hsame j e]
   ·refine rE (G:=fun k=>G k s) hok hl (by rw [hI.sz]; exact hN) hi1 hi2 hdi (fun k t h1 h2 h3=>gV hG hn s h1 h2 h3) (fun φ hlk => ?_) (fun _ _ _ _=>rfl) (Base.hv_ext k) hI.inv
    have hlk:bt (G (i+1) s) d=some φ:=hlk
    rw [hX2,aW,if_pos Z] at hlk
    cases hlk;exact hv'
  | @make d hb hd hN hg hmkO =>
   have hdi:dstOf ops i=some d:=by simp [dstOf,ho,hd]
   have hB:=hI.base.swap
   have hpo : ∀ x φ,x∈(ops[i]).op.operands→aB (BS s) x=some φ→φ.p (a'.eval x) (hv (E.hide (aS (gI Ms s ord))) M w'):=fun x φ hx he=>by
    cases x with
    | tmp t => exact hnm t φ (List.mem_append.2 (.inl (List.mem_filterMap.2 ⟨.tmp t, by simpa using hx, rfl⟩))) he
    | const v => cases he; rfl
    | global g => cases he; rfl
    | func f => cases he; rfl
   simp only [Co.wpOpX,ho,cO (o:=ops[i]) hg,if_true]
   refine hmkO s (aS (gI Ms s ord)) a' w' hB hpo _ fun x v w'' hext hmem hnd hbl hv' => ?_
   have hni:i ∉ ord:=fun h=>by rw [((hI.mem i).1 h).2] at hi2;cases hi2
   have hs' : ∀ j∈ord,s j=(fun j=>if j=i then x else s j) j:=fun j hj=>by
    have:j≠i:=fun e=>hni (e▸hj)
    simp [this]
   have hcg:=ns (Ms:=Ms) hs'
   have hS0:St E D [] (gI Ms s ord ++ M) a' w':=⟨hI.base,hI.sz,hI.df,fun t φ h=>by cases h⟩
   have ehid : ∀ W:World,hid (((E.hide (aS (gI Ms s ord))).O ++ aS M) ++ aS (Ms i x)) (view W)=hid ((E.O ++ aS (gI Ms s ord ++ M)) ++ aS (Ms i x)) (view W):=fun W=>by
    unfold Env.hide;rw [bj, ← List.append_assoc]
   have hS1:=hS0.take hext (fun q hq=>by rw [← ehid]; exact hmem q hq) hnd hbl hN (by rw [← ehid]; exact hv')
   rw [hd]
   have e5:gI Ms (fun j=>if j=i then x else s j) (i :: ord)=Ms i x ++ gI Ms s ord:=by
    rw [lJ, ← hcg]; simp
   refine ⟨fun j=>if j=i then x else s j,i :: ord,by simp [Act.put,hI.sz],hI.df,List.nodup_cons.2 ⟨hni,hI.nd⟩,fun j => ?_,?_,?_⟩
   ·rw [List.mem_cons,hI.mem j]
    by_cases e:j=i
    ·subst e
     exact ⟨fun _=>⟨by simpa using hb,hself⟩,fun _ => .inl Z⟩
    ·rw [hsame j e]
     exact ⟨fun h=>h.resolve_left e, .inr⟩
   ·rw [e5,List.append_assoc]; exact hS1.base
   ·rw [e5]
    have hle2:Hp.le (hv (E.hide (aS (gI Ms s ord))) M w') (hv (E.hide (aS (Ms i x ++ gI Ms s ord))) M w''):=by
     rw [gN,gN]
     intro b y e
     obtain ⟨g1,g2⟩:=cW e
     refine eA ?_ (hext.view _ _ g2)
     intro h
     have hlt:=d9 g2
     rw [List.append_assoc,bj] at h
     rcases List.mem_append.1 h with h | h
     ·exact g1 (List.mem_append.2 (.inl h))
     ·rcases List.mem_append.1 h with h | h
      ·have:=(hbl b h).1;omega
      ·exact g1 (List.mem_append.2 (.inr h))
    refine rE (G:=fun k=>G k s) hok hl (by rw [hI.sz]; exact hN) hi1 hi2 hdi (fun k t h1 h2 h3=>gV hG hn _ h1 h2 h3) (fun φ hlk => ?_) (fun k hk t hw=>yk hG hn (by rw [hG0]) hl (fun j hj => ?_) k hk t hw) hle2 hI.inv
    ·have hlk:bt (G (i+1) (fun j=>if j=i then x else s j)) d=some φ:=hlk
     rw [hX2,aW,if_pos Z] at hlk
     cases hlk
     have:=hS1.tm d (ψm i x) (by rw [aW,if_pos Z])
     rw [be (by rw [hI.sz]; exact hN)] at this
     rw [gN,List.append_assoc]
     simpa using this
    ·have:j≠i:=fun e=>by rw [e,hi2] at hj;cases hj
     simp [this]
 ·rintro l a' w' ⟨s,ord,hI⟩ hl hiff
  have hpm:ord.Perm mk:=(List.perm_ext_iff_of_nodup hI.nd hmd).2 fun j=>by
   rw [hI.mem j]
   refine ⟨fun h=>h.1,fun h=>⟨h,?_⟩⟩
   have hj:j<n:=of_decide_eq_true (List.all_eq_true.1 hmk j h)
   exact (hiff j X).2 hj
  have hpM:(gI Ms s ord ++ M).Perm (gI Ms s mk ++ M):=(hpm.flatMap_right _).append_right M
  have hSt:St E D (G n s) (gI Ms s ord ++ M) a' w':=⟨hI.base,hI.sz,hI.df,fun t φ hlk=>by
   have:=hI.inv n (Nat.le_refl _) t φ hlk (fun j hj _=>(hiff j X).2 hj) (fun j hj hjs _=>by
    rw [← Bool.not_eq_true]; intro h;have:=(hiff j hjs).1 h;omega)
   rwa [gN] at this⟩
  have:=(hK s).seq (Q .normal) [] (fun j _=>by simp [List.getElem?_drop]) (fun D' Γ' M' a w hK hS=>by simpa [Co.wpOpsX] using hK a w hS) a' w' (ko hpM hSt)
  simpa using this
 ·rw [hl0] at hj;cases hj
 ·unfold left;refine Nat.le_trans (List.length_filter_le _ _) (by simp)
 ·simp [hl0]
 ·exact hS.base.ext k0
 ·have e0:E.hide (aS (gI Ms (fun _=>s0) []))=E:=by cases E;simp [Env.hide,gI,aS]
  rw [e0]
  intro k' hk' t φ hlk hlo _
  have hno : ∀ j,0≤j→j<k'→dstOf ops j≠some t:=by
   intro j _ hj hd
   have:=hlo j hj hd
   rw [hl0] at this;cases this
  have hlk:bt (G k' (fun _=>s0)) t=some φ:=hlk
  rw [gV hG hn (fun _=>s0) (Nat.zero_le _) hk' hno,hG0] at hlk
  exact φ.mono (Base.hv_ext k0) (hS.tm t φ hlk)
section
variable {M:Mem} {mk:List Nat} {ψm:Nat→σ→VT} {Ms:Nat→σ→Mem} {i:Nat} {Γ:(Nat→σ)→Ctx} {os:List Oper} {K:((Nat→σ)→Ctx)→Prop} {op:Op} {ty:TypeId} {pos:String} {af:Array Edge}
theorem kx {d:Nat} {ψ:VT} (hi:mk.elem i=false) (h : ∀ s B,aC P (E.hide B) (Γ s) M ⟨some d,op,ty,pos,af,none⟩ ψ) (hd:Nat.ble (d+1) E.N=true) (hr:RunW P E M ops mk ψm Ms (i+1) (fun s=>(d, ψ) :: Γ s) os K) :
  RunW P E M ops mk ψm Ms i Γ (⟨some d,op,ty,pos,af,none⟩ :: os) K := .step (.pure (ψ:=fun _=>ψ) [] hi Z (fun _ _ _=>rfl) (fun s B => .plain (h s B) Z Z (Nat.le_of_ble_eq_true hd))) hr
theorem kc {d:Nat} (hi:mk.elem i=true) (h : ∀ s B,MkO P (E.hide B) (Γ s) M ⟨some d,op,ty,pos,af,none⟩ (ψm i) (Ms i)) (hd:Nat.ble (d+1) E.N=true)
  (hr:RunW P E M ops mk ψm Ms (i+1) (fun s=>(d, ψm i (s i)) :: Γ s) os K):RunW P E M ops mk ψm Ms i Γ (⟨some d,op,ty,pos,af,none⟩ :: os) K := .step (.make hi Z (Nat.le_of_ble_eq_true hd) Z h) hr
end
end
end Tor
end
section
namespace Tor
open Go Go.RowKit Go.Proofs
def nt (F:Prop):Own:=⟨[],fun _ _=>F,fun _ _ h=>h⟩
abbrev S3:=List Nat × Option Nat × Nat
def ok3 (r:Nat) (s:S3):Prop:=s.1.length=r∧(s.2.1=none→r=0)
def tf (r c:Nat) (s:S3):VT:=bE 3 [(0, .one,one (.int .i64 r)),(1, .one,one (.int .i64 c)),(2, .one,one (slV s.2.1 r s.2.2))]
def zV (r c:Nat) (s:S3) (F:Nat→Nat→Int):Mem := [nt (ok3 r s),gT s.2.1 s.2.2 r c s.1,dQ c s.1 F]
theorem uw (n:Nat) (is:List Nat) {L L':Mem} (h:is.isPerm (List.range n)=true) (hn:L.length=n) (h2:is.map (fun i=>L.getD i (nt True))=L'):L.Perm L':=by
 subst hn
 have h1:=(List.isPerm_iff.1 h).map fun i=>L.getD i (nt True)
 rw [h2] at h1
 have e:(List.range L.length).map (fun i=>L.getD i (nt True))=L:=by
  refine List.ext_getElem (by simp) fun i h1 h2 => ?_
  simp [List.getD,h2]
 rw [e] at h1
 exact h1.symm
theorem zW {P:Program} {f:FuncId} {φs:List VT} {r c:Nat} {F:Nat→Nat→Int} (h:OkM P f φs (kU r c) (fun s => [gT s.1.2.1 s.1.2.2 r c s.1.1,dQ c s.1.1 F])):OkM P f φs (tf r c) (fun s=>zV r c s F) :=
 fun w O vs hO hv=>jG.mono (h w O vs hO hv) (by
  rintro e w' ⟨s,v,rfl,hv',hext,hmem,hnd,hb⟩
  refine ⟨s.1,v,rfl,hv',hext,fun o ho => ?_,hnd,hb⟩
  rcases List.mem_cons.1 ho with rfl | ho
  ·exact s.2
  ·exact hmem o ho)
end Tor
end
section
namespace Tor
open Go Go.RowKit Go.Proofs
theorem yl {n p q:Nat} (hne:p≠q) (hp:p<n) (hq:q<n) {F:Nat→Nat→Int} (h : ∀ j,j<n→F p j=F q j):Lin.bY n F=0:=by
 have h1:=pF hne hp hq F
 rw [Lin.fp (F:=swp p q F) (G:=F) (fun a b ha hb=>by
  unfold swp
  by_cases h2:a=p
  ·rw [if_pos h2,h2]; exact (h b hb).symm
  ·rw [if_neg h2]
   by_cases h3:a=q
   ·rw [if_pos h3,h3]; exact h b hb
   ·rw [if_neg h3])] at h1
 omega
def fa (i c:Nat) (v:Nat→Int) (F:Nat→Nat→Int):Nat→Nat→Int:=fun q j=>if q=i∧j<c then v j else F q j
theorem nu {T:TypeId} {n i j:Nat} {v:Nat→Int} {bs:List Nat} {F:Nat→Nat→Int} : Own.le (cZ T (.agg 2) n bs (iV (fun q k=>aU (fa i j v F q k)) i j (aU (v j)))) (cZ T (.agg 2) n bs (fun q k=>aU (fa i (j+1) v F q k))):=by
 refine iU fun q k hq hk => ?_
 by_cases h:q=i∧k=j
 ·obtain ⟨rfl,rfl⟩:=h
  unfold iV fa
  rw [if_pos ⟨rfl,rfl⟩,if_pos ⟨rfl,by omega⟩]
 ·unfold iV
  rw [if_neg h]
  unfold fa
  by_cases h2:q=i∧k<j
  ·simp only [if_pos h2,if_pos (show q=i∧k<j+1 by omega)]
  ·simp only [if_neg h2,if_neg (show ¬ (q=i∧k<j+1) by omega)]
theorem rF {i c K:Nat} {v:Nat→Int} {F:Nat→Nat→Int} (hF : ∀ i j,(F i j).natAbs≤K) (hv : ∀ j,(v j).natAbs≤K) (q j:Nat):(fa i c v F q j).natAbs≤K:=by
 unfold fa;split
 ·exact hv j
 ·exact hF q j
theorem lK {i:Nat} {v:Nat→Int} {F:Nat→Nat→Int} (q j:Nat):fa i 0 v F q j=F q j:=if_neg (fun h=>Nat.not_lt_zero _ h.2)
theorem rG (a b:Int) {n i:Nat} {u v w:Nat→Int} {F:Nat→Nat→Int} (hi:i<n) (h : ∀ j,j<n→w j=a*u j+b*v j):Lin.bY n (fa i n w F)=a*Lin.bY n (fa i n u F)+b*Lin.bY n (fa i n v F):=by
 refine Rat.intCast_inj.1 ?_
 rw [Rat.intCast_add,Rat.intCast_mul,Rat.intCast_mul,Lin.dE,Lin.dE,Lin.dE,Lin.jz (a:Rat) (b:Rat) (p:=i) (G:=fun a j=>(fa i n u F a j:Rat)) (H:=fun a j=>(fa i n v F a j:Rat)) hi (fun j hj => ?_) (fun a b _ _ h => ?_) (fun a b _ _ h => ?_)]
 ·unfold fa;rw [if_pos ⟨rfl,hj⟩,if_pos ⟨rfl,hj⟩,if_pos ⟨rfl,hj⟩,h j hj,Rat.intCast_add,Rat.intCast_mul,Rat.intCast_mul]
 ·unfold fa;rw [if_neg (fun h2=>h h2.1),if_neg (fun h2=>h h2.1)]
 ·unfold fa;rw [if_neg (fun h2=>h h2.1),if_neg (fun h2=>h h2.1)]
theorem oD {n i:Nat} {F:Nat→Nat→Int} : fa i n (F i) F=F:=by
 funext q j;unfold fa;split
 ·rename_i h;rw [h.1]
 ·rfl
theorem yn {n i j:Nat} {F:Nat→Nat→Int} (hij:i≠j) (hi:i<n) (hj:j<n):Lin.bY n (fa i n (F j) F)=0:=yl hij hi hj fun c hc=>by
 unfold fa;rw [if_pos ⟨rfl,hc⟩,if_neg (fun h=>hij h.1.symm)]
theorem yo {n i j:Nat} {c:Int} {F:Nat→Nat→Int} (hij:i≠j) (hi:i<n) (hj:j<n):Lin.bY n (fa i n (fun q=>F i q+c*F j q) F)=Lin.bY n F:=by
 rw [rG 1 c (u:=F i) (v:=F j) hi (fun j _=>by omega),oD,yn hij hi hj,Int.one_mul,Int.mul_zero,Int.add_zero]
theorem yp {n i:Nat} {c:Int} {F:Nat→Nat→Int} (hi:i<n):Lin.bY n (fa i n (fun q=>c*F i q) F)=c*Lin.bY n F:=by
 rw [rG c 0 (u:=F i) (v:=F i) hi (fun j _=>by omega),oD,Int.zero_mul,Int.add_zero]
end Tor
end
section
namespace Tor
open Go Go.RowKit Go.Proofs
variable [Tor.Co.Kc]
attribute [local irreducible] J PJ aC one slT bL bE bw exT cj eP aT aH slV VT.le Ret bQ dz ed
attribute [local irreducible] aU ei
theorem vO (B n:Nat) (F:Nat→Nat→Int) (hn:n≤8) (hF : ∀ i j,(F i j).natAbs≤B) (hD : ∀ k,k≤n→dZ B k≤2^400) (hB:B≤2^400):Ok Tryz.prog 47 [cr n n F] (bw [aU (Lin.bY n F),one (.int .i64 0)]):=by
 have h:=oz B n F hn hF hD hB
 unfold cr at *
 refine Ok.enter Tryz.func47 Z Tryz.ntmps47 Z (fun w O => ?_)
 refine ae (ai ?_)
 refine bJ Z Z (ltN Z) (fun b1 => ?_)
 refine aN (T:=28) Z (ltN Z) (fun b2 => ?_)
 refine Cd Z (Cf (aa (ae (ae (ai (Cb (aj Z) (Cb (am 1 Z Z Z) (Cb (aj Z) (Cb (am 1 Z Z Z) ?_)))))))))
 refine Cb (sF X (ek Z Z)) (Cf (aa (aD Z (ay (aa (ae (ai (Cb (bI 1 Z Z) ?_))))))))
 refine Cb (ao (h) Z ⟨A,Cg⟩) ?_
 refine az 0 Z Z Z Z Z (leN Z) Z (Cd Z (Cf (aa (aG ?_))))
 refine db Tryz.results47 (.cellB 0 Z Z Z A) (.tmp Z A)
theorem rH (B n:Nat) (F:Nat→Nat→Int) (hn:n≤8) (hF : ∀ i j,(F i j).natAbs≤B) (hD : ∀ k,k≤n→dZ B k≤2^400) (hB:B≤2^400):Ok Tryz.prog 19 [cr n n F] (aU (Lin.bY n F)):=by
 have h:=vO B n F hn hF hD hB
 unfold cr at *
 refine Ok.enter Tryz.func19 Z Tryz.ntmps19 Z (fun w O => ?_)
 refine ae (ai ?_)
 refine bJ Z Z (ltN Z) (fun b1 => ?_)
 refine aN (T:=28) Z (ltN Z) (fun b2 => ?_)
 refine Cf (aa (ae (ai (Cb (bI 1 Z Z) ?_))))
 refine Cb (ao (h) Z ⟨A,Cg⟩) ?_
 refine Cc Z (Cb (aA Z Z) (Cb (aA Z Z) ?_))
 refine aN (T:=28) Z (ltN Z) (fun b3 => ?_)
 refine az 0 Z Z Z Z Z (leN Z) Z (Cd Z (Cf (aa (ae (ai (Cb (am 0 Z Z Z) (az 1 Z Z Z Z Z (leN Z) Z (Cf (aa ?_)))))))))
 refine aG ?_
 refine aV Tryz.results19 (.cellB 1 Z Z Z A)
theorem zX (a:Int) (n:Nat) (hn:n≤256) (hs : ∀ i,i≤n→cf (a^i)) (ha:cf a):Ok Tryz.prog 11 [aU a,one (.int .i64 (n:Nat))] (bw [aU (a^n),one (.int .i64 0)]):=by
 have h1:=fN 1 U U
 refine Ok.enter Tryz.func11 Z Tryz.ntmps11 Z (fun w O => ?_)
 refine ae (ai ?_)
 refine jH Z Z (ltN Z) (fun b2 => ?_)
 refine aN (T:=28) Z (ltN Z) (fun b4 => ?_)
 refine Cd Z (Cf (aa (ae (ae (ai (Cc Z (Cb (sF X (bD Z Z)) (Cc Z (Ce (ab Z) ?_)))))))))
 refine Ce (sF X (dx Z Z)) (Cb (bT Z Z) (Cf (aa (aD Z (ay (aa (ae (ai ?_))))))))
 refine Cb (ao (h1) Z ⟨A,Cg⟩) ?_
 refine aN (T:=28) Z (ltN Z) (fun b6 => ?_)
 refine az 0 Z Z Z Z Z (leN Z) Z (Cf (aa (ae (ae (ai (Cd Z (Cf (aa (aw ?_)))))))))
 refine cv (Γ' := [(1,_),(2,_),(4,_),(5,_),(6,_),(7,_)]) BW (SubM.refl _) ?_
 refine bO (σ:=Nat) (Γk := [(1,_),(2,_),(4,_),(5,_),(6,_)]) BW (fun i => [(7,one (.int .i64 (i:Nat)))]) (fun i M0=>(M0.set 0 (aT b6 28 (Lay.agg 2).sz [(0, .agg 2,aU (a^i))]))) (fun i=>i≤n) (fun i=>n - i) (0) (Nat.zero_le _) BX (.keep (ph (Int.pow_zero a).symm) (.keep Ca (.keep Ca (.nil)))) (fun i hi => ?_)
 refine cg (Γ' := [(7,_),(1,_),(2,_),(4,_),(5,_),(6,_)]) (M' := [_,_,_]) Z Z ?_
 by_cases hin:i<n
 ·have hm:=g9 (a^i) a (hs i X) ha
  rw [← Int.pow_succ] at hm
  refine ae (ae (ai (Cc Z (Cc Z (Cb (sT X (bD Z Z)) (Cf (aa (aM Z (ay ?_)))))))))
  refine aa (ae (aw (ai (Cb (am 0 Z Z Z) (Cb (am 2 Z Z Z) ?_)))))
  refine Cb (ao (hm) Z ⟨A,A,Cg⟩) ?_
  refine az 0 Z Z Z Z Z (leN Z) Z (Cf (aK (aa (ai (Cc Z (Cb (bU _ 1 Z Z X) (Cd Z (Cf ?_))))))))
  refine aX (i+1) X X BX (.keep Ca (.keep Ca (.keep Ca (.nil))))
 ·have:i=n:=by omega
  subst this
  refine ae (ae (ai (Cc Z (Cc Z (Cb (sF X (bD Z Z)) (Cf (aa (aD Z (a8 ?_)))))))))
  refine ax (ax (aL (aa (ae (ai (Cb (am 0 Z Z Z) (az 1 Z Z Z Z Z (leN Z) Z (Cd Z (Cf ?_)))))))))
  refine aa (aG ?_)
  refine db Tryz.results11 (.cellB 1 Z Z Z A) (.tmp Z A)
end Tor
end
section
namespace Tor
open Go Go.RowKit Go.Proofs
theorem BO:Sz 4 (2^64):=⟨by decide,by decide +kernel,by decide +kernel⟩
theorem BP : ∀ k,k≤4→dZ (2^64) k≤2^400:=by
 intro k hk
 rcases (show k=0∨k=1∨k=2∨k=3∨k=4 by omega) with rfl | rfl | rfl | rfl | rfl <;> decide +kernel
def jl (i:Nat) (m:Int) (F:Nat→Nat→Int):Nat→Nat→Int:=fun q j=>if q<i∧j=0 then F q j*m+q else F q j
theorem zY {T:TypeId} {n i:Nat} {m:Int} {bs:List Nat} {F:Nat→Nat→Int} : Own.le (cZ T (.agg 2) n bs (iV (fun q k=>aU (jl i m F q k)) i 0 (aU (jl i m F i 0*m+i)))) (cZ T (.agg 2) n bs (fun q k=>aU (jl (i+1) m F q k))):=by
 refine iU fun q k hq hk => ?_
 by_cases h:q=i∧k=0
 ·obtain ⟨rfl,rfl⟩:=h
  unfold iV jl
  rw [if_pos ⟨rfl,rfl⟩,if_neg X,if_pos ⟨by omega,rfl⟩]
 ·unfold iV
  rw [if_neg h]
  unfold jl
  by_cases h2:q<i∧k=0
  ·simp only [if_pos h2,if_pos (show q<i+1∧k=0 by omega)]
  ·simp only [if_neg h2,if_neg (show ¬ (q<i+1∧k=0) by omega)]
theorem uy {n i:Nat} {m:Int} {F:Nat→Nat→Int} (hi:i≤4) (hF : ∀ i j,(F i j).natAbs≤9) (hm:m.natAbs≤2^60) (q j:Nat):(jl i m F q j).natAbs≤2^64:=by
 have h9:=hF q j
 unfold jl;split
 ·rename_i h
  have h1:(F q j*m).natAbs≤9*2^60:=by rw [Int.natAbs_mul]; exact Nat.mul_le_mul h9 hm
  have h2:=Int.natAbs_add_le (F q j*m) (q:Int)
  have h3:9*2^60+4≤2^64:=by decide +kernel
  have h4:((q:Int)).natAbs=q:=rfl
  omega
 ·exact Nat.le_trans h9 V
attribute [local irreducible] J PJ aC one slT bL bE bw exT cj eP aT aH slV VT.le Ret bQ dz ed
attribute [local irreducible] aU cr cZ
set_option maxRecDepth 100000 in
theorem rI (r c:Nat) (l:List Int) (k:Nat) (hk0:k<256):oy Tryz.prog 3 [gU r c l,one (.int .u8 (k:Nat))] (one (.bool true)):=by
 have hsq:=nq r c l
 have hr:r % 5≤4:=by omega
 generalize hF:(fun i j=>dig l (i*(r % 5)+j))=F at *
 have aF : ∀ i j,(F i j).natAbs≤9:=fun i j=>by rw [← hF]; exact uv _ _
 generalize r % 5=n at *
 have hsan:=lT
 have h61:=Nat.mod_lt k (show 0<61 by decide)
 have hof:=fN 2 U U
 have hp60 : ∀ i,i≤61→((2:Int)^i).natAbs≤2^61:=fun i hi=>by rw [Int.natAbs_pow]; exact Nat.pow_le_pow_right U hi
 have hpo:=zX 2 (k % 61) X (fun i hi=>cM (Nat.le_trans (hp60 i X) V)) (dD V)
 have hm:((2:Int)^(k % 61)).natAbs≤2^60:=by rw [Int.natAbs_pow]; exact Nat.pow_le_pow_right U X
 generalize hM:(2:Int)^(k % 61)=m at *
 have hs64 : ∀ {x:Int},x.natAbs≤2^64→cf x:=fun h=>cM (Nat.le_trans h V)
 have hCo:=lU n n F X X (fun i j=>hs64 (Nat.le_trans (aF i j) V))
 simp only [Int.mul_one] at hCo
 have hX:=uy (n:=n) hr aF hm
 have v1:=lc BO hr (jl n m F) hX
 have v2:=rH (2^64) n (jl n m F) X hX (fun k hk=>BP k X) V
 have s1:=iE (Lin.bY n (jl n m F))
 generalize Lin.bY n (jl n m F)=d at *
 unfold gU cr at *
 refine oy.enter Tryz.func3 Z Tryz.ntmps3 Z (fun w O => ?_)
 refine ae (ai ?_)
 refine bJ Z Z (ltN Z) (fun b2 => ?_)
 refine Cd Z (Cf (aa (ae (ai (Cb (ao (hsan) Z trivial) (Cd Z (Cf (aa (ae ?_)))))))))
 refine ai ?_
 refine Cb (ao (hof) Z ⟨A,Cg⟩) ?_
 refine Cc Z (Cb (dc Z X X) (Cb (eh 61 Z Z Z U) ?_))
 refine Cb (ao (hpo) Z ⟨A,A,Cg⟩) ?_
 refine Cc Z (Cb (aA Z Z) (Cb (aA Z Z) ?_))
 refine aN (T:=28) Z (ltN Z) (fun b6 => ?_)
 refine az 0 Z Z Z Z Z (leN Z) Z (Cd Z (Cf (aa (ae (ai (Cb (bI 1 Z Z) ?_))))))
 refine Cb (ao (hsq) Z ⟨A,Cg⟩) ?_
 refine bZ (T:=35) Z Z Z (fun b8 => ?_)
 refine bX 0 Z Z Z Z (Cf (aa (ae (ai (Cb (bI 0 Z Z) ?_)))))
 refine gM (hCo) Z ⟨A,Cg⟩ Z Z (fun s25 => ?_)
 refine bZ (T:=35) Z Z Z (fun b9 => ?_)
 refine bX 0 Z Z Z Z (Cf (aa (ae (ae (ai (Cd Z (Cf (aa (aw ?_)))))))))
 obtain ⟨⟨bs,sv1,cap1⟩,hlen,hsv⟩:=s25
 dsimp only at hlen hsv
 unfold kU gT
 dsimp only
 refine cv (Γ' := [(4,_),(5,_),(6,_),(9,_),(10,_)]) BW (SubM.refl _) ?_
 refine bO (σ:=Nat) (Γk := [(4,_),(5,_),(6,_),(9,_)]) BW (fun i => [(10,one (.int .i64 (i:Nat)))]) (fun i M0=>(M0.set 2 (dQ n bs (jl i m F)))) (fun i=>i≤n) (fun i=>n - i) (0) (Nat.zero_le _) BX (.keep Ca (.keep Ca (.keep Ca (.keep Ca (.keep Ca (.keep Ca (.nil))))))) (fun i hi => ?_)
 refine cg (Γ' := [(10,_),(4,_),(5,_),(6,_),(9,_)]) (M' := [_,_,_,_,_,_]) Z Z ?_
 by_cases hi:i<n
 ·obtain ⟨bo,rfl⟩:=fA hsv X
  have hX1:=uy (n:=n) (i:=i) X aF hm i 0
  have h1:=g9 (jl i m F i 0) m (hs64 hX1) (hs64 (Nat.le_trans hm V))
  have hX2:(jl i m F i 0*m).natAbs≤2^64:=by
   unfold jl
   rw [if_neg X,Int.natAbs_mul]
   exact Nat.le_trans (Nat.mul_le_mul (aF i 0) hm) V
  have h2:=fN i X X
  have h3:=kI (jl i m F i 0*m) i (hs64 hX2) (hs64 (show ((i:Int)).natAbs≤2^64 from Nat.le_trans (show i≤4 by omega) V))
  refine ae (ae (ai (Cc Z (Cb (aj Z) (Cb (am 0 Z Z Z) (Cb (sT X (bD Z Z)) (Cf (aa (aM Z ?_)))))))))
  refine ay (aa (ae (aw (bG 17 bH Y U (Cb (aj Z) (Cb (am 0 Z Z Z) (Cc Z (Cb (ar Z Z X) (Cb (bM 1 Z Z X) ?_)))))))))
  refine Cb (aj Z) (Cb (am 0 Z Z Z) (Cc Z (Cb (ar Z Z X) (Cb (bM 1 Z Z X) (Cb (mi Z Z X X) (Cb (yA 2 Z Z (m7 X) X) (Cb (am 4 Z Z Z) ?_)))))))
  refine Cb (ao (h1) Z ⟨A,A,Cg⟩) ?_
  refine Cc Z ?_
  refine Cb (ao (h2) Z ⟨A,Cg⟩) ?_
  refine Cb (ao (h3) Z ⟨A,A,Cg⟩) ?_
  refine Cf (Cb (mi Z Z X X) ?_)
  (refine fD 2 Z Z Z (m7 ?_) ?_ Z ?_;omega;omega)
  refine Cf (aK (aa (ai (Cc Z (Cb (bU _ 1 Z Z X) (Cd Z (Cf ?_)))))))
  refine aX (i+1) X X BX (.keep Ca (.keep Ca (.keep (zY) (.keep Ca (.keep Ca (.keep Ca (.nil)))))))
 ·have hin:i=n:=by omega
  subst hin
  refine iX [aH sv1 39 .one cap1 i (fun q=>one (slV (some (bs.getD q 0)) i i)),dQ i bs (jl i m F)] ((List.Perm.swap _ _ _).trans (List.Perm.cons _ (List.Perm.swap _ _ _))) (.keep (p8.box (eQ hlen ⟨by simp,by simp,by simp⟩)) (EntM.refl _)) (uE.refl _) ?_
  refine ae (ae (ai (Cc Z (Cb (aj Z) (Cb (am 0 Z Z Z) (Cb (sF X (bD Z Z)) (Cf (aa (aD Z ?_)))))))))
  refine a8 (ax (ax (aL (aa (ae (ai (Cb (bI 0 Z Z) ?_)))))))
  refine Cb (ao (v1) Z ⟨A,Cg⟩) ?_
  refine Cc Z (Cb (aA Z Z) (Cb (aA Z Z) ?_))
  refine aN (T:=28) Z (ltN Z) (fun b11 => ?_)
  refine az 0 Z Z Z Z Z (leN Z) Z (Cd Z (Cf (aa (ae (bG 10 bH Y U (Cc Z (Cc Z (Ce (am 0 Z Z Z) (Ce (bI 1 Z Z) ?_)))))))))
  refine Ce (ao (v2) Z ⟨A,Cg⟩) ?_
  refine Ce (ao (s1) Z ⟨A,A,Cg⟩) ?_
  refine Cb (bh Z Z) (Cc Z (Ce (ab Z) (Cb (bh Z Z) (Cf (Cd Z (Cf (aa (aG ?_))))))))
  refine aV Tryz.results3 (.tmp Z A)
theorem pP {p0:Prop} (r c:Nat) (l:List Int) (k:Nat) (y0:p0) (y1:(k:Int)≤IntKind.max .u8∧True):oy Tryz.prog 3 [gU r c l,one (.int .u8 (k:Nat))] (one (.bool true)) :=
 rI r c l k (by have h:(k:Int)≤255:=y1.1;omega)
end Tor
end
