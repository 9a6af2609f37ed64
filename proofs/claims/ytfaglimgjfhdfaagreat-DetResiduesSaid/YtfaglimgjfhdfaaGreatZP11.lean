/-
  Proofs that laws of this seat return true for every input, and that their arguments read afterwards as before.
  No condition.
-/
import Derived.Test.YtfaglimgjfhdfaaGreatZP10
import Derived.Test.YtfaglimgjfhdfaaGreatRows
set_option maxHeartbeats 20000000
set_option linter.unusedVariables false
set_option linter.unusedSimpArgs false
set_option linter.unusedSectionVars false
section
namespace Tor
open Go Go.RowKit Go.Proofs
variable [Tor.Co.Kc]
theorem Ck (x y z u t:Own) : [x,y,z,u,t].Perm ([y,z] ++ [x,u,t]):=(List.Perm.swap y x _).trans (List.Perm.cons y (List.Perm.swap z x _))
attribute [local irreducible] J PJ aJ one slT bL bG bD exT cn eP aU aN slV VT.le Ret bS
attribute [local irreducible] aP dT
theorem yW (r c:Nat) (F:Nat→Nat→Int) (l m:List Int) (hl:l.length≤1048576) (hm:m.length≤1048576) :
  Ok Tryz.prog 112 [cF r c F,iM .i64 l,iM .i64 m] (x7 (!(outs r l || outs c m)) 1 l.length m.length (rU l m F)):=by
 unfold x7 cF
 have hi1:=nP l r hl
 have hi2:=nP m c hm
 unfold iM at hi1 hi2 ⊢
 refine Ok.enter Tryz.func112 Z Tryz.ntmps112 Z (fun w O => ?_)
 cases h1:outs r l with
 | true =>
  rw [h1] at hi1
  refine ae (ai ?_)
  refine bm Z Z (ltN Z) (fun b3 => ?_)
  refine cv (T:=35) Z Z Z (fun b6 => ?_)
  refine CH Z (CJ (aa (ae (ae (ai (CG Z (CF (aj Z) (CF (ak 1 Z Z Z) ?_))))))))
  refine CF (am (hi1) Z ⟨A,A,CK⟩) ?_
  refine CF (cZ Z) (CG Z (sg0 Z Z Z Z (sg0 Z Z Z Z (sg0 Z Z Z Z (sg0 Z Z Z Z (sg0 Z Z Z Z (CF (bp Z Z) (CJ (aa ?_)))))))))
  refine aI Z (ae (ai (stB Z Z Z (BuildK.nil (bU 0 Z Z Z Z (CH Z (CJ (aa (aG ?_)))))))))
  refine aK ?_
  refine cW Tryz.results112 (.cellW 0 Z Z (rT _)) (.tmp Z A)
 | false =>
  rw [h1] at hi1
  cases h2:outs c m with
  | true =>
   rw [h2] at hi2
   refine ae (ai ?_)
   refine bm Z Z (ltN Z) (fun b3 => ?_)
   refine cv (T:=35) Z Z Z (fun b6 => ?_)
   refine CH Z (CJ (aa (ae (ae (ai (CG Z (CF (aj Z) (CF (ak 1 Z Z Z) ?_))))))))
   refine CF (am (hi1) Z ⟨A,A,CK⟩) ?_
   refine CF (cZ Z) (CG Z (CI (ab Z) (CI (aj Z) (CI (ak 1 Z Z Z) ?_))))
   refine CI (am (hi2) Z ⟨A,A,CK⟩) ?_
   refine CI (cZ Z) (CF (bK Z Z) (CJ (aa (aI Z (ae (ai (stB Z Z Z (BuildK.nil (bU 0 Z Z Z Z ?_)))))))))
   refine CH Z (CJ (aa (aG (aK ?_))))
   refine cW Tryz.results112 (.cellW 0 Z Z (rT _)) (.tmp Z A)
  | false =>
   rw [h2] at hi2
   refine ae (ai ?_)
   refine bm Z Z (ltN Z) (fun b3 => ?_)
   refine cv (T:=35) Z Z Z (fun b6 => ?_)
   refine CH Z (CJ (aa (ae (ae (ai (CG Z (CF (aj Z) (CF (ak 1 Z Z Z) ?_))))))))
   refine CF (am (hi1) Z ⟨A,A,CK⟩) ?_
   refine CF (cZ Z) (CG Z (CI (ab Z) (CI (aj Z) (CI (ak 1 Z Z Z) ?_))))
   refine CI (am (hi2) Z ⟨A,A,CK⟩) ?_
   refine CI (cZ Z) (CF (bK Z Z) (CJ (aa (aB Z (aw (aa (ae (ai (CG Z ?_)))))))))
   refine CF (aW Z) (CG Z (CF (aW Z) ?_))
   refine kH (mL _ _ (by assumption) (by assumption)) Z ⟨A,A,CK⟩ Z Z (fun s28 => ?_)
   refine cv (T:=35) Z Z Z (fun b8 => ?_)
   refine bU 0 Z Z Z Z (CJ (aa (ae (ae (ai (CH Z (CJ (aa (av ?_)))))))))
   obtain ⟨⟨bs,sv1,cap1⟩,hlen,hsv⟩:=s28
   simp only at hlen hsv
   unfold qd
   dsimp only
   refine ch (Γ' := [(1,_),(2,_),(3,_),(6,_),(7,_),(8,_),(9,_)]) Cz (SubM.refl _) ?_
   refine bE (σ:=Nat) (Γk := [(1,_),(2,_),(3,_),(6,_),(7,_),(8,_)]) Cz (fun i => [(9,one (.int .i64 (i:Nat)))]) (fun i M0=>(M0.set 2 (iK m.length bs (jp (rU l m F) i 0)))) (fun i=>i≤l.length) (fun i=>l.length - i) (0) (Nat.zero_le _) CA (.keep CE (.keep CE (.keep (iL fun i j hi hj=>by simp [jp]) (.keep CE (.keep CE (.nil)))))) (fun i hi => ?_)
   refine bR (Γ' := [(9,_),(1,_),(2,_),(3,_),(6,_),(7,_),(8,_)]) (M' := [_,_,_,_,_]) Z Z (ae (ae (ai (CG Z (CG Z (CF (aW Z) (CF (bq Z Z) (CJ (aa ?_)))))))))
   refine mq Z (fun hc => ?_) (fun hc => ?_)
   ·obtain ⟨bo,rfl⟩:=lp hsv X
    have hx:=uP h1 (show i<l.length by omega)
    refine aw (aa (ae (av (ae (ai (CH Z (CJ (aa (av ?_)))))))))
    refine ch (Γ' := [(1,_),(2,_),(3,_),(6,_),(7,_),(8,_),(9,_),(10,_)]) Cz (SubM.refl _) ?_
    refine bE (σ:=Nat) (Γk := [(1,_),(2,_),(3,_),(6,_),(7,_),(8,_),(9,_)]) Cz (fun j => [(10,one (.int .i64 (j:Nat)))]) (fun j M0=>(M0.set 2 (iK m.length bs (jp (rU l m F) i j)))) (fun j=>j≤m.length) (fun j=>m.length - j) (0) (Nat.zero_le _) CA (.keep CE (.keep CE (.keep CE (.keep CE (.keep CE (.nil)))))) (fun j hj => ?_)
    refine bR (Γ' := [(10,_),(1,_),(2,_),(3,_),(6,_),(7,_),(8,_),(9,_)]) (M' := [_,_,_,_,_]) Z Z (ae (ae (ai (CG Z (CG Z (CF (aW Z) (CF (bq Z Z) (CJ (aa ?_)))))))))
    refine mq Z (fun hc2 => ?_) (fun hc2 => ?_)
    ·have hy:=uP h2 (show j<m.length by omega)
     refine aw (aa (ae (av (bh 20 a8 Y U (CF (aj Z) (CF (ak 0 Z Z Z) (CG Z ?_)))))))
     (refine CF (ay Z Z ?_) ?_;omega)
     (refine CF (cf 1 Z Z ?_) ?_;omega)
     refine CG Z (CF (aj Z) (CF (ak 4 Z Z Z) (CG Z (CG Z ?_))))
     (refine CF (aE Z Z ?_) ?_;omega)
     refine CF (aV Z) ?_
     (refine CF (ek Z Z ?_ ?_) ?_;omega;omega)
     refine CF (aV Z) (CG Z (CG Z ?_))
     (refine CF (aE Z Z ?_) ?_;omega)
     refine CF (aV Z) ?_
     (refine CF (ek Z Z ?_ ?_) ?_;omega;omega)
     refine CF (aV Z) (CJ ?_)
     (refine CF (ay Z Z ?_) ?_;omega)
     (refine m8 2 Z Z Z (zP ?_) ?_ Z ?_;omega;omega)
     refine CJ (aL (aa (ai (CG Z (CF (bQ _ 1 Z Z X) (CH Z (CJ ?_)))))))
     refine aR (j+1) X X CA (.keep CE (.keep CE (.keep (vU _ Z) (.keep CE (.keep CE (.nil))))))
    ·have hjm:j=m.length:=by omega
     subst hjm
     refine a6 (ax (ax (aM (aL (aa (ai (CG Z (CF (bQ _ 1 Z Z X) (CH Z ?_)))))))))
     refine CJ ?_
     refine aR (i+1) X X CA (.keep CE (.keep CE (.keep (tv) (.keep CE (.keep CE (.nil))))))
   ·have hin:i=l.length:=by omega
    subst hin
    refine a6 (ax (ax (aM (aa (ae (ai (CF (bB 0 Z Z) (bU 3 Z Z Z Z (CH Z ?_)))))))))
    refine CJ (aa (aG ?_))
    refine gU [mu sv1 cap1 l.length m.length bs,iK m.length bs (jp (rU l m F) l.length 0)] (Ck _ _ _ _ _) (.keep (vf.refl _) (.keep (vf.box (l6 hlen ⟨by simp,by simp,by simp⟩)) (.keep (vf.refl _) .nil))) (vg.refl _) ?_
    refine cW Tryz.results112 (.cellW 1 Z Z ((qc fun a b ha hb=>by simp [jp,ha]))) (.tmp Z A)
end Tor
end
section
namespace Tor
open Go Go.RowKit Go.Proofs
variable [Tor.Co.Kc]
theorem yX {a b a':VT} (h:VT.le a a'):VT.le (bD [a,b]) (bD [a',b]):=fun v g ⟨vs,e,hp⟩=>⟨vs,e,by
 match vs,hp with
 | [x, y], ⟨h1, h2, _⟩ => exact ⟨h _ _ h1, h2, trivial⟩⟩
def dZ (B:Nat):Nat→Nat
 | 0 => 1
 | n + 1 => (n + 1) * (B * dZ B n)
theorem mb {B:Nat} {f:Nat→Int} (h : ∀ k,(f k).natAbs≤B) : ∀ n,(Lin.smZ n f).natAbs≤n*B
 | 0 => Nat.zero_le _
 | n + 1 => by
  have ih:=mb h n
  have:=h n
  show (Lin.smZ n f+f n).natAbs≤_
  rw [Nat.succ_mul]
  exact Nat.le_trans (Int.natAbs_add_le _ _) (Nat.add_le_add ih this)
theorem su (j:Nat):(Lin.nK j).natAbs=1:=by unfold Lin.nK;split <;> rfl
theorem kv {B:Nat} : ∀ {n:Nat} {F:Nat→Nat→Int},(∀ i j,(F i j).natAbs≤B)→(Lin.ct n F).natAbs≤dZ B n
 | 0, _, _ => Nat.le_refl _
 | n + 1, F, h => by
  rw [Lin.ct]
  refine mb (fun k => ?_) (n+1)
  rw [Int.natAbs_mul,Int.natAbs_mul,su,Nat.one_mul]
  exact Nat.mul_le_mul (h 0 k) (kv fun i j=>h _ _)
def xpS (n:Nat) (F:Nat→Nat→Int) (k:Nat):Int:=Lin.smZ k (fun j=>Lin.nK j*F 0 j*Lin.ct n (fun i k=>F (i+1) (Lin.skip j k)))
theorem wy {B n:Nat} {F:Nat→Nat→Int} (h : ∀ i j,(F i j).natAbs≤B) {k:Nat} (hk:k≤n+1):(xpS n F k).natAbs≤dZ B (n+1):=by
 refine Nat.le_trans (mb (B:=B*dZ B n) (fun k => ?_) k) (Nat.mul_le_mul_right _ hk)
 rw [Int.natAbs_mul,Int.natAbs_mul,su,Nat.one_mul]
 exact Nat.mul_le_mul (h 0 k) (kv fun i j=>h _ _)
theorem lG {n q:Nat} (g:Nat→Int) (h:q<n):((List.range n).map g).getD q 0=g q:=by
 simp [List.getD,h]
theorem wz (n k:Nat) (F:Nat→Nat→Int) (hn:n≤1024) (hk:k≤n):Ok Tryz.prog 112 [cF (n+1) (n+1) F,slT .one n (fun q=>one (.int .i64 ((q+1:Nat):Int))),slT .one n (fun q=>one (.int .i64 (Lin.skip k q:Nat)))]
  (bD [cF n n (fun i j=>F (i+1) (Lin.skip k j)),one (.int .i64 0)]):=by
 have h:=yW (n+1) (n+1) F ((List.range n).map fun q=>((q+1:Nat):Int)) ((List.range n).map fun q=>(Lin.skip k q:Int)) (by simp;omega) (by simp;omega)
 have o1:outs (n+1) ((List.range n).map fun q=>((q+1:Nat):Int))=false:=List.any_eq_false.2 fun x hx=>by
  obtain ⟨q,hq,rfl⟩:=List.mem_map.1 hx
  have:=List.mem_range.1 hq
  simp only [decide_eq_true_eq]; omega
 have o2:outs (n+1) ((List.range n).map fun q=>(Lin.skip k q:Int))=false:=List.any_eq_false.2 fun x hx=>by
  obtain ⟨q,hq,rfl⟩:=List.mem_map.1 hx
  have:=List.mem_range.1 hq
  have:Lin.skip k q<n+1:=by unfold Lin.skip;split <;> omega
  simp only [decide_eq_true_eq]; omega
 rw [o1,o2] at h
 refine h.le ⟨A,?_,?_,CK⟩ ?_
 ·exact ci (by simp) fun q hq=>by rw [lG (fun q=>((q+1:Nat):Int)) hq]
 ·exact ci (by simp) fun q hq=>by rw [lG (fun q=>(Lin.skip k q:Int)) hq]
 ·unfold x7
  simp only [Bool.or_self,Bool.not_false,if_true,List.length_map,List.length_range]
  exact yX (qc fun i j hi hj=>by
   unfold rU
   rw [lG (fun q=>((q+1:Nat):Int)) hi,lG (fun q=>(Lin.skip k q:Int)) hj]; rfl)
theorem u4 {n:Nat} : VT.le (slT .one (((n+1:Nat):Int) - 1).toNat (fun j=>one (.int .i64 ((Int.toNat 1+j:Nat):Int)))) (slT .one n (fun q=>one (.int .i64 ((q+1:Nat):Int)))):=ci X fun q hq=>by
 rw [show Int.toNat 1+q=q+1 by simp;omega]
theorem yY {n k:Nat} (hk:k≤n) {ψ:Nat→VT} : VT.le (slT .one (0+((k:Int) - 0).toNat+(((n+1:Nat):Int) - ((k+1:Nat):Int)).toNat) (fun q=>if q<0+((k:Int) - 0).toNat then (if q<0 then ψ q else one (.int .i64 ((Int.toNat 0+(q - 0):Nat):Int))) else one (.int .i64 (((((k+1:Nat):Int)).toNat+(q - (0+((k:Int) - 0).toNat)):Nat):Int))))
  (slT .one n (fun q=>one (.int .i64 (Lin.skip k q:Nat)))):=ci X fun q hq=>by
 unfold Lin.skip
 by_cases h:q<k
 ·rw [if_pos X,if_neg (Nat.not_lt_zero _),if_pos h,show Int.toNat 0+(q - 0)=q by simp]
 ·rw [if_neg X,if_neg h,show ((k+1:Nat):Int).toNat+(q - (0+((k:Int) - 0).toNat))=q+1 by omega]
attribute [local irreducible] J PJ aJ one slT bL bG bD exT cn eP aU aN slV VT.le Ret bS dI ej
attribute [local irreducible] aP
theorem pn (B:Nat) : ∀ (n:Nat) (F:Nat→Nat→Int),n≤8→(∀ i j,(F i j).natAbs≤B)→(∀ k,k≤n→dZ B k≤2^400)→B≤2^400→Ok Tryz.prog 68 [cF n n F] (aP (Lin.ct n F))
 | 0, F, hn, hF, hD, hB => by
  have h1:=fo 1 U U
  unfold cF
  refine Ok.enter Tryz.func68 Z Tryz.ntmps68 Z (fun w O => ?_)
  refine ae (ai ?_)
  refine bm Z Z (ltN Z) (fun b1 => ?_)
  refine aD (T:=28) Z (ltN Z) (fun b2 => ?_)
  refine CJ (aa (ae (ae (ai (CF (aj Z) (CF (ak 1 Z Z Z) (CF (sT X (cq Z Z)) (CJ (aa ?_)))))))))
  refine aI Z (ae (ai ?_))
  refine CF (am (h1) Z ⟨A,CK⟩) ?_
  refine au 0 Z Z Z Z Z (leN Z) Z (CJ (aa (aG (aK ?_))))
  refine aQ Tryz.results68 (.cellB 0 Z Z Z A)
 | n + 1, F, hn, hF, hD, hB => by
  have h0:=fo 0 U U
  have ih:=fun k=>pn B n (fun i j=>F (i+1) (Lin.skip k j)) X (fun i j=>hF _ _) (fun k hk=>hD k X) hB
  have hm4 : ∀ {x:Int} {m:Nat},m≤n+1→x.natAbs≤dZ B m→fZ x:=fun hm h=>Nat.le_trans h (hD _ hm)
  have hdet:Lin.ct (n+1) F=xpS n F (n+1):=rfl
  have hpk:=fun k (hk:k≤n)=>wz n k F X hk
  have hra:=vV (n+1) X
  rw [hdet]
  unfold cF fN at *
  refine Ok.enter Tryz.func68 Z Tryz.ntmps68 Z (fun w O => ?_)
  refine ae (ai ?_)
  refine bm Z Z (ltN Z) (fun b1 => ?_)
  refine aD (T:=28) Z (ltN Z) (fun b2 => ?_)
  refine CJ (aa (ae (ae (ai (CF (aj Z) (CF (ak 1 Z Z Z) (CF (sF X (cq Z Z)) (CJ (aa ?_)))))))))
  refine aB Z (aw (aa (ae ?_)))
  refine eA a8 Y Y ?_
  refine uxk (h0) Z ⟨A,CK⟩ Z ?_
  refine ux (fun B=>aj Z) Z Z ?_
  refine ux (fun B=>ak 1 Z Z Z) Z Z ?_
  refine uxk (hra) Z ⟨A,CK⟩ Z ?_
  refine ua Z (us Z ?_)
  refine ux (fun B=>ah Z) Z Z ?_
  refine RunU.nil (fun γ => ?_)
  refine cT (M' := [_,_,_]) Z (aa (ae (ae (ai (CH Z (CJ (aa (av (ch (Γ' := [(1,_),(2,_),(3,_),(4,_),(5,_)]) Cz (SubM.refl _) ?_)))))))))
  refine bE (σ:=Nat) (Γk := [(1,_),(2,_),(3,_),(4,_)]) Cz (fun k => [(5,one (.int .i64 (k:Nat)))]) (fun k M0=>(M0.set 0 (aU (γ 3) 28 2 [(0, .agg 2,aP (xpS n F k))]))) (fun k=>k≤n+1) (fun k=>n+1 - k) (0) (Nat.zero_le _) CA (.keep CE (.keep CE (.keep CE (.nil)))) (fun k hk => ?_)
  refine bR (Γ' := [(5,_),(1,_),(2,_),(3,_),(4,_)]) (M' := [_,_,_]) Z Z ?_
  by_cases hk:k<n+1
  ·have ihk:=ih k
   have hpk':=hpk k X
   clear ih hpk
   refine ae (ae (ai (CG Z (CF (aj Z) (CF (ak 2 Z Z Z) (CF (sT X (bq Z Z)) (CJ (aa (aI Z ?_)))))))))
   refine aw (aa (ae (av (ae (ai (mo (n:=0) Z Z Z Z Z ?_))))))
   refine PartsK.nil (fun bl => ?_)
   refine CG Z (CG Z ?_)
   refine CF (gc Z Z Z Z (fun _=>rfl) X X X X) ?_
   (refine cX 0 Z Z Z (leN Z) ?_ ?_ Z (ltN Z) (fun sv28 cap28 => ?_);omega;omega)
   refine CH Z (CJ (aa (ae (ai (CG Z (CG Z (CG Z (CF (bQ _ 1 Z Z X) ?_))))))))
   refine CF (gc Z Z Z Z (fun h=>nomatch h) X X X X) ?_
   (refine cX 0 Z Z Z (leN Z) ?_ ?_ Z (ltN Z) (fun sv34 cap34 => ?_);omega;omega)
   refine CH Z (CJ (aa (ae (mW (t:=6) (i:=0) Z Z (qD (t:=6) Z (yY X) ?_)))))
   have hsu:xpS n F (k+1)=xpS n F k+Lin.nK k*F 0 k*Lin.ct n (fun i j=>F (i+1) (Lin.skip k j)):=rfl
   have hdb:=kv (n:=n) (F:=fun i j=>F (i+1) (Lin.skip k j)) (fun i j=>hF _ _)
   have hF0:fZ (F 0 k):=Nat.le_trans (hF 0 k) hB
   have hd4:fZ (Lin.ct n (fun i j=>F (i+1) (Lin.skip k j))):=hm4 X hdb
   have hs4:fZ (xpS n F k):=hm4 (Nat.le_refl _) (wy hF X)
   have hp:bO (F 0 k*Lin.ct n (fun i j=>F (i+1) (Lin.skip k j))):=fT (ri hF0 hd4) V
   generalize Lin.ct n (fun i j=>F (i+1) (Lin.skip k j))=d at *
   have hmu:=fv (F 0 k) d (cE hF0) (cE hd4)
   by_cases hod:k % 2=1
   ·have hsg:Lin.nK k = -1:=by unfold Lin.nK;rw [if_neg X]
    have hsu':xpS n F (k+1)=xpS n F k + -(F 0 k*d):=by rw [hsu,hsg]; grind
    have hng:=kW (F 0 k*d) hp
    have had:=fp (xpS n F k) (-(F 0 k*d)) (cE hs4) (oM hp)
    refine eA a8 Y Y ?_
    refine ux (fun B=>bB 2 Z Z) Z Z ?_
    refine ux (fun B=>ab Z) Z Z ?_
    refine ux (fun B=>gc Z Z Z Z (fun h=>nomatch h) X X X X) Z Z ?_
    refine ux (fun B=>ab Z) Z Z ?_
    refine uxk (hpk') Z ⟨A,(u4),A,CK⟩ Z ?_
    refine ux (fun B=>ab Z) Z Z ?_
    refine ux (fun B=>az Z Z) Z Z ?_
    refine ux (fun B=>az Z Z) Z Z ?_
    refine ua Z (us Z ?_)
    refine ux (fun B=>ah Z) Z Z ?_
    refine RunU.nil (fun γ => ?_)
    refine cT (M' := [_,_,_,_]) Z (pp (dR.refl _) (.keep nk (SubM.refl _)) (aa (ae ?_)))
    refine eA a8 Y Y ?_
    refine ux (fun B=>aj Z) Z Z ?_
    refine ux (fun B=>ak 3 Z Z Z) Z Z ?_
    refine ux (fun B=>ek Z Z X X) Z Z ?_
    refine ux (fun B=>aV Z) Z Z ?_
    refine ux (fun B=>ab Z) Z Z ?_
    refine ux (fun B=>aE Z Z X) Z Z ?_
    refine ux (fun B=>aV Z) Z Z ?_
    refine ux (fun B=>bB 0 Z Z) Z Z ?_
    refine uxk (ihk) Z ⟨A,CK⟩ Z ?_
    refine uxk (hmu) Z ⟨A,A,CK⟩ Z ?_
    refine ua Z (us Z ?_)
    refine RunU.nil (fun γ => ?_)
    refine cT (M' := [_,_,_,_,_]) Z (aa (ae (ae (ai (CG Z (CF (ef 2 Z Z Z U) (CF (sT X (cq Z Z)) (CJ (aa ?_)))))))))
    refine aI Z (ai (CF (ak 0 Z Z Z) ?_))
    refine CF (am (hng) Z ⟨A,CK⟩) ?_
    refine au 0 Z Z Z Z Z (leN Z) Z (CJ (aa (ai (CF (ak 2 Z Z Z) (CF (ak 0 Z Z Z) ?_)))))
    refine CF (am (had) Z ⟨A,A,CK⟩) ?_
    refine au 2 Z Z Z Z Z (leN Z) Z (CJ (aL (aa (ai (CG Z (CF (bQ _ 1 Z Z X) (CH Z (CJ ?_))))))))
    refine aR (k+1) (hk) X CA (.drop (.drop (.keep (hsu'▸Own.le_refl _) (.keep CE (.keep CE (.nil))))))
   ·have hsg:Lin.nK k=1:=by unfold Lin.nK;rw [if_pos X]
    have hsu':xpS n F (k+1)=xpS n F k+F 0 k*d:=by rw [hsu,hsg]; grind
    have had:=fp (xpS n F k) (F 0 k*d) (cE hs4) hp
    refine eA a8 Y Y ?_
    refine ux (fun B=>bB 2 Z Z) Z Z ?_
    refine ux (fun B=>ab Z) Z Z ?_
    refine ux (fun B=>gc Z Z Z Z (fun h=>nomatch h) X X X X) Z Z ?_
    refine ux (fun B=>ab Z) Z Z ?_
    refine uxk (hpk') Z ⟨A,(u4),A,CK⟩ Z ?_
    refine ux (fun B=>ab Z) Z Z ?_
    refine ux (fun B=>az Z Z) Z Z ?_
    refine ux (fun B=>az Z Z) Z Z ?_
    refine ua Z (us Z ?_)
    refine ux (fun B=>ah Z) Z Z ?_
    refine RunU.nil (fun γ => ?_)
    refine cT (M' := [_,_,_,_]) Z (pp (dR.refl _) (.keep nk (SubM.refl _)) (aa (ae ?_)))
    refine eA a8 Y Y ?_
    refine ux (fun B=>aj Z) Z Z ?_
    refine ux (fun B=>ak 3 Z Z Z) Z Z ?_
    refine ux (fun B=>ek Z Z X X) Z Z ?_
    refine ux (fun B=>aV Z) Z Z ?_
    refine ux (fun B=>ab Z) Z Z ?_
    refine ux (fun B=>aE Z Z X) Z Z ?_
    refine ux (fun B=>aV Z) Z Z ?_
    refine ux (fun B=>bB 0 Z Z) Z Z ?_
    refine uxk (ihk) Z ⟨A,CK⟩ Z ?_
    refine uxk (hmu) Z ⟨A,A,CK⟩ Z ?_
    refine ua Z (us Z ?_)
    refine RunU.nil (fun γ => ?_)
    refine cT (M' := [_,_,_,_,_]) Z (aa (ae (ae (ai (CG Z (CF (ef 2 Z Z Z U) (CF (sF X (cq Z Z)) (CJ (aa ?_)))))))))
    refine aB Z (aw (aa (ai (CF (ak 2 Z Z Z) (CF (ak 0 Z Z Z) ?_)))))
    refine CF (am (had) Z ⟨A,A,CK⟩) ?_
    refine au 2 Z Z Z Z Z (leN Z) Z (CJ (aL (aa (ai (CG Z (CF (bQ _ 1 Z Z X) (CH Z (CJ ?_))))))))
    refine aR (k+1) (hk) X CA (.drop (.drop (.keep (hsu'▸Own.le_refl _) (.keep CE (.keep CE (.nil))))))
  ·have hke:k=n+1:=by omega
   subst hke
   refine ae (ae (ai (CG Z (CF (aj Z) (CF (ak 2 Z Z Z) (CF (sF X (bq Z Z)) (CJ (aa (aB Z ?_)))))))))
   refine a6 (ax (ax (aM (aa (ae (ai (CF (ak 0 Z Z Z) (au 1 Z Z Z Z Z (leN Z) Z (CJ ?_)))))))))
   refine aa (aG ?_)
   refine aQ Tryz.results68 (.cellB 1 Z Z Z A)
end Tor
end
section
namespace Tor
open Go Go.RowKit Go.Proofs
theorem Av (l:List Int) (n:Nat):(dig l n).natAbs≤9:=by
 unfold dig;rw [Int.natAbs_tmod]
 show (l.getD n 0).natAbs % 10≤9
 omega
def Sz (m K:Nat):Prop:=m≤12∧(m*(K*K)+1)^m<2^598∧K≤2^400
theorem Sz.pow {m K n:Nat} (h:Sz m K) (hn:n≤m):(m*(K*K)+1)^n<2^598:=Nat.lt_of_le_of_lt (Nat.pow_le_pow_right X hn) h.2.1
theorem Sz.len {m K n:Nat} (hn:n≤m) {f:Nat→Int} (hf : ∀ k,(f k).natAbs≤K):dn n f≤m*(K*K)+1:=Nat.le_succ_of_le (Nat.le_trans (yh hf) (Nat.mul_le_mul_right _ hn))
theorem Sz.det {m K n:Nat} (h:Sz m K) (hn:n≤m) {F:Nat→Nat→Int} (hF : ∀ i j,(F i j).natAbs≤K):(Lin.ct n F).natAbs<2^300 :=
 Nat.lt_of_le_of_lt (qf n F) (ma (Nat.lt_of_le_of_lt (nR (fun i _=>Sz.len hn (hF i)) n (Nat.le_refl n)) (h.pow hn)))
theorem Sz.m4 {m K n:Nat} (h:Sz m K) (hn:n≤m) {F:Nat→Nat→Int} (hF : ∀ i j,(F i j).natAbs≤K):fZ (Lin.ct n F):=Nat.le_of_lt (Nat.lt_trans (h.det hn hF) V)
theorem Sz.small {m K n:Nat} (h:Sz m K) (hn:n≤m) {F:Nat→Nat→Int} (hF : ∀ i j,(F i j).natAbs≤K):bO (Lin.ct n F):=cE (h.m4 hn hF)
theorem tR (x:Int):Ok Tryz.prog 18 [aP x,aP x] (one (.bool true)):=by
 have h:=kV x x
 rw [decide_eq_true Z] at h;exact h
attribute [local irreducible] J PJ aJ one slT bL bG bD exT cn eP aU aN slV VT.le Ret bS dI ej
attribute [local irreducible] aP fN
theorem tS (r c:Nat) (l:List Int):Ok Tryz.prog 13 [l7 r c l] (cF (r % 5) (r % 5) (fun i j=>dig l (i*(r % 5)+j))):=by
 have h:=tp (r % 5) (r % 5) l X X
 have h5:=Cg r
 have hr:r % 5<5:=Nat.mod_lt _ U
 unfold l7 cF at *
 refine Ok.enter Tryz.func13 Z Tryz.ntmps13 Z (fun w O => ?_)
 refine ae (ai ?_)
 refine bm Z Z (ltN Z) (fun b1 => ?_)
 refine cv (T:=35) Z Z Z (fun b2 => ?_)
 refine CJ (aa (ae (ai (CF (aj Z) (CF (ak 1 Z Z Z) (CF (ef 5 Z Z Z U) (CF (db Z X X) (CF (aj Z) (CF (ak 1 Z Z Z) ?_)))))))))
 refine CF (ef 5 Z Z Z U) (CF (db Z X X) (CF (aj Z) (CF (ak 1 Z Z Z) ?_)))
 refine CF (am (h) Z ⟨A,A,A,CK⟩) ?_
 refine bU 0 Z Z Z Z (CJ (aa (aG ?_)))
 refine aQ Tryz.results13 (.cellW 0 Z Z A)
end Tor
end
section
namespace Tor
open Go Go.RowKit Go.Proofs
variable [Tor.Co.Kc]
def my:List Nat := [2,3,5,7,11,101,65521,65537,1000003,2147483549,2147483563,2147483579,2147483587,2147483629,2147483647]
theorem yZ:VT.le (slT .one 15 (fun q=>([one (.int .u64 2147483647),one (.int .u64 2147483629),one (.int .u64 2147483587),one (.int .u64 2147483579),one (.int .u64 2147483563),one (.int .u64 2147483549),one (.int .u64 1000003),one (.int .u64 65537),one (.int .u64 65521),one (.int .u64 101),one (.int .u64 11),one (.int .u64 7),one (.int .u64 5),one (.int .u64 3),one (.int .u64 2)]:List VT).reverse.getD q bS)) (slT .one 15 (fun q=>one (.int .u64 (my.getD q 0:Nat)))):=ci Z fun q hq=>by
 have:q=0∨q=1∨q=2∨q=3∨q=4∨q=5∨q=6∨q=7∨q=8∨q=9∨q=10∨q=11∨q=12∨q=13∨q=14:=by omega
 rcases this with rfl | rfl | rfl | rfl | rfl | rfl | rfl | rfl | rfl | rfl | rfl | rfl | rfl | rfl | rfl <;> rfl
theorem Aw {sv:Option Nat} {T:TypeId} {cap i:Nat} {l:List (Nat × Nat)} : Own.le (aN sv T .one cap (i+1) (fun q=>if q<i then one (.int .u64 ((l.getD q (0,0)).1:Nat)) else one (.int .u64 ((l.getD i (0,0)).1:Nat)))) (aN sv T .one cap (i+1) (fun q=>one (.int .u64 ((l.getD q (0,0)).1:Nat)))):=bW fun q hq=>by
 by_cases h:q<i
 ·rw [if_pos h]
 ·rw [if_neg h,show q=i by omega]
theorem BZ {l:List (Nat × Nat)} : VT.le (slT .one l.length (fun q=>one (.int .u64 ((l.getD q (0,0)).1:Nat)))) (mw (fsL l)):=ci (mO l).symm fun q _=>by rw [mP]
attribute [local irreducible] J PJ aJ one slT bL bG bD exT cn eP aU aN slV VT.le Ret bS dI ej
attribute [local irreducible] aP fN
theorem wA (B n:Nat) (F:Nat→Nat→Int) (hn:n≤8) (hF : ∀ i j,(F i j).natAbs≤B) (hD : ∀ k,k≤n→dZ B k≤2^400) (hB:B≤2^400):Ok Tryz.prog 47 [cF n n F] (bD [aP (Lin.ct n F),one (.int .i64 0)]):=by
 have h:=pn B n F hn hF hD hB
 unfold cF at *
 refine Ok.enter Tryz.func47 Z Tryz.ntmps47 Z (fun w O => ?_)
 refine ae (ai ?_)
 refine bm Z Z (ltN Z) (fun b1 => ?_)
 refine aD (T:=28) Z (ltN Z) (fun b2 => ?_)
 refine CH Z (CJ (aa (ae (ae (ai (CF (aj Z) (CF (ak 1 Z Z Z) (CF (aj Z) (CF (ak 1 Z Z Z) ?_)))))))))
 refine CF (sF X (eI Z Z)) (CJ (aa (aB Z (aw (aa (ae (ai (CF (bB 1 Z Z) ?_))))))))
 refine CF (am (h) Z ⟨A,CK⟩) ?_
 refine au 0 Z Z Z Z Z (leN Z) Z (CH Z (CJ (aa (aG ?_))))
 refine cW Tryz.results47 (.cellB 0 Z Z Z A) (.tmp Z A)
theorem sx (B n:Nat) (F:Nat→Nat→Int) (hn:n≤8) (hF : ∀ i j,(F i j).natAbs≤B) (hD : ∀ k,k≤n→dZ B k≤2^400) (hB:B≤2^400):Ok Tryz.prog 19 [cF n n F] (aP (Lin.ct n F)):=by
 have h:=wA B n F hn hF hD hB
 unfold cF at *
 refine Ok.enter Tryz.func19 Z Tryz.ntmps19 Z (fun w O => ?_)
 refine ae (ai ?_)
 refine bm Z Z (ltN Z) (fun b1 => ?_)
 refine aD (T:=28) Z (ltN Z) (fun b2 => ?_)
 refine CJ (aa (ae (ai (CF (bB 1 Z Z) ?_))))
 refine CF (am (h) Z ⟨A,CK⟩) ?_
 refine CG Z (CF (az Z Z) (CF (az Z Z) ?_))
 refine aD (T:=28) Z (ltN Z) (fun b3 => ?_)
 refine au 0 Z Z Z Z Z (leN Z) Z (CH Z (CJ (aa (ae (ai (CF (ak 0 Z Z Z) (au 1 Z Z Z Z Z (leN Z) Z (CJ (aa ?_)))))))))
 refine aG ?_
 refine aQ Tryz.results19 (.cellB 1 Z Z Z A)
theorem sA:Ok Tryz.prog 48 [] (slT .one 15 (fun q=>one (.int .u64 (my.getD q 0:Nat)))):=by
 refine Ok.enter Tryz.func48 Z Tryz.ntmps48 Z (fun w O => ?_)
 refine ae (ai (CH Z (CJ (aa (ae (ai (stS Z Z Z Z (PartsK.cons Z (PartsK.cons Z ?_)))))))))
 refine PartsK.cons Z (PartsK.cons Z (PartsK.cons Z (PartsK.cons Z (PartsK.cons Z (PartsK.cons Z (PartsK.cons Z (PartsK.cons Z (PartsK.cons Z (PartsK.cons Z ?_)))))))))
 refine PartsK.cons Z (PartsK.cons Z (PartsK.cons Z (PartsK.nil (CH Z (CJ (aa (aG ?_)))))))
 refine aQ Tryz.results48 (.tmp Z (yZ))
theorem wB (n:Nat) (hn:n<256):Ok Tryz.prog 20 [one (.int .u8 (n:Nat))] (one (.int .u64 (my.getD (n % 15) 0:Nat))):=by
 have h:=sA
 have hlt:n % 15<15:=Nat.mod_lt _ U
 refine Ok.enter Tryz.func20 Z Tryz.ntmps20 Z (fun w O => ?_)
 refine ae (ai (CH Z (CJ (aa (ae (ai (CF (am (h) Z trivial) (CH Z (CJ ?_)))))))))
 refine aa (ae (ai (CG Z (CG Z (CF (db Z X X) (CG Z (CF (aW Z) (CF (ef 15 Z Z Z U) (CF (aE Z Z X) ?_)))))))))
 refine CF (aV Z) (CH Z (CJ (aa (aG ?_))))
 refine aQ Tryz.results20 (.tmp Z A)
theorem qw (l:List (Nat × Nat)) (hl:l.length≤1048576):Ok Tryz.prog 27 [eu l] (mw (fsL l)):=by
 unfold eu gr
 refine Ok.enter Tryz.func27 Z Tryz.ntmps27 Z (fun w O => ?_)
 refine ae (ai (CH Z (CJ (aa (ae (ai (mo (n:=0) Z Z Z Z Z ?_)))))))
 refine PartsK.nil (fun bl => ?_)
 refine CH Z (CJ (aa (ae (ae (ai (CH Z (CJ (aa (av ?_)))))))))
 refine ch (Γ' := [(0,_),(2,_),(3,_),(4,_)]) Cz (SubM.refl _) ?_
 refine bE (σ:=Nat × Option Nat × Nat) (Γk := [(0,_),(2,_)]) Cz (fun s => [(4,one (.int .i64 (s.1:Nat))),(3,one (slV s.2.1 s.1 s.2.2))]) (fun s M0=>(M0.set 0 (aN s.2.1 47 .one s.2.2 s.1 (fun q=>one (.int .u64 ((l.getD q (0,0)).1:Nat)))))) (fun s=>s.1≤l.length) (fun s=>l.length - s.1) ((0,some bl,0)) (Nat.zero_le _) CA (.keep (bW (fun q hq=>absurd hq (Nat.not_lt_zero _))) (.nil)) (fun s hs => ?_)
 refine bR (Γ' := [(4,_),(3,_),(0,_),(2,_)]) (M' := [_]) Z Z ?_
 obtain ⟨i,sv,cap⟩:=s
 dsimp only at hs ⊢
 by_cases hi:i<l.length
 ·refine ae (ae (ai (CG Z (CG Z (CF (aW Z) (CF (sT X (bq Z Z)) (CJ (aa (aI Z ?_)))))))))
  refine aw (aa (ae (av (ai (CG Z (CG Z (CG Z (CF (aE Z Z X) (CF (e8 Z Z) ?_)))))))))
  refine CF (aV Z) (jW Z Z Z Z ?_)
  (refine cX 0 Z Z Z (leN Z) ?_ ?_ Z (ltN Z) (fun sv19 cap19 => ?_);omega;omega)
  refine CH Z (CJ (aL (aa (ai (CG Z (CF (bQ _ 1 Z Z X) (CH Z (CJ ?_))))))))
  refine aR ((i+1,sv19,cap19)) (hi) X CA (.keep (Aw) (.nil))
 ·have he:i=l.length:=by omega
  subst he
  refine ae (ae (ai (CG Z (CG Z (CF (aW Z) (CF (sF X (bq Z Z)) (CJ (aa (aB Z ?_)))))))))
  refine a6 (ax (ax (aM (aa (ae (ai (CG Z (CH Z (CJ ?_)))))))))
  refine aa (aG (c4 (t:=2) (i:=0) Z Z ?_))
  refine aQ Tryz.results27 (.tmp Z (BZ))
end Tor
end
section
namespace Tor
open Go Go.RowKit Go.Proofs
theorem Cs:Sz 4 9:=⟨by decide,by decide +kernel,by decide +kernel⟩
theorem qx : ∀ p∈my,bg p=true:=by
 have h:(my.all fun p=>if p≤7 then bg p else nD p)=true:=by decide +kernel
 intro p hp
 have h1:=List.all_eq_true.1 h p hp
 by_cases h7:p≤7
 ·rwa [if_pos h7] at h1
 ·rw [if_neg h7] at h1;rw [nE X]; exact h1
theorem ez : ∀ p∈my,2≤p∧p<2147483648∧(p<65536∨2147479552≤p∨p=65537∨p=1000003):=by
 have h:(my.all fun p=>decide (2≤p∧p<2147483648∧(p<65536∨2147479552≤p∨p=65537∨p=1000003)))=true:=by decide
 intro p hp
 exact of_decide_eq_true (List.all_eq_true.1 h p hp)
theorem kx : ∀ p∈my,lf p:=fun p hp=>by
 have h1:=qx p hp
 obtain ⟨h2,h3,h4⟩:=ez p hp
 rcases h4 with h4 | h4 | h4 | h4
 ·rw [rK h4,iF] at h1;exact h1.2.2
 ·rw [oZ h4 h3,iF] at h1;exact h1.2.2
 ·subst h4;exact lg (k:=9) V U
 ·subst h4;exact lg (k:=10) V U
def sB (L:List Nat) (p:Nat):List Nat:=if p∈L then L else L ++ [p]
def wC (x:Int):Nat:=my.getD (x.toNat % 15) 0
def d8 (d:List Int) (i:Nat):List Nat:=(d.take i).foldl (fun L x=>sB L (wC x)) []
theorem sC (x:Int):wC x∈my:=by
 unfold wC
 have h:x.toNat % 15<my.length:=by show _<15;omega
 rw [show my.getD (x.toNat % 15) 0=my[x.toNat % 15] by simp [List.getD,h]]
 exact List.getElem_mem h
theorem n6 {d:List Int} {i:Nat} (h:i<d.length):d8 d (i+1)=sB (d8 d i) (wC (d.getD i 0)):=by
 unfold d8;rw [kf 0 h,List.foldl_append]; rfl
structure Kept (L:List Nat) (i:Nat):Prop where
 mem : ∀ p∈L,p∈my
 nd:L.Nodup
 len:L.length≤i
theorem Kept.step {L:List Nat} {i p:Nat} (h:Kept L i) (hp:p∈my):Kept (sB L p) (i+1):=by
 unfold sB
 split
 ·exact ⟨h.mem,h.nd,Nat.le_succ_of_le h.len⟩
 ·rename_i hn
  refine ⟨fun q hq => ?_,List.nodup_append.2 ⟨h.nd,by simp,fun a ha b hb e=>hn (by simp at hb;rw [← hb, ← e]; exact ha)⟩,by rw [List.length_append]; exact Nat.succ_le_succ h.len⟩
  rcases List.mem_append.1 hq with hq | hq
  ·exact h.mem q hq
  ·rw [List.mem_singleton.1 hq]; exact hp
theorem u5 (d:List Int) : ∀ i,i≤d.length→Kept (d8 d i) i
 | 0, _ => ⟨fun p hp => (by cases hp), List.nodup_nil, Nat.le_refl _⟩
 | i + 1, h => by rw [n6 h]; exact (u5 d i X).step (sC _)
def mp (n:Nat) (F:Nat→Nat→Int) (L:List Nat):List (Nat × Nat):=L.map fun p=>(p,fC n F p)
theorem tT {n:Nat} {F:Nat→Nat→Int} {L:List Nat} : (mp n F L).map (·.1)=L:=by
 unfold mp;rw [List.map_map]
 have:((fun x=>x.1) ∘ fun p=>(p,fC n F p))=(id:Nat→Nat):=rfl
 rw [this,List.map_id]
theorem u6 {n:Nat} {F:Nat→Nat→Int} {L:List Nat} {p:Nat} : mp n F (L ++ [p])=mp n F L ++ [(p,fC n F p)]:=by unfold mp;rw [List.map_append]; rfl
theorem qy {n:Nat} {F:Nat→Nat→Int} {L:List Nat} : (mp n F L).length=L.length:=List.length_map _
theorem qz {n:Nat} {F:Nat→Nat→Int} {L:List Nat} (h : ∀ p∈L,p∈my) : ∀ q∈mp n F L,AF q:=fun q hq=>by
 obtain ⟨p,hp,rfl⟩:=List.mem_map.1 hq
 obtain ⟨h1,h2,_⟩:=ez p (h p hp)
 exact ⟨h1,h2,kx p (h p hp),qk X⟩
theorem Cl {n:Nat} {F:Nat→Nat→Int} {L:List Nat} (h : ∀ p∈L,p∈my):ml (mp n F L):=fun q hq=>by
 obtain ⟨h1,h2,_,h4⟩:=qz h q hq
 omega
theorem Cm {n:Nat} {F:Nat→Nat→Int} {L:List Nat} (h : ∀ p∈L,p∈my) (q:Nat):((mp n F L).getD q (0,0)).1<2^63:=by
 rw [List.getD]
 cases hx:(mp n F L)[q]? with
 | none => simp
 | some x => simp; have := (qz h x (List.mem_of_getElem? hx)).2.1; omega
theorem u7 {n:Nat} {F:Nat→Nat→Int} {L:List Nat} {i:Nat} (h:Kept L i):PrimQ (mp n F L) :=
 se (fun x hx=>⟨qx x (h.mem x hx),Lin.Pr.of_trial (ez x (h.mem x hx)).1 (kx x (h.mem x hx)),(ez x (h.mem x hx)).2.1⟩) h.nd
theorem sD (x:Nat) (l:List Nat) : ∀ k,prN (k+1) (fun q=>(x :: l).getD q 0)=x*prN k (fun q=>l.getD q 0)
 | 0 => by simp [prN]
 | k + 1 => by rw [prN, sD x l k, prN, Nat.mul_assoc]; rfl
theorem n7 : ∀ l:List Nat,eW l l.length=jS l
 | [] => rfl
 | x :: l => by
  have h:=sD x l l.length
  have h2:=n7 l
  unfold eW at h2 ⊢
  rw [List.length_cons,h,h2]; rfl
theorem Ax {n b i:Nat} {F:Nat→Nat→Int} {L:List Nat} (h:Kept L i) (hb:(Lin.ct n F).natAbs≤b) (hq:(b:Int)+(b:Int)<(eW (fsL (mp n F L)) (fsL (mp n F L)).length:Int)):lc (mp n F L)=Lin.ct n F:=by
 refine (u7 h).is (fun q hq => ?_) ?_
 ·obtain ⟨p,hp,rfl⟩:=List.mem_map.1 hq
  exact uT (by have:=(ez p (h.mem p hp)).1;omega)
 ·have h2:ip (mp n F L)=1*jS L:=nX (fC n F) L 1
  rw [show fsL (mp n F L)=L from tT,n7] at hq
  rw [h2]; omega
theorem B1 {d:List Int} (h : ∀ x∈d,0≤x∧x≤255) {i:Nat} (hi:i<d.length):d.getD i 0=((d.getD i 0).toNat:Int)∧(d.getD i 0).toNat<256:=by
 have hm:d.getD i 0∈d:=by rw [show d.getD i 0=d[i] by simp [List.getD,hi]]; exact List.getElem_mem hi
 have:=h _ hm
 omega
end Tor
end
section
namespace Tor
open Go Go.RowKit Go.Proofs
attribute [local irreducible] J PJ aJ one slT bL bG bD exT cn eP aU aN slV VT.le Ret bS dI ej
attribute [local irreducible] aP fN cF
set_option maxRecDepth 100000 in
theorem n8 (r c:Nat) (l:List Int) (d:List Int) (hd8 : ∀ x∈d,0≤x∧x≤255):u1 Tryz.prog 4 [l7 r c l,iM .u8 d] (one (.bool true)):=by
 have hsq:=tS r c l
 have hr:r % 5≤4:=by omega
 generalize hF:(fun i j=>dig l (i*(r % 5)+j))=F at *
 have aF : ∀ i j,(F i j).natAbs≤9:=fun i j=>by rw [← hF]; exact Av _ _
 clear hF
 generalize r % 5=n at *
 have hsan:=ss
 have mF : ∀ i j,fZ (F i j):=fun i j=>Nat.le_trans (aF i j) V
 have hva:=sx 9 n F X aF (fun k hk=>by
  rcases (show k=0∨k=1∨k=2∨k=3∨k=4 by omega) with rfl | rfl | rfl | rfl | rfl <;> decide +kernel) V
 have hsm:=Cs.small hr aF
 have hL:=fun i (_:i<n)=>Sz.len hr (aF i)
 have hH:=ol n F (4*(9*9)+1) X mF U (Nat.lt_trans (Cs.pow hr) V) hL
 have hup:=qf n F
 have hb3:upN (prN n (fun i=>dn n (F i)))<2^300:=ma (Nat.lt_of_le_of_lt (nR hL n (Nat.le_refl n)) (Cs.pow hr))
 have hsrt:upN (prN n (iW n n F))=upN (prN n (fun i=>dn n (F i))):=by rw [nS]
 generalize upN (prN n (fun i=>dn n (F i)))=b at *
 have hbm:fZ (b:Int):=by show b≤_;exact Nat.le_of_lt (Nat.lt_trans hb3 V)
 have hCb:=fun (L:List Nat) (i:Nat) (h:Kept L i) (hi:L.length≤16) x hx e he=>jv n F (4*(9*9)+1) b (mp n F L) X mF U (Nat.lt_trans (Cs.pow hr) V) hL hsrt hbm (Cl h.mem) (by rw [qy]; exact hi) (u7 h).valid x hx e he
 have hEn:=fun (L:List Nat) (i:Nat) (h:Kept L i) (hi:L.length≤16)=>sh (fsL (mp n F L)) (b:Int) (fun q=>by rw [mP]; exact Cm h.mem q) (by rw [mO,qy]; omega) hbm
 have hPr:=fun (L:List Nat) (hi:L.length≤16)=>qw (mp n F L) (by rw [qy]; omega)
 have hRs:=fun (p:Nat) (hp:p∈my)=>kr p n F (qx p hp) (ez p hp).1 (ez p hp).2.1 (Pr.invP (Lin.Pr.of_trial (ez p hp).1 (kx p hp))) (fun i j=>cE (mF i j)) X
 have hRd : ∀ p,p∈my→Ok Tryz.prog 22 [one (.int .u64 p),aP (Lin.ct n F)] (one (.int .u64 ((fC n F p:Nat):Int))):=fun p hp=>rX p (Lin.ct n F) (by have:=(ez p hp).1;omega) (ez p hp).2.1 (oS (Nat.lt_trans (Cs.det hr aF) V))
 have hs1:=tR (Lin.ct n F)
 have hz:=dY 0
 rw [show fm 0=0 from rfl] at hz
 unfold l7 cF at *
 refine u1.enter Tryz.func4 Z Tryz.ntmps4 Z (fun w O => ?_)
 refine gY (t:=1) Z (fun _ _ h=>ei h) (fun hbound => ?_)
 refine ae (ai ?_)
 refine bm Z Z (ltN Z) (fun b2 => ?_)
 refine CH Z (CJ (aa (ae (ai (CF (am (hsan) Z trivial) (CH Z (CJ (aa (ae ?_)))))))))
 refine ai (CF (bB 0 Z Z) ?_)
 refine CF (am (hsq) Z ⟨A,CK⟩) ?_
 refine cv (T:=35) Z Z Z (fun b6 => ?_)
 refine bU 0 Z Z Z Z (CJ (aa (ae (ai (CF (bB 0 Z Z) ?_)))))
 refine CF (am (hva) Z ⟨A,CK⟩) ?_
 refine mo (n:=0) Z Z Z Z Z ?_
 refine PartsK.nil (fun bl => ?_)
 refine aD (T:=28) Z (ltN Z) (fun b7 => ?_)
 refine au 0 Z Z Z Z Z (leN Z) Z (CH Z (CJ (aa (ae (ae (ai (CH Z (CJ (aa ?_)))))))))
 refine av (mW (t:=8) (i:=1) Z Z (ch (Γ' := [(1,_),(4,_),(5,_),(6,_),(7,_),(8,_),(9,_)]) Cz (SubM.refl _) ?_))
 refine bE (σ:=Nat) (Γk := [(1,_),(5,_),(6,_),(7,_)]) Cz (fun i => [(9,one (.int .i64 (i:Nat))),(8,eu (mp n F (d8 d i)))]) (fun i M0=>M0) (fun i=>i≤d.length∧i≤12) (fun i=>d.length - i) (0) (⟨Nat.zero_le _,Nat.zero_le _⟩) (dR.cons Z A (dR.cons Z (ci Z (fun q hq=>absurd hq (Nat.not_lt_zero _))) dR.nil)) (.keep CE (.keep CE (.keep CE (.nil)))) (fun i hi => ?_)
 refine bR (Γ' := [(9,_),(8,_),(1,_),(5,_),(6,_),(7,_)]) (M' := [_,_,_]) Z Z ?_
 obtain ⟨hi,hi12⟩:=hi
 have hK:=u5 d i hi
 have hK16:(d8 d i).length≤16:=by have:=hK.len;omega
 by_cases hc:i<d.length∧i<12
 ·obtain ⟨hc1,hc2⟩:=hc
  obtain ⟨hx1,hx2⟩:=B1 hd8 hc1
  have hpm:=sC (d.getD i 0)
  have hMa:Ok Tryz.prog 20 [one (.int .u8 (d.getD i 0))] (one (.int .u64 (wC (d.getD i 0):Nat))):=by
   rw [hx1]; exact wB _ hx2
  have hsl:=n6 hc1
  have hKs:=hK.step hpm
  generalize wC (d.getD i 0)=p at *
  have hRs1:=(hRs p hpm).le (eL _) (mJ yU A)
  unfold gr at hRs1
  dsimp only at hRs1
  have hRd1:=hRd p hpm
  have hv:=Bg (mp n F (d8 d i) ++ [(p,fC n F p)]) (fun q hq=>by
   rw [← u6] at hq
   refine qz (fun x hx => ?_) q hq
   rcases List.mem_append.1 hx with hx | hx
   ·exact hK.mem x hx
   ·rw [List.mem_singleton.1 hx]; exact hpm)
  have hml:(mp n F (d8 d i)).length≤i:=by rw [qy]; exact hK.len
  clear hCb hEn hPr hRs hRd
  refine ae (ae (ai (CG Z (CG Z (CF (aW Z) (CF (sT X (bq Z Z)) (CG Z (CI (ab Z) (CI (sT X (bq Z Z)) ?_)))))))))
  refine CF (bp Z Z) (CJ (aa (aI Z (aw (aa (ae (av (ae (ai ?_)))))))))
  refine CG Z (CG Z (CF (aE Z Z X) (CF (aV Z) ?_)))
  refine CF (am (hMa) Z ⟨A,CK⟩) ?_
  refine CH Z (CJ (aa (ae (ai (CF (bB 1 Z Z) (CG Z ?_))))))
  refine CF (am (hRs1) Z ⟨A,A,CK⟩) ?_
  refine CG Z (CF (az Z Z) (CF (az Z Z) ?_))
  refine cv (T:=50) Z Z Z (fun b11 => ?_)
  refine bU 0 Z Z Z Z (CH Z (CJ (aa (ae (ae (bh 16 a8 Y U (CG Z (CF (sF X (eI Z Z)) (CG Z ?_)))))))))
  refine CI (aj Z) (CI (ak 0 Z Z Z) (CI (ab Z) (CI (sF X (eI Z Z)) (CF (bK Z Z) (CG Z (CI (aj Z) (CI (ak 0 Z Z Z) (CI (ab Z) (CI (ak 1 Z Z Z) ?_)))))))))
  refine CI (am (hRd1) Z ⟨A,A,CK⟩) ?_
  refine CI (sF X (eI Z Z)) (CF (bK Z Z) (CJ (CJ (aa (aB Z (aw (aa (ae (ai ?_)))))))))
  refine mo (n:=0) Z Z Z Z Z ?_
  refine PartsK.nil (fun bl => ?_)
  refine CG Z ?_
  (refine cX 0 Z Z Z (leN Z) ?_ ?_ Z (ltN Z) (fun sv63 cap63 => ?_);omega;omega)
  refine CH Z (CJ (aa (ae (ai (CG Z (CF (bB 1 Z Z) (jW Z Z Z Z ?_)))))))
  (refine cX 0 Z Z Z (leN Z) ?_ ?_ Z (ltN Z) (fun sv67 cap67 => ?_);omega;omega)
  refine CH Z (CJ (aa (ae (ai (CG Z (rD (t1:=68) (t2:=13) (j:=0) Z Z Z (gM (t:=68) (ψ:=eu (mp n F (d8 d i) ++ [(p,fC n F p)])) Z (oW Z) (gM (t:=13) (ψ:=eu (mp n F (d8 d i) ++ [(p,fC n F p)])) Z (oW Z) ?_))))))))
  have hnd:=Bh (out:=mp n F (d8 d i)) (by rw [tT]; exact hK.nd) (p,fC n F p)
  rw [tT] at hnd
  unfold sB at hsl
  by_cases hd:p∈d8 d i
  ·rw [if_pos hd] at hsl
   rw [decide_eq_false (fun h=>hnd.1 h hd)] at hv
   refine CF (am (hv) Z ⟨A,CK⟩) ?_
   refine CJ (aa (aB Z (aw (aL (aa (ai (CG Z (CF (bQ _ 1 Z Z X) (CH Z ?_)))))))))
   refine CJ ?_
   refine aR (i+1) (⟨hc1,hc2⟩) X (dR.cons Z A (dR.cons Z (by rw [hsl]; exact VT.le_refl _) (dR.cons Z A (dR.cons Z A (dR.cons Z A (dR.cons Z A dR.nil)))))) (.drop (.keep CE (.keep CE (.keep CE (.nil)))))
  ·rw [if_neg hd] at hsl
   rw [decide_eq_true (hnd.2 hd)] at hv
   refine CF (am (hv) Z ⟨A,CK⟩) ?_
   refine CJ (aa (aI Z (ai (CG Z (CH Z (CJ (aL (aa (ai ?_)))))))))
   refine CG Z (CF (bQ _ 1 Z Z X) (CH Z (CJ ?_)))
   refine aR (i+1) (⟨hc1,hc2⟩) X (dR.cons Z A (dR.cons Z (by rw [hsl,u6]; exact VT.le_refl _) (dR.cons Z A (dR.cons Z A (dR.cons Z A (dR.cons Z A dR.nil)))))) (.drop (.keep CE (.keep CE (.keep CE (.nil)))))
 ·have hT:(if (b:Int)+(b:Int)<(eW (fsL (mp n F (d8 d i))) (fsL (mp n F (d8 d i))).length:Int) then lc (mp n F (d8 d i)) else 0)=if (b:Int)+(b:Int)<(eW (fsL (mp n F (d8 d i))) (fsL (mp n F (d8 d i))).length:Int) then Lin.ct n F else 0:=by
   split
   ·rename_i h;exact Ax hK hup h
   ·rfl
  have hCb1:=hCb (d8 d i) i hK hK16 _ Z _ Z
  rw [hT] at hCb1
  have hEn1:=hEn (d8 d i) i hK hK16
  have hPr1:=hPr (d8 d i) hK16
  clear hCb hEn hPr hRs hRd hT
  by_cases h1:i<d.length
  ·have h2 : ¬ i<12:=fun h=>hc ⟨h1,h⟩
   by_cases hq:(b:Int)+(b:Int)<(eW (fsL (mp n F (d8 d i))) (fsL (mp n F (d8 d i))).length:Int)
   ·rw [if_pos hq,if_pos hq] at hCb1
    rw [decide_eq_true hq] at hEn1
    refine ae (ae (ai (CG Z (CG Z (CF (aW Z) (CF (sT X (bq Z Z)) (CG Z (CI (ab Z) (CI (sF X (bq Z Z)) ?_)))))))))
    refine CF (bp Z Z) (CJ (aa (aB Z (a6 (ax (ax (aM (aa (ae ?_)))))))))
    refine ai (CF (bB 1 Z Z) ?_)
    refine CF (am (hH) Z ⟨A,CK⟩) ?_
    refine CG Z (CF (az Z Z) (CF (az Z Z) ?_))
    refine aD (T:=28) Z (ltN Z) (fun b14 => ?_)
    refine au 0 Z Z Z Z Z (leN Z) Z (CH Z (CJ (aa (ae (ai (CF (bB 2 Z Z) (CG Z ?_)))))))
    refine CF (am (hCb1) Z ⟨A,A,CK⟩) ?_
    refine CG Z (CF (az Z Z) (CF (az Z Z) ?_))
    refine aD (T:=28) Z (ltN Z) (fun b16 => ?_)
    refine au 0 Z Z Z Z Z (leN Z) Z (CH Z (CJ (aa (ae (ae (bh 8 a8 Y U (CG Z (CF (sT X (cq Z Z)) (CG Z ?_)))))))))
    refine CI (ab Z) ?_
    refine CI (am (hPr1) Z ⟨A,CK⟩) ?_
    refine CI (ak 1 Z Z Z) ?_
    refine CI (am (hEn1) Z ⟨A,A,CK⟩) ?_
    refine CF (bp Z Z) (CJ (CJ (aa (aI Z (ae (ai (CG Z (CF (sT X (cq Z Z)) (CG Z ?_)))))))))
    refine CI (ak 0 Z Z Z) (CI (ak 2 Z Z Z) ?_)
    refine CI (am (hs1) Z ⟨A,A,CK⟩) ?_
    refine CF (bp Z Z) (CG Z (CI (ab Z) (CF (bp Z Z) (CH Z (CJ (aa (aG (aK ?_))))))))
    refine aQ Tryz.results4 (.tmp Z A)
   ·rw [if_neg hq,if_neg hq] at hCb1
    rw [decide_eq_false hq] at hEn1
    refine ae (ae (ai (CG Z (CG Z (CF (aW Z) (CF (sT X (bq Z Z)) (CG Z (CI (ab Z) (CI (sF X (bq Z Z)) ?_)))))))))
    refine CF (bp Z Z) (CJ (aa (aB Z (a6 (ax (ax (aM (aa (ae ?_)))))))))
    refine ai (CF (bB 1 Z Z) ?_)
    refine CF (am (hH) Z ⟨A,CK⟩) ?_
    refine CG Z (CF (az Z Z) (CF (az Z Z) ?_))
    refine aD (T:=28) Z (ltN Z) (fun b14 => ?_)
    refine au 0 Z Z Z Z Z (leN Z) Z (CH Z (CJ (aa (ae (ai (CF (bB 2 Z Z) (CG Z ?_)))))))
    refine CF (am (hCb1) Z ⟨A,A,CK⟩) ?_
    refine CG Z (CF (az Z Z) (CF (az Z Z) ?_))
    refine aD (T:=28) Z (ltN Z) (fun b16 => ?_)
    refine au 0 Z Z Z Z Z (leN Z) Z (CH Z (CJ (aa (ae (ae (bh 8 a8 Y U (CG Z (CF (sT X (cq Z Z)) (CG Z ?_)))))))))
    refine CI (ab Z) ?_
    refine CI (am (hPr1) Z ⟨A,CK⟩) ?_
    refine CI (ak 1 Z Z Z) ?_
    refine CI (am (hEn1) Z ⟨A,A,CK⟩) ?_
    refine CF (bp Z Z) (CJ (CJ (aa (aB Z (aw (aa (ae (ai (CG Z ?_)))))))))
    refine CF (sT X (cq Z Z)) (CG Z (CI (ak 0 Z Z Z) ?_))
    refine CI (am (hz) Z ⟨A,CK⟩) ?_
    refine CI (sT X (cq Z Z)) (CF (bp Z Z) (CG Z (CI (ab Z) (CF (bp Z Z) (CH Z (CJ (aa (aG ?_))))))))
    refine aQ Tryz.results4 (.tmp Z A)
  ·by_cases hq:(b:Int)+(b:Int)<(eW (fsL (mp n F (d8 d i))) (fsL (mp n F (d8 d i))).length:Int)
   ·rw [if_pos hq,if_pos hq] at hCb1
    rw [decide_eq_true hq] at hEn1
    refine ae (ae (ai (CG Z (CG Z (CF (aW Z) (CF (sF X (bq Z Z)) (CG Z (sn0 Z Z Z Z Z (sn0 Z Z Z Z Z ?_)))))))))
    refine CF (bK Z Z) (CJ (aa (aB Z (a6 (ax (ax (aM (aa (ae ?_)))))))))
    refine ai (CF (bB 1 Z Z) ?_)
    refine CF (am (hH) Z ⟨A,CK⟩) ?_
    refine CG Z (CF (az Z Z) (CF (az Z Z) ?_))
    refine aD (T:=28) Z (ltN Z) (fun b14 => ?_)
    refine au 0 Z Z Z Z Z (leN Z) Z (CH Z (CJ (aa (ae (ai (CF (bB 2 Z Z) (CG Z ?_)))))))
    refine CF (am (hCb1) Z ⟨A,A,CK⟩) ?_
    refine CG Z (CF (az Z Z) (CF (az Z Z) ?_))
    refine aD (T:=28) Z (ltN Z) (fun b16 => ?_)
    refine au 0 Z Z Z Z Z (leN Z) Z (CH Z (CJ (aa (ae (ae (bh 8 a8 Y U (CG Z (CF (sT X (cq Z Z)) (CG Z ?_)))))))))
    refine CI (ab Z) ?_
    refine CI (am (hPr1) Z ⟨A,CK⟩) ?_
    refine CI (ak 1 Z Z Z) ?_
    refine CI (am (hEn1) Z ⟨A,A,CK⟩) ?_
    refine CF (bp Z Z) (CJ (CJ (aa (aI Z (ae (ai (CG Z (CF (sT X (cq Z Z)) (CG Z ?_)))))))))
    refine CI (ak 0 Z Z Z) (CI (ak 2 Z Z Z) ?_)
    refine CI (am (hs1) Z ⟨A,A,CK⟩) ?_
    refine CF (bp Z Z) (CG Z (CI (ab Z) (CF (bp Z Z) (CH Z (CJ (aa (aG (aK ?_))))))))
    refine aQ Tryz.results4 (.tmp Z A)
   ·rw [if_neg hq,if_neg hq] at hCb1
    rw [decide_eq_false hq] at hEn1
    refine ae (ae (ai (CG Z (CG Z (CF (aW Z) (CF (sF X (bq Z Z)) (CG Z (sn0 Z Z Z Z Z (sn0 Z Z Z Z Z ?_)))))))))
    refine CF (bK Z Z) (CJ (aa (aB Z (a6 (ax (ax (aM (aa (ae ?_)))))))))
    refine ai (CF (bB 1 Z Z) ?_)
    refine CF (am (hH) Z ⟨A,CK⟩) ?_
    refine CG Z (CF (az Z Z) (CF (az Z Z) ?_))
    refine aD (T:=28) Z (ltN Z) (fun b14 => ?_)
    refine au 0 Z Z Z Z Z (leN Z) Z (CH Z (CJ (aa (ae (ai (CF (bB 2 Z Z) (CG Z ?_)))))))
    refine CF (am (hCb1) Z ⟨A,A,CK⟩) ?_
    refine CG Z (CF (az Z Z) (CF (az Z Z) ?_))
    refine aD (T:=28) Z (ltN Z) (fun b16 => ?_)
    refine au 0 Z Z Z Z Z (leN Z) Z (CH Z (CJ (aa (ae (ae (bh 8 a8 Y U (CG Z (CF (sT X (cq Z Z)) (CG Z ?_)))))))))
    refine CI (ab Z) ?_
    refine CI (am (hPr1) Z ⟨A,CK⟩) ?_
    refine CI (ak 1 Z Z Z) ?_
    refine CI (am (hEn1) Z ⟨A,A,CK⟩) ?_
    refine CF (bp Z Z) (CJ (CJ (aa (aB Z (aw (aa (ae (ai (CG Z ?_)))))))))
    refine CF (sT X (cq Z Z)) (CG Z (CI (ak 0 Z Z Z) ?_))
    refine CI (am (hz) Z ⟨A,CK⟩) ?_
    refine CI (sT X (cq Z Z)) (CF (bp Z Z) (CG Z (CI (ab Z) (CF (bp Z Z) (CH Z (CJ (aa (aG ?_))))))))
    refine aQ Tryz.results4 (.tmp Z A)
theorem mz {p0:Prop} (r c:Nat) (l:List Int) (d:List Int) (y0:p0) (y1:(∀ x∈d,IntKind.min .u8≤x∧x≤IntKind.max .u8)∧True):u1 Tryz.prog 4 [l7 r c l,iM .u8 d] (one (.bool true)) :=
 n8 r c l d (fun x hx=>by
  have h:=y1.1 x hx
  simp [IntKind.max,IntKind.min,IntKind.signed,IntKind.bits] at h
  omega)
end Tor
end
section
set_option maxRecDepth 100000
namespace Tor
open Go Go.RowKit Go.ChangeShapes Go.WideShapes Go.ChangeAt Go.Joins Go.Proofs
theorem B2 {H:Type} {enc:TypeId × Value→H} {W:World} {base:Nat} {v:Value} {d:DataW H} {ps:List MemPlace} (hval:Value.okWide Tryz.prog W .any base 24 v) (hT:DataW.Trod enc Tryz.prog W 0 (fun _=>true) true 24 v d ps) (hw : ∀ x∈DataW.weights Tryz.prog 24 d,x≤reachBytes) :
  ∃ (r:Nat) (c:Nat) (l:List Int),(l7 r c l).p v (view W)∧(r:Int)≤IntKind.max .u8∧(c:Int)≤IntKind.max .u8∧(∀ x∈l,IntKind.min .i8≤x∧x≤IntKind.max .i8)∧True:=by
 obtain ⟨cs,rfl,h⟩:=zc 8 (ts := [5,5,22]) Y (.inl ⟨_,Tryz.underlying24⟩) hval hT hw
 obtain ⟨c0,r0,rfl,h0,g0⟩:=h
 obtain ⟨c1,r1,rfl,h1,g1⟩:=g0
 obtain ⟨c2,r2,rfl,h2,g2⟩:=g1
 cases g2
 obtain ⟨r,rfl,b0⟩:=qU Tryz.underlying5 Z h0
 obtain ⟨c,rfl,b1⟩:=qU Tryz.underlying5 Z h1
 obtain ⟨l,k2,b2⟩:=oz Tryz.underlying22 Tryz.underlying65 Y (of_decide_eq_true Y) h2
 exact ⟨r,c,l,B6 (φs := [one (.int .u8 r),one (.int .u8 c),iM .i8 l]) ⟨rfl,rfl,⟨rfl,rfl,⟨k2,za k2,CK⟩⟩⟩,b0,b1,b2,CK⟩
theorem B3 {H:Type} {enc:TypeId × Value→H} {W:World} {base:Nat} {v:Value} {d:DataW H} {ps:List MemPlace} (hval:Value.okWide Tryz.prog W .any base 45 v) (hT:DataW.Trod enc Tryz.prog W 0 (fun _=>true) true 45 v d ps) (hw : ∀ x∈DataW.weights Tryz.prog 45 d,x≤reachBytes) :
  ∃ (d:List Int),(iM .u8 d).p v (view W)∧(∀ x∈d,IntKind.min .u8≤x∧x≤IntKind.max .u8)∧True:=by
 have h:=wZ (.inr (.inr ⟨_,Tryz.underlying45⟩)) hval hT hw
 obtain ⟨d,k0,b0⟩:=oz Tryz.underlying45 Tryz.underlying5 Y (of_decide_eq_true Y) h
 exact ⟨d,k0,b0,CK⟩
end Tor
namespace Go.Proofs.YtfaglimgjfhdfaaGreat
open Go.ChangeShapes Go.WideShapes Go.ChangeAt Go.RowKit Go.Joins Tor
end Go.Proofs.YtfaglimgjfhdfaaGreat
namespace Tor
end Tor
namespace Go.Proofs.YtfaglimgjfhdfaaGreat
open Go.ChangeShapes Go.WideShapes Go.ChangeAt Go.RowKit Go.Joins Tor
theorem detResidues_own:ownKnob Tryz.prog.godebug=none:=by kernel_rfl
theorem detResidues_laid:laidOutB Tryz.prog=true:=by kernel_rfl
set_option maxRecDepth 100000 in
theorem detResidues_lifted (os:Os) (started:os.Started) (H:Type) (enc:TypeId × Value→H) :
  ReturnsInLeavingWide {} Tryz.checked os 4 .any (Rows.detResiduesSpec.pre6 enc Tryz.prog Tryz.f4 Rows.detResiduesRow.domain false) (Rows.detResiduesSpec.post enc Tryz.prog Tryz.f4 false true false false):=by
 refine returnsInLeavingWide_of_change_sized (C:=Tryz.checked) detResidues_own started Tryz.func4
  (ChangeSpec.witness6 (enc:=enc) (C:=Tryz.checked) false ⟨#[], #[.agg #[.int .u8 0, .int .u8 0, .slice none 0 0], .slice none 0 0], []⟩ 8 Y Y Y Y) ?_
 intro W base args ds gs before hval0 hW hcnd hsz0 _
 have hval : ∀ (j:Nat) t v,Tryz.f4.params[j]? = some t→args[j]? = some v→Value.okWide Tryz.prog W .any base t v:=hval0
 have hsz:(DataW.weightsEach Tryz.prog (Tryz.f4.params.toList ++ Rows.detResiduesSpec.plain.varTypes Tryz.prog) (ds ++ gs)).all (· ≤ reachBytes)=true:=hsz0
 have hW':=hW
 obtain ⟨p,q,hA0,hV,rfl,hfz,hnd⟩:=hW
 have hA:DataW.TrodAll enc Tryz.prog W 0 (fun _=>true) true Tryz.f4.params.toList args.toList ds p:=hA0
 rw [Tryz.params4] at hA hval hsz
 obtain ⟨v0,v1,d0,d1,p0,p1,rfl,rfl,rfl,h0,h1⟩:=trodAll_two hA
 obtain ⟨rfl,rfl⟩:=trodVars_none hV
 obtain ⟨r_0,c_0,l_0,x0,y0⟩:=B2 (hval 0 24 _ Z Z) h0 (mh hsz 0 Z Z)
 obtain ⟨d_1,x1,y1⟩:=B3 (hval 1 45 _ Z Z) h1 (mh hsz 1 Z Z)
 obtain ⟨M,last,o,w'',t'',r1,r2,r3,r4⟩:=yV Co.detT_ok (args := #[v0,v1]) Y (mz r_0 c_0 l_0 d_1 y0 y1) (And.intro x0 (And.intro x1 (trivial)))
 refine ⟨M,last,o,w'',t'',r1,r2,r3,r4.mono fun v hv => ?_⟩
 obtain ⟨hv,hw⟩:=hv
 subst hv
 refine ⟨_, [],_, [],_, [],hW',trodAll_mk1 (shut_bool Tryz.underlying4 true),trodAll_mk2
  (Below.trod detResidues_laid Y (of_decide_eq_true Y) h0 hw (fun x hx=>by simpa using hW'.lt x (by simp only [List.mem_append] at hx ⊢; simp [hx])))
  (Below.trod detResidues_laid Y (of_decide_eq_true Y) h1 hw (fun x hx=>by simpa using hW'.lt x (by simp only [List.mem_append] at hx ⊢; simp [hx]))),rfl,hw.frame _,fun h=>by cases h⟩
theorem detResidues_holds:Rows.DetResiduesSaid :=
 OpenClaim.holds_of_wide_leaving 4 Tryz.f4 Z Z Z Z Z Z Z ⟨rfl,rfl,rfl,rfl,rfl⟩ Z Z Z Z Z Y Tryz.func4 Y
  (of_decide_eq_true Y) (by unfold Func.isWrapper;first | (rw [if_pos V]; kernel_rfl) | (rw [if_neg V]; exact ⟨rfl,rfl⟩))
  (fun os started H enc _=>detResidues_lifted os started H enc)
end Go.Proofs.YtfaglimgjfhdfaaGreat
namespace Tor
end Tor
end
