/-
  Theorems that the proofs of laws of this seat rest on.
  No condition.
-/
import Derived.Test.YtpnkmoojhbjdfaaGreatLB4
import Init
set_option maxHeartbeats 16000000
set_option linter.unusedVariables false
set_option linter.unusedSimpArgs false
section
namespace Tor
open Go Go.RowKit Go.Proofs
def e7 (F:Nat→Nat→Int) (i j:Nat):Nat→Nat→Int:=fun q k=>if q<i∨(q=i∧k<j) then F q k else 0
theorem qt {T:TypeId} {c:Nat} {bs:List Nat} {F:Nat→Nat→Int} {i j:Nat} (x:Int) (hx:x=F i j) :
  Own.le (c8 T (.agg 2) c bs (dT (fun q k=>aO (e7 F i j q k)) i j (aO x))) (c8 T (.agg 2) c bs (fun q k=>aO (e7 F i (j+1) q k))):=by
 subst hx
 refine gA fun q k hq hk => ?_
 unfold dT e7
 by_cases h:q=i∧k=j
 ·obtain ⟨rfl,rfl⟩:=h;simp
 ·rw [if_neg h]
  have e:(q<i∨q=i∧k<j+1)↔(q<i∨q=i∧k<j):=by omega
  simp only [e]
theorem lK {c:Nat} {bs:List Nat} {F:Nat→Nat→Int} {i:Nat} : Own.le (ew c bs (e7 F i c)) (ew c bs (e7 F (i+1) 0)):=by
 refine e6 fun q k hq hk => ?_
 unfold e7
 have e:(q<i∨q=i∧k<c)↔(q<i+1∨q=i+1∧k<0):=by omega
 simp only [e]
attribute [local irreducible] J PJ aP one slT cv bA bM exT cq eP aW aU slV VT.le Ret bO
attribute [local irreducible] aO c8
end Tor
end
section
namespace Tor
open Go Go.RowKit Go.Proofs
attribute [local irreducible] J PJ aP one slT cv bA bM exT cq eP aW aU slV VT.le Ret bO
theorem sX (ra ca:Nat) (F:Nat→Nat→Int) (rb cb:Nat) (G:Nat→Nat→Int) (h1:ra≤1048576) (h2:ca≤1048576) (h4:cb≤1048576) (hF : ∀ i j,dA (F i j)) (hG : ∀ i j,dA (G i j)) :
  Ok Tryz.prog 70 [bG ra ca F,bG rb cb G] (qs (decide (ca=rb)) 50 ra cb (gD ca F G)):=by
 unfold qs
 refine Ok.enterD Tryz.func70 Z Tryz.ntmps70 Z (fun w O => ?_)
 unfold bG
 refine ae (aj ?_)
 refine aM Z Z (ltN Z) (fun b => ?_)
 refine aM Z Z (ltN Z) (fun b => ?_)
 refine aF (T:=28) Z Z Z (fun b => ?_)
 refine Ea Z (Ec (aa (ae (aj (vl Z (Ec (aa (ae (ae ?_)))))))))
 refine aj (DY (ay 2 Z Z) (DY (ay 1 Z Z) (stS Z Z Z Z (PartsK.cons Z (PartsK.cons Z (PartsK.nil ?_))))))
 refine DY (am (qr ra ca F rb cb G) Z ⟨oY,Ed⟩) ?_
 refine DY (bF Z) (DZ Z (Eb (ah Z) (Eb (ak 2 Z Z Z) (Eb (ah Z) (Eb (ak 1 Z Z Z) (Eb (cE Z Z) (DY (a6 Z Z) (Ec (aa ?_)))))))))
 rename_i ba bb
 refine a4 Z (fun hc => ?_) (fun hc => ?_) <;> simp only [decide_eq_true_eq,decide_eq_false_iff_not,ne_eq,Decidable.not_not] at hc
 ·have hne : ¬ ca=rb:=by omega
  refine ae (aj (stB Z Z Z (BuildK.nil (aH 0 Z Z Z Z (Ea Z (Ec (aa (aD (aI ?_)))))))))
  refine qW (fw Tryz.results70 (.cellW 0 Z Z ?_) (.tmp Z (ao ?_)))
  ·rw [decide_eq_false hne]; exact o4 _
  ·rw [decide_eq_false hne]; rfl
 ·have he:ca=rb:=by omega
  subst he
  refine av (aa (ae ?_))
  refine BQ aS X X (fun a1 w1 hS1 => ?_)
  refine ux (fun B=>ah Z) Z Z ?_
  refine ux (fun B=>ak 2 Z Z Z) Z Z ?_
  refine ux (fun B=>ah Z) Z Z ?_
  refine ux (fun B=>ak 1 Z Z Z) Z Z ?_
  refine ux (fun B=>ah Z) Z Z ?_
  refine ux (fun B=>ak 2 Z Z Z) Z Z ?_
  refine ux (fun B=>qX w1.heap.size ra Z Z Z Z Z Z Z ?_) Z Z ?_
  ·omega
  refine uB Z Z Z (BuildK.cons Z Z Z (BuildK.cons Z Z Z (BuildK.cons Z Z Z (BuildK.nil (ua Z (us Z ?_))))))
  refine .nil (fun γ a2 w2 hS2 hx hk2 => ?_)
  obtain ⟨b2,hS3⟩:=ug (t:=6) (b:=γ 6) (T:=28) (m:=3) (k:=2) (n:=ra) (cs1 := [(0, .one,one (.int .i64 ra)),(1, .one,one (.int .i64 cb))])
   (Γk := [(2,one (.pointer (some ⟨ba,0,none⟩))),(3,one (.pointer (some ⟨bb,0,none⟩))),(4,one (.pointer (some ⟨b,0,none⟩)))])
   hS1 Z hS2 hx hk2 (.cons Z X (.cons Z X (.cons Z X .nil))) Z Z (fun q hq=>by
    rcases List.mem_cons.1 hq with rfl | hq
    ·exact ⟨_,rfl,rfl⟩
    rcases List.mem_cons.1 hq with rfl | hq
    ·exact ⟨_,rfl,rfl⟩
    cases hq)
  generalize γ 6=b6 at hS3
  refine BS ?_ hS3
  clear hS3 hS2 hx hk2 hS1
  refine aa (ae (ae (aj (DY (ah Z) (DY (ak 4 Z Z Z) (DY (aZ Z) (DZ Z (Ec (aa ?_)))))))))
  refine ar ?_
  refine cC (σ:=Nat) (fun i => [(3,one (.pointer (some ⟨bb,0,none⟩))),(4,one (.pointer (some ⟨b,0,none⟩))),(6,one (.pointer (some ⟨b6,0,none⟩))),(31,slT .one ra (fun i=>cu ca (F i))),(32,one (.int .i64 ra)),(33,one (.int .i64 (i:Nat)))])
   (fun i => [aW b6 28 3 [(2, .one,one (slV (some b2) ra ra)),(0, .one,one (.int .i64 ra)),(1, .one,one (.int .i64 cb))],aU (some b2) 50 .one ra ra (fun q=>if q<i then cu cb (gD ca F G q) else bO),
    aW b 28 3 (dt #[Value.int IntKind.i64 0,Value.int IntKind.i64 0,Value.slice none 0 0] [(0,Lay.one),(1,Lay.one),(2,Lay.one)]),
    aW bb 28 3 [(0, .one,one (.int .i64 ca)),(1, .one,one (.int .i64 cb)),(2, .one,slT .one ca fun i=>cu cb (G i))]])
   (fun i=>i≤ra) (fun i=>ra - i) 0 (Nat.zero_le _) DV (.keep DX (.keep (gW fun q hq=>by rw [if_neg Y]; exact ri _) (.keep DX (.keep DX (.drop .nil))))) (fun i hi => ?_)
  refine ae (aj (DY (a7 Z Z) (Ec (aa (ae ?_)))))
  refine a4 Z (fun hc => ?_) (fun hc => ?_) <;> simp only [decide_eq_true_eq,decide_eq_false_iff_not,Int.ofNat_lt] at hc
  ·refine av (aa (ae (ar (ae (aj (DZ Z ?_))))))
   (refine DY (ax Z Z ?_) ?_;omega)
   refine DY (aJ Z) (Ea Z (Ea Z (Ec (aa (aT 7 aS X S (DY (ah Z) (DY (ak 0 Z Z Z) (DZ Z (DZ Z ?_)))))))))
   refine DY (ay 3 Z Z) ?_
   refine DY (am (uq ca cb (F i) G h2 h4 (hF i) hG) Z ⟨H,H,Ed⟩) ?_
   have hfl:Flat (cu cb fun j=>cS ca fun k=>F i k*G k j) .one:=by unfold cu;infer_instance
   (refine DY (an Z Z ?_) ?_;omega)
   refine Ec ?_
   (refine aA 1 Z Z Z ?_ Z ?_;omega)
   refine Ec (aB (aa (aj ?_)))
   (refine DY (ck Z Z (aR ?_ ?_)) ?_;omega;omega)
   refine DZ Z (Ec ?_)
   refine bK (s:=i) (i+1) (show _ from by omega) (by show ra - (i+1)<ra - i;omega) DV (.keep DX (.keep (bQ fun q hq => ?_) (SubM.refl _)))
   unfold upd
   by_cases h:q=i
   ·subst h;rw [if_pos Z,if_pos Y]; rfl
   ·rw [if_neg h]
    have e:q<i+1↔q<i:=by omega
    simp only [e]
  ·have hin:i=ra:=by omega
   subst hin
   refine aY (aw (aw (aE (aa (ae (aj (DY (ay 0 Z Z) (aH 2 Z Z Z Z (Ea Z ?_)))))))))
   refine Ec (aa (aD ?_))
   have hperm : ∀ (x y z u:Own), [x,y,z,u].Perm ([y] ++ [x,z,u]):=fun x y z u=>List.Perm.swap y x _
   refine fD [aU (some b2) 50 .one i i (fun q=>if q<i then cu cb (gD ca F G q) else bO)] (hperm _ _ _ _) (.keep (zY.refl _) (.keep (zY.box (cs' := [(0, .one,one (.int .i64 i)),(1, .one,one (.int .i64 cb)),(2, .one,slT .one i (fun q=>cu cb (gD ca F G q)))]) (.cons (by simp) (Ent.refl _) (.cons (by simp) (Ent.refl _) (.cons List.mem_cons_self (Ent.slE List.mem_cons_self (fun q hq=>Ent.le (by rw [if_pos hq]; exact VT.le_refl _))) .nil)))) (.keep (zY.refl _) .nil))) (xD.refl _) ?_
   refine qW (fw Tryz.results70 (.cellW 1 Z Z ?_) (.tmp Z (ao ?_)))
   ·simp only [decide_true,if_true]
    exact VT.le_refl _
   ·simp
end Tor
end
section
namespace Tor
open Go Go.RowKit Go.Proofs
attribute [local irreducible] J PJ aP one slT cv bA bM exT cq eP aW aU slV VT.le Ret bO
attribute [local irreducible] aO c8
theorem ns (r c:Nat) (F:Nat→Nat→Int) (k:Int) (hr0:r≤1048576) (hc0:c≤1048576) (hF : ∀ i j,bJ (F i j)) (hk:bJ k):Ok Tryz.prog 37 [bG r c F,aO k] (bG r c (fun i j=>F i j*k)):=by
 unfold bG
 refine Ok.enter Tryz.func37 Z Tryz.ntmps37 Z (fun w O => ?_)
 refine ae (aj ?_)
 refine aM Z Z (ltN Z) (fun b => ?_)
 refine lW Z Z (ltN Z) (fun b => ?_)
 refine aF (T:=28) Z Z Z (fun b => ?_)
 refine Ec (aa (ae (aj (DY (ah Z) (DY (ak 2 Z Z Z) (DY (ah Z) (DY (ak 2 Z Z Z) ?_)))))))
 refine di (jF r c hr0 hc0) Z ⟨H,H,Ed⟩ Z Z (fun s => ?_)
 obtain ⟨⟨bs,sv1,cap1⟩,hlen,hsv⟩:=s
 simp only at hlen hsv
 unfold jE
 refine aF (T:=28) Z Z Z (fun b => ?_)
 refine aH 0 Z Z Z Z (Ec (aa (ae (ae (aj (Ea Z (Ec (aa (ar ?_)))))))))
 rename_i b2 b3 b4
 refine cC (σ:=Nat) (fun i => [(2,one (.pointer (some ⟨b2,0,none⟩))),(3,one (.pointer (some ⟨b3,0,none⟩))),(4,one (.pointer (some ⟨b4,0,none⟩))),(5,one (.pointer (some ⟨b,0,none⟩))),(6,one (.int .i64 (i:Nat)))])
  (fun i => [aW b 28 3 [(0, .one,one (.int .i64 r)),(1, .one,one (.int .i64 c)),(2, .one,one (slV sv1 r cap1))],fC sv1 cap1 r c bs,ew c bs (e7 (fun i j=>F i j*k) i 0),
   aW b4 28 3 (dt #[Value.int IntKind.i64 0,Value.int IntKind.i64 0,Value.slice none 0 0] [(0,Lay.one),(1,Lay.one),(2,Lay.one)]),
   aW b3 43 2 [(0, .agg 2,aO k)],
   aW b2 28 3 [(0, .one,one (.int .i64 r)),(1, .one,one (.int .i64 c)),(2, .one,slT .one r (fun i=>cu c (F i)))]])
  (fun i=>i≤r) (fun i=>r - i) 0 (Nat.zero_le _) DV (.keep DX (.keep DX (.keep (e6 fun i j hi hj=>by simp [e7]) (SubM.refl _)))) (fun i hi => ?_)
 refine ae (ae (aj (DZ Z (DY (ah Z) (DY (ak 5 Z Z Z) (DY (a7 Z Z) (Ec (aa ?_))))))))
 refine a4 Z (fun hc => ?_) (fun hc => ?_) <;> simp only [decide_eq_true_eq,decide_eq_false_iff_not,Int.ofNat_lt] at hc
 ·obtain ⟨bo,rfl⟩:=eG hsv Y
  refine av (aa (ae (ar (ae (aj (Ea Z (Ec (aa (ar ?_)))))))))
  refine cC (σ:=Nat) (fun j => [(2,one (.pointer (some ⟨b2,0,none⟩))),(3,one (.pointer (some ⟨b3,0,none⟩))),(4,one (.pointer (some ⟨b4,0,none⟩))),(5,one (.pointer (some ⟨b,0,none⟩))),(6,one (.int .i64 (i:Nat))),(7,one (.int .i64 (j:Nat)))])
   (fun j => [aW b 28 3 [(0, .one,one (.int .i64 r)),(1, .one,one (.int .i64 c)),(2, .one,one (slV (some bo) r cap1))],fC (some bo) cap1 r c bs,ew c bs (e7 (fun i j=>F i j*k) i j),
   aW b4 28 3 (dt #[Value.int IntKind.i64 0,Value.int IntKind.i64 0,Value.slice none 0 0] [(0,Lay.one),(1,Lay.one),(2,Lay.one)]),
   aW b3 43 2 [(0, .agg 2,aO k)],
   aW b2 28 3 [(0, .one,one (.int .i64 r)),(1, .one,one (.int .i64 c)),(2, .one,slT .one r (fun i=>cu c (F i)))]])
   (fun j=>j≤c) (fun j=>c - j) 0 (Nat.zero_le _) DV (SubM.refl _) (fun j hj => ?_)
  refine ae (ae (aj (DZ Z (DY (ah Z) (DY (ak 5 Z Z Z) (DY (a7 Z Z) (Ec (aa ?_))))))))
  refine a4 Z (fun hc2 => ?_) (fun hc2 => ?_) <;> simp only [decide_eq_true_eq,decide_eq_false_iff_not,Int.ofNat_lt] at hc2
  ·refine av (aa (ae (ar (aT 17 aS X S ?_))))
   unfold cu
   refine DY (ah Z) (DY (ak 0 Z Z Z) (DZ Z ?_))
   (refine DY (an Z Z ?_) ?_;omega)
   (refine DY (bk 1 Z Z ?_) ?_;omega)
   refine DZ Z (DY (ah Z) (DY (ak 5 Z Z Z) (DZ Z ?_)))
   (refine DY (ax Z Z ?_) ?_;omega)
   refine DY (aJ Z) (DZ Z ?_)
   (refine DY (ax Z Z ?_) ?_;omega)
   refine DY (aJ Z) (DY (ak 4 Z Z Z) ?_)
   refine DY (am (dR (F i j) k (hF i j) hk) Z ⟨H,H,Ed⟩) ?_
   (refine DY (an Z Z ?_) ?_;omega)
   refine Ec ?_
   (refine fW 2 Z Z Z (nT ?_) ?_ Z ?_;omega;omega)
   refine Ec (aB (aa (aj (DZ Z ?_))))
   (refine DY (ck Z Z (aR ?_ ?_)) ?_;omega;omega)
   refine Ea Z (Ec ?_)
   exact bK (s:=j) (j+1) (show _ from by omega) (by show c - (j+1)<c - j;omega) DV (.keep DX (.keep DX (.keep (qt _ Z) (SubM.refl _))))
  ·have hjm:j=c:=by omega
   subst hjm
   refine aY (aw (aw (aE (aB (aa (aj (DZ Z ?_)))))))
   (refine DY (ck Z Z (aR ?_ ?_)) ?_;omega;omega)
   refine Ea Z (Ec ?_)
   exact bK (s:=i) (i+1) (show _ from by omega) (by show r - (i+1)<r - i;omega) DV (.keep DX (.keep DX (.keep lK (SubM.refl _))))
 ·have hin:i=r:=by omega
  subst hin
  refine aY (aw (aw (aE (aa (ae (aj (DY (ay 0 Z Z) (aH 3 Z Z Z Z (Ec ?_)))))))))
  refine aa (aD ?_)
  have hperm : ∀ (x y z u t s:Own), [x,y,z,u,t,s].Perm ([y,z] ++ [x,u,t,s]):=fun x y z u t s=>(List.Perm.swap y x _).trans (List.Perm.cons y (List.Perm.swap z x _))
  refine fD [fC sv1 cap1 i c bs,ew c bs (e7 (fun i j=>F i j*k) i 0)] (hperm _ _ _ _ _ _) (.keep (zY.refl _) (.keep (zY.box (eR hlen ⟨by simp,by simp,by simp⟩)) (.keep (zY.refl _) (.keep (zY.refl _) .nil)))) (xD.refl _) ?_
  refine aK Tryz.results37 (.cellW 1 Z Z ?_)
  exact g8 fun a b ha hb=>by simp [e7,ha]
end Tor
end
section
namespace Tor
open Go Go.RowKit Go.Proofs
def lk (F:Nat→Nat→Int) (i j:Nat) (x:Int):Nat→Nat→Int:=fun q k=>if q<i∨(q=i∧k<j) then F q k else if q=i∧k=j then x else 0
theorem ur (F:Nat→Nat→Int) (i j:Nat):lk F i j 0=e7 F i j:=by
 funext q k;unfold lk e7;split
 ·rfl
 ·split <;> rfl
theorem ut (F:Nat→Nat→Int) (i j:Nat):lk F i j (F i j)=e7 F i (j+1):=by
 funext q k;unfold lk e7
 by_cases h:q<i∨q=i∧k<j
 ·rw [if_pos h,if_pos Y]
 ·rw [if_neg h]
  by_cases h2:q=i∧k=j
  ·obtain ⟨rfl,rfl⟩:=h2;rw [if_pos ⟨rfl,rfl⟩,if_pos Y]
  ·rw [if_neg h2,if_neg Y]
theorem yk (F:Nat→Nat→Int) (i j:Nat) (x:Int):lk F i j x i j=x:=by
 unfold lk;rw [if_neg Y,if_pos ⟨rfl,rfl⟩]
theorem wV {T:TypeId} {c:Nat} {bs:List Nat} {F:Nat→Nat→Int} {i j:Nat} (x y:Int) :
  Own.le (c8 T (.agg 2) c bs (dT (fun q k=>aO (lk F i j x q k)) i j (aO y))) (c8 T (.agg 2) c bs (fun q k=>aO (lk F i j y q k))):=by
 refine gA fun q k hq hk => ?_
 unfold dT lk
 by_cases h:q=i∧k=j
 ·obtain ⟨rfl,rfl⟩:=h
  rw [if_pos ⟨rfl,rfl⟩,if_neg Y,if_pos ⟨rfl,rfl⟩]
 ·simp only [if_neg h]
attribute [local irreducible] J PJ aP one slT cv bA bM exT cq eP aW aU slV VT.le Ret bO
attribute [local irreducible] aO c8
theorem wW (ra ca:Nat) (F:Nat→Nat→Int) (rb cb:Nat) (G:Nat→Nat→Int) (hr0:ra≤1048576) (hc0:ca≤1048576) (hd0:cb≤1048576) (hF : ∀ i j,dA (F i j)) (hG : ∀ i j,dA (G i j)) :
  Ok Tryz.prog 104 [bG ra ca F,bG rb cb G] (qs (decide (ca=rb)) 50 ra cb (gD ca F G)):=by
 unfold qs bG
 refine Ok.enter Tryz.func104 Z Tryz.ntmps104 Z (fun w O => ?_)
 refine ae (aj ?_)
 refine aM Z Z (ltN Z) (fun b => ?_)
 refine aM Z Z (ltN Z) (fun b => ?_)
 refine aF (T:=28) Z Z Z (fun b => ?_)
 refine Ea Z (Ec (aa (ae (ae (aj (DY (ah Z) (DY (ak 2 Z Z Z) (DY (ah Z) (DY (ak 1 Z Z Z) ?_)))))))))
 refine DY (cE Z Z) (Ec (aa ?_))
 refine a4 Z (fun hc => ?_) (fun hc => ?_) <;> simp only [decide_eq_true_eq,decide_eq_false_iff_not,ne_eq,Decidable.not_not] at hc
 ·have hne : ¬ ca=rb:=by omega
  refine ae (aj (stB Z Z Z (BuildK.nil (aH 0 Z Z Z Z (Ea Z (Ec (aa (aD (aI ?_)))))))))
  refine fw Tryz.results104 (.cellW 0 Z Z ?_) (.tmp Z (ao ?_))
  ·rw [decide_eq_false hne]; exact o4 _
  ·rw [decide_eq_false hne]; rfl
 ·have e2:ca=rb:=by omega
  subst e2
  refine av (aa (ae (aj (DY (ah Z) (DY (ak 2 Z Z Z) (DY (ah Z) (DY (ak 1 Z Z Z) ?_)))))))
  refine di (jF ra cb hr0 hd0) Z ⟨H,H,Ed⟩ Z Z (fun s => ?_)
  obtain ⟨⟨bs,sv1,cap1⟩,hlen,hsv⟩:=s
  simp only at hlen hsv
  unfold jE
  refine aF (T:=28) Z Z Z (fun b => ?_)
  refine aH 0 Z Z Z Z (Ec (aa (ae (ae (aj (Ea Z (Ec (aa (ar ?_)))))))))
  rename_i b2 b3 b4
  refine cC (σ:=Nat) (fun i => [(2,one (.pointer (some ⟨b2,0,none⟩))),(3,one (.pointer (some ⟨b3,0,none⟩))),(4,one (.pointer (some ⟨b4,0,none⟩))),(6,one (.pointer (some ⟨b,0,none⟩))),(7,one (.int .i64 (i:Nat)))])
   (fun i => [aW b 28 3 [(0, .one,one (.int .i64 ra)),(1, .one,one (.int .i64 cb)),(2, .one,one (slV sv1 ra cap1))],fC sv1 cap1 ra cb bs,ew cb bs (e7 (gD ca F G) i 0),aW b4 28 3 (dt #[Value.int IntKind.i64 0,Value.int IntKind.i64 0,Value.slice none 0 0] [(0,Lay.one),(1,Lay.one),(2,Lay.one)]),aW b3 28 3 [(0, .one,one (.int .i64 ca)),(1, .one,one (.int .i64 cb)),(2, .one,slT .one ca (fun i=>cu cb (G i)))],aW b2 28 3 [(0, .one,one (.int .i64 ra)),(1, .one,one (.int .i64 ca)),(2, .one,slT .one ra (fun i=>cu ca (F i)))]])
   (fun i=>i≤ra) (fun i=>ra - i) 0 (Nat.zero_le _) DV (.keep DX (.keep DX (.keep (e6 fun i j hi hj=>by simp [e7]) (SubM.refl _)))) (fun i hi => ?_)
  refine ae (ae (aj (DZ Z (DY (ah Z) (DY (ak 5 Z Z Z) (DY (a7 Z Z) (Ec (aa ?_))))))))
  refine a4 Z (fun hc => ?_) (fun hc => ?_) <;> simp only [decide_eq_true_eq,decide_eq_false_iff_not,Int.ofNat_lt] at hc
  ·obtain ⟨bo,rfl⟩:=eG hsv Y
   refine av (aa (ae (ar (ae (aj (Ea Z (Ec (aa (ar ?_)))))))))
   refine cC (σ:=Nat) (fun j => [(2,one (.pointer (some ⟨b2,0,none⟩))),(3,one (.pointer (some ⟨b3,0,none⟩))),(4,one (.pointer (some ⟨b4,0,none⟩))),(6,one (.pointer (some ⟨b,0,none⟩))),(7,one (.int .i64 (i:Nat))),(8,one (.int .i64 (j:Nat)))])
    (fun j => [aW b 28 3 [(0, .one,one (.int .i64 ra)),(1, .one,one (.int .i64 cb)),(2, .one,one (slV (some bo) ra cap1))],fC (some bo) cap1 ra cb bs,ew cb bs (e7 (gD ca F G) i j),aW b4 28 3 (dt #[Value.int IntKind.i64 0,Value.int IntKind.i64 0,Value.slice none 0 0] [(0,Lay.one),(1,Lay.one),(2,Lay.one)]),aW b3 28 3 [(0, .one,one (.int .i64 ca)),(1, .one,one (.int .i64 cb)),(2, .one,slT .one ca (fun i=>cu cb (G i)))],aW b2 28 3 [(0, .one,one (.int .i64 ra)),(1, .one,one (.int .i64 ca)),(2, .one,slT .one ra (fun i=>cu ca (F i)))]])
    (fun j=>j≤cb) (fun j=>cb - j) 0 (Nat.zero_le _) DV (SubM.refl _) (fun j hj => ?_)
   refine ae (ae (aj (DZ Z (DY (ah Z) (DY (ak 4 Z Z Z) (DY (a7 Z Z) (Ec (aa ?_))))))))
   refine a4 Z (fun hc2 => ?_) (fun hc2 => ?_) <;> simp only [decide_eq_true_eq,decide_eq_false_iff_not,Int.ofNat_lt] at hc2
   ·refine av (aa (ae (ar (ae (aj (Ea Z (Ec (aa (ar ?_)))))))))
    refine cC (σ:=Nat) (fun k => [(2,one (.pointer (some ⟨b2,0,none⟩))),(3,one (.pointer (some ⟨b3,0,none⟩))),(4,one (.pointer (some ⟨b4,0,none⟩))),(6,one (.pointer (some ⟨b,0,none⟩))),(7,one (.int .i64 (i:Nat))),(8,one (.int .i64 (j:Nat))),(9,one (.int .i64 (k:Nat)))])
     (fun k => [aW b 28 3 [(0, .one,one (.int .i64 ra)),(1, .one,one (.int .i64 cb)),(2, .one,one (slV (some bo) ra cap1))],fC (some bo) cap1 ra cb bs,ew cb bs (lk (gD ca F G) i j (cS k (fun k=>F i k*G k j))),aW b4 28 3 (dt #[Value.int IntKind.i64 0,Value.int IntKind.i64 0,Value.slice none 0 0] [(0,Lay.one),(1,Lay.one),(2,Lay.one)]),aW b3 28 3 [(0, .one,one (.int .i64 ca)),(1, .one,one (.int .i64 cb)),(2, .one,slT .one ca (fun i=>cu cb (G i)))],aW b2 28 3 [(0, .one,one (.int .i64 ra)),(1, .one,one (.int .i64 ca)),(2, .one,slT .one ra (fun i=>cu ca (F i)))]])
     (fun k=>k≤ca) (fun k=>ca - k) 0 (Nat.zero_le _) DV (.keep DX (.keep DX (.keep (by rw [show cS 0 (fun k=>F i k*G k j)=0 from rfl,ur]; exact Own.le_refl _) (SubM.refl _)))) (fun k hk => ?_)
    refine ae (ae (aj (DZ Z (DY (ah Z) (DY (ak 5 Z Z Z) (DY (a7 Z Z) (Ec (aa ?_))))))))
    refine a4 Z (fun hc3 => ?_) (fun hc3 => ?_) <;> simp only [decide_eq_true_eq,decide_eq_false_iff_not,Int.ofNat_lt] at hc3
    ·refine av (aa (ae (ar (aT 33 aS X S ?_))))
     unfold cu
     refine DY (ah Z) (DY (ak 0 Z Z Z) (DZ Z ?_))
     (refine DY (an Z Z ?_) ?_;omega)
     (refine DY (bk 1 Z Z ?_) ?_;omega)
     refine DZ Z (DY (ah Z) (DY (ak 0 Z Z Z) (DZ Z ?_)))
     (refine DY (an Z Z ?_) ?_;omega)
     (refine DY (bk 1 Z Z ?_) ?_;omega)
     refine DZ Z ?_
     (refine DY (an Z Z ?_) ?_;omega)
     (refine DY (vj 2 Z Z (nT ?_) ?_) ?_;omega;omega)
     refine DY (ah Z) (DY (ak 5 Z Z Z) (DZ Z ?_))
     (refine DY (ax Z Z ?_) ?_;omega)
     refine DY (aJ Z) (DZ Z ?_)
     (refine DY (ax Z Z ?_) ?_;omega)
     refine DY (aJ Z) (DY (ah Z) (DY (ak 4 Z Z Z) (DZ Z ?_)))
     (refine DY (ax Z Z ?_) ?_;omega)
     refine DY (aJ Z) (DZ Z ?_)
     (refine DY (ax Z Z ?_) ?_;omega)
     refine DY (aJ Z) ?_
     refine DY (am (dR (F i k) (G k j) (cI (hF i k)) (cI (hG k j))) Z ⟨H,H,Ed⟩) ?_
     rw [yk]
     refine DY (am (iB (cS k (fun k=>F i k*G k j)) (F i k*G k j) (lJ Y (fun k=>mr (hF i k) (hG k j))) (jk (hF i k) (hG k j))) Z ⟨H,H,Ed⟩) ?_
     (refine DY (an Z Z ?_) ?_;omega)
     refine Ec ?_
     (refine fW 2 Z Z Z (nT ?_) ?_ Z ?_;omega;omega)
     refine Ec (aB (aa (aj (DZ Z ?_))))
     (refine DY (ck Z Z (aR ?_ ?_)) ?_;omega;omega)
     refine Ea Z (Ec ?_)
     exact bK (s:=k) (k+1) (show _ from by omega) (by show ca - (k+1)<ca - k;omega) DV (.keep DX (.keep DX (.keep (wV _ _) (SubM.refl _))))
    ·have hkm:k=ca:=by omega
     subst hkm
     refine aY (aw (aw (aE (aB (aa (aj (DZ Z ?_)))))))
     (refine DY (ck Z Z (aR ?_ ?_)) ?_;omega;omega)
     refine Ea Z (Ec ?_)
     exact bK (s:=j) (j+1) (show _ from by omega) (by show cb - (j+1)<cb - j;omega) DV (.keep DX (.keep DX (.keep (by rw [← ut]; exact Own.le_refl _) (SubM.refl _))))
   ·have hjm:j=cb:=by omega
    subst hjm
    refine aY (aw (aw (aE (aB (aa (aj (DZ Z ?_)))))))
    (refine DY (ck Z Z (aR ?_ ?_)) ?_;omega;omega)
    refine Ea Z (Ec ?_)
    exact bK (s:=i) (i+1) (show _ from by omega) (by show ra - (i+1)<ra - i;omega) DV (.keep DX (.keep DX (.keep lK (SubM.refl _))))
  ·have hin:i=ra:=by omega
   subst hin
   refine aY (aw (aw (aE (aa (ae (aj (DY (ay 0 Z Z) (aH 3 Z Z Z Z (Ea Z ?_)))))))))
   refine Ec (aa (aD ?_))
   have hperm : ∀ (x y z u t s:Own), [x,y,z,u,t,s].Perm ([y,z] ++ [x,u,t,s]):=fun x y z u t s=>(List.Perm.swap y x _).trans (List.Perm.cons y (List.Perm.swap z x _))
   refine fD [fC sv1 cap1 i cb bs,ew cb bs (e7 (gD ca F G) i 0)] (hperm _ _ _ _ _ _) (.keep (zY.refl _) (.keep (zY.box (eR hlen ⟨by simp,by simp,by simp⟩)) (.keep (zY.refl _) (.keep (zY.refl _) .nil)))) (xD.refl _) ?_
   refine fw Tryz.results104 (.cellW 1 Z Z ?_) (.tmp Z (ao ?_))
   ·simp only [decide_true,if_true]; exact g8 fun a b ha hb=>by simp [e7,ha]
   ·simp
end Tor
end
section
namespace Tor
open Go Go.RowKit Go.Proofs
def mu (F:Nat→Nat→Int) (i j:Nat):Nat→Nat→Int:=fun q k=>if k<i∨(k=i∧q<j) then F k q else 0
theorem wX {T:TypeId} {c:Nat} {bs:List Nat} {F:Nat→Nat→Int} {i j:Nat} :
  Own.le (c8 T (.agg 2) c bs (dT (fun q k=>aO (mu F i j q k)) j i (aO (F i j)))) (c8 T (.agg 2) c bs (fun q k=>aO (mu F i (j+1) q k))):=by
 refine gA fun q k hq hk => ?_
 unfold dT mu
 by_cases h:q=j∧k=i
 ·obtain ⟨rfl,rfl⟩:=h;simp
 ·rw [if_neg h]
  have e:(k<i∨k=i∧q<j+1)↔(k<i∨k=i∧q<j):=by omega
  simp only [e]
attribute [local irreducible] J PJ aP one slT cv bA bM exT cq eP aW aU slV VT.le Ret bO
attribute [local irreducible] aO c8
end Tor
end
section
namespace Tor
open Go Go.RowKit Go.Proofs
attribute [local irreducible] J PJ aP one slT cv bA bM exT cq eP aW aU slV VT.le Ret bO
attribute [local irreducible] aO
theorem jH (ra ca:Nat) (F:Nat→Nat→Int) (cb:Nat) (G:Nat→Nat→Int) (hr0:ra≤1048576) (hc0:ca≤1048576) (hd0:cb≤1048576) (hF : ∀ i j,dA (F i j)) (hG : ∀ i j,dA (G i j)) :
  Ok Tryz.prog 69 [bG ra ca F,bG ca cb G] (bG ra cb (gD ca F G)):=by
 unfold bG
 refine Ok.enter Tryz.func69 Z Tryz.ntmps69 Z (fun w O => ?_)
 refine ae (aj ?_)
 refine aM Z Z (ltN Z) (fun b => ?_)
 refine aM Z Z (ltN Z) (fun b => ?_)
 refine aF (T:=28) Z Z Z (fun b => ?_)
 refine Ec (aa (ae (aj (DY (ay 2 Z Z) (DY (ay 1 Z Z) ?_)))))
 have h:=(wW ra ca F ca cb G hr0 hc0 hd0 hF hG)
 rw [decide_eq_true (show ca=ca from rfl)] at h
 refine DY (am h Z ⟨H,H,Ed⟩) ?_
 unfold qs
 simp only [if_true]
 refine DZ Z (DY (aq Z Z) (DY (aq Z Z) ?_))
 refine aF (T:=28) Z Z Z (fun b => ?_)
 refine aH 0 Z Z Z Z (Ea Z (Ec (aa (ae (aj (DY (ay 0 Z Z) (aH 1 Z Z Z Z (Ec (aa ?_)))))))))
 refine aD ?_
 exact aK Tryz.results69 (.cellW 1 Z Z H)
theorem sY (ra ca:Nat) (F:Nat→Nat→Int) (cb:Nat) (G:Nat→Nat→Int) (hr0:ra≤1048576) (hc0:ca≤1048576) (hd0:cb≤1048576) (hF : ∀ i j,cX (F i j)) (hG : ∀ i j,cX (G i j)) :
  Ok Tryz.prog 69 [bG ra ca F,bG ca cb G] (bG ra cb (gD ca F G)) :=
 jH ra ca F cb G hr0 hc0 hd0 (fun i j=>(hF i j).L) (fun i j=>(hG i j).L)
end Tor
end
section
namespace Tor
open Go Go.RowKit Go.Proofs
attribute [local irreducible] J PJ aP one slT cv bA bM exT cq eP aW aU slV VT.le Ret bO
attribute [local irreducible] aO c8
theorem rj (r c:Nat) (F:Nat→Nat→Int) (hr0:r≤1048576) (hc0:c≤1048576) (hF : ∀ i j,bJ (F i j)):Ok Tryz.prog 65 [bG r c F] (bG c r (fun i j=>F j i)):=by
 unfold bG
 refine Ok.enter Tryz.func65 Z Tryz.ntmps65 Z (fun w O => ?_)
 refine ae (aj ?_)
 refine aM Z Z (ltN Z) (fun b => ?_)
 refine aF (T:=28) Z Z Z (fun b => ?_)
 refine Ec (aa (ae (ae (aj (DY (ay 1 Z Z) ?_)))))
 refine DY (am (cJ r c F) Z ⟨H,Ed⟩) ?_
 refine DY (bF Z) (Ec (aa ?_))
 refine a4 Z (fun h => ?_) (fun h => ?_)
 ·cases h
 ·refine av (aa (ae (aj (DY (ah Z) (DY (ak 1 Z Z Z) (DY (ah Z) (DY (ak 1 Z Z Z) ?_)))))))
  refine di (yj c r hc0 hr0) Z ⟨H,H,Ed⟩ Z Z (fun s => ?_)
  obtain ⟨⟨bs,sv1,cap1⟩,hlen,hsv⟩:=s
  simp only at hlen hsv
  unfold jE
  refine aF (T:=28) Z Z Z (fun b => ?_)
  refine aH 0 Z Z Z Z (Ec (aa (ae (ae (aj (DY (ah Z) (DY (ak 4 Z Z Z) (DY (aZ Z) (DZ Z ?_)))))))))
  refine Ec (aa (ar ?_))
  rename_i b1 b2
  revert b
  intro b3
  refine cC (σ:=Nat) (fun i => [(2,one (.pointer (some ⟨b2,0,none⟩))),(3,one (.pointer (some ⟨b3,0,none⟩))),(18,slT .one r (fun i=>cu c (F i))),(19,one (.int .i64 r)),(20,one (.int .i64 (i:Nat)))])
   (fun i => [aW b3 28 3 [(0, .one,one (.int .i64 c)),(1, .one,one (.int .i64 r)),(2, .one,one (slV sv1 c cap1))],fC sv1 cap1 c r bs,ew r bs (mu F i 0),aW b2 28 3 (dt #[Value.int IntKind.i64 0,Value.int IntKind.i64 0,Value.slice none 0 0] [(0,Lay.one),(1,Lay.one),(2,Lay.one)])])
   (fun i=>i≤r) (fun i=>r - i) 0 (Nat.zero_le _) DV (.keep DX (.keep DX (.keep (e6 fun i j hi hj=>by simp [mu]) (.keep DX (.drop .nil))))) (fun i hi => ?_)
  refine ae (aj (DY (a7 Z Z) (Ec (aa (ae ?_)))))
  refine a4 Z (fun hc => ?_) (fun hc => ?_) <;> simp only [decide_eq_true_eq,decide_eq_false_iff_not,Int.ofNat_lt] at hc
  ·unfold cu
   refine av (aa (ae (ar (ae (aj (DZ Z ?_))))))
   (refine DY (ax Z Z ?_) ?_;omega)
   refine DY (aJ Z) (Ea Z (Ea Z (Ec (aa (ae (aj (DZ Z (DY (aZ Z) (DZ Z ?_)))))))))
   refine Ec (aa (ar ?_))
   refine cC (σ:=Nat) (fun j => [(2,one (.pointer (some ⟨b2,0,none⟩))),(3,one (.pointer (some ⟨b3,0,none⟩))),(18,slT .one r (fun i=>slT (.agg 2) c (fun j=>aO (F i j)))),(19,one (.int .i64 r)),(20,one (.int .i64 (i:Nat))),(4,one (.int .i64 (i:Nat))),(25,slT (.agg 2) c (fun j=>aO (F i j))),(26,one (.int .i64 c)),(27,one (.int .i64 (j:Nat)))])
    (fun j => [aW b3 28 3 [(0, .one,one (.int .i64 c)),(1, .one,one (.int .i64 r)),(2, .one,one (slV sv1 c cap1))],fC sv1 cap1 c r bs,ew r bs (mu F i j),aW b2 28 3 (dt #[Value.int IntKind.i64 0,Value.int IntKind.i64 0,Value.slice none 0 0] [(0,Lay.one),(1,Lay.one),(2,Lay.one)])])
    (fun j=>j≤c) (fun j=>c - j) 0 (Nat.zero_le _) DV (SubM.refl _) (fun j hj => ?_)
   refine ae (aj (DY (a7 Z Z) (Ec (aa (ae ?_)))))
   refine a4 Z (fun hc2 => ?_) (fun hc2 => ?_) <;> simp only [decide_eq_true_eq,decide_eq_false_iff_not,Int.ofNat_lt] at hc2
   ·obtain ⟨bo,rfl⟩:=eG hsv Y
    refine av (aa (ae (ar (ae (aj (DZ Z ?_))))))
    (refine DY (ax Z Z ?_) ?_;omega)
    refine DY (aJ Z) ?_
    refine aX (T:=43) Z (ltN Z) (fun b => ?_)
    refine Ea Z (aC 0 Z Z Z Z Z (leN Z) Z (Ec (aa (aT 9 aS X S (DY (ah Z) (DY (ak 1 Z Z Z) (DZ Z ?_)))))))
    (refine DY (an Z Z ?_) ?_;omega)
    (refine DY (bk 2 Z Z ?_) ?_;omega)
    refine DZ Z (DY (ak 0 Z Z Z) ?_)
    refine DY (am (B9 (F i j) (hF i j)) Z ⟨H,Ed⟩) ?_
    (refine DY (an Z Z ?_) ?_;omega)
    refine Ec ?_
    (refine fW 3 Z Z Z (nT ?_) ?_ Z ?_;omega;omega)
    refine Ec (aB (aa (aj ?_)))
    (refine DY (ck Z Z (aR ?_ ?_)) ?_;omega;omega)
    refine DZ Z (Ec ?_)
    exact bK (s:=j) (j+1) (show _ from by omega) (by show c - (j+1)<c - j;omega) DV (.drop (.keep DX (.keep DX (.keep wX (SubM.refl _)))))
   ·have hjm:j=c:=by omega
    subst hjm
    refine aY (aw (aw (aE (aB (aa (aj ?_))))))
    (refine DY (ck Z Z (aR ?_ ?_)) ?_;omega;omega)
    refine DZ Z (Ec ?_)
    refine bK (s:=i) (i+1) (show _ from by omega) (by show r - (i+1)<r - i;omega) DV (.keep DX (.keep DX (.keep (e6 fun q k hq hk => ?_) (SubM.refl _))))
    unfold mu
    have hq':q<j:=by omega
    have e:(k<i∨k=i∧q<j)↔(k<i+1∨k=i+1∧q<0):=by omega
    simp only [e]
  ·have hin:i=r:=by omega
   subst hin
   refine aY (aw (aw (aE (aa (ae (aj (DY (ay 0 Z Z) (aH 3 Z Z Z Z (Ec ?_)))))))))
   refine aa (aD ?_)
   have hperm : ∀ (x y z u:Own), [x,y,z,u].Perm ([y,z] ++ [x,u]):=fun x y z u=>(List.Perm.swap y x _).trans (List.Perm.cons y (List.Perm.swap z x _))
   refine fD [fC sv1 cap1 c i bs,ew i bs (mu F i 0)] (hperm _ _ _ _) (.keep (zY.refl _) (.keep (zY.box (eR hlen ⟨by simp,by simp,by simp⟩)) .nil)) (xD.refl _) ?_
   refine aK Tryz.results65 (.cellW 1 Z Z ?_)
   exact g8 fun a b ha hb=>by simp [mu,hb]
end Tor
end
section
namespace Tor
open Go Go.RowKit Go.Proofs
attribute [local irreducible] J PJ aP one slT cv bA bM exT cq eP aW aU slV VT.le Ret bO
attribute [local irreducible] aO
theorem Aj (n:Nat) (f:Nat→Int):Ok Tryz.prog 114 [cu n f] (bG 1 n (fun _=>f)):=by
 unfold cu
 refine Ok.enter Tryz.func114 Z Tryz.ntmps114 Z (fun w O => ?_)
 refine ae (aj ?_)
 refine aF (T:=28) Z Z Z (fun b => ?_)
 refine Ec (aa (ae (aj (DZ Z (DY (aZ Z) (DZ Z (jf Z Z Z Z (stB Z Z Z (BuildK.cons Z Z Z ?_)))))))))
 refine BuildK.cons Z Z Z (BuildK.cons Z Z Z (BuildK.nil (aH 0 Z Z Z Z (Ec (aa (aD ?_))))))
 refine aK Tryz.results114 (.cellW 0 Z Z ?_)
 unfold bG cu
 refine eY (fun q hq => ?_)
 rcases List.mem_cons.1 hq with rfl | hq
 ·exact ⟨_,List.mem_cons_self,ao Z⟩
 rcases List.mem_cons.1 hq with rfl | hq
 ·exact ⟨_,List.mem_cons_of_mem _ List.mem_cons_self,H⟩
 rcases List.mem_cons.1 hq with rfl | hq
 ·exact ⟨_,List.mem_cons_of_mem _ (List.mem_cons_of_mem _ List.mem_cons_self),H⟩
 ·cases hq
end Tor
end
section
namespace Tor
open Go Go.RowKit Go.Proofs
theorem lL (r c:Nat) (F:Nat→Nat→Int) (hr:r≤1048576) (hF : ∀ i j,bJ (F i j)):Ok Tryz.prog 67 [bG r c F] (one (.bool true)):=by
 have h:=rg r c (gn r c F) (by simp [gn]; omega) (fun v hv p hp=>by
  simp only [gn,tab,List.map_map,List.mem_map,List.mem_range] at hv
  obtain ⟨i,_,rfl⟩:=hv
  simp only [Function.comp,List.map_map,List.mem_map,List.mem_range] at hp
  obtain ⟨j,_,rfl⟩:=hp
  have:=hF i j
  unfold bJ at this
  simp only [Function.comp,lj]; omega)
 rw [oX] at h
 exact h.le ⟨sS r c F,Ed⟩ H
attribute [local irreducible] J PJ aP one slT cv bA bM exT cq eP aW aU slV VT.le Ret bO
attribute [local irreducible] aO
theorem jm (r c:Nat) (F:Nat→Nat→Int) (hr:r≤1048576) (hF : ∀ i j,bJ (F i j)):Ok Tryz.prog 68 [bG r c F,one (.int .i64 r),one (.int .i64 c)] (one (.bool true)):=by
 have hv:=lL r c F hr hF
 unfold bG at hv ⊢
 refine Ok.enter Tryz.func68 Z Tryz.ntmps68 Z (fun w O => ?_)
 refine ae (aj ?_)
 refine aM Z Z (ltN Z) (fun b => ?_)
 refine Ea Z (Ec (aa (ae (aj (DY (ah Z) (DY (ak 0 Z Z Z) (DZ Z (DY (cn Z Z) (DZ Z ?_)))))))))
 rw [decide_eq_true (show (r:Int)=r from rfl)]
 refine Eb (ah Z) (Eb (ak 0 Z Z Z) (Eb (ab Z) (Eb (cn Z Z) ?_)))
 rw [decide_eq_true (show (c:Int)=c from rfl)]
 refine DY (aV Z Z) (DZ Z (Eb (ay 0 Z Z) ?_))
 refine Eb (am hv Z ⟨H,Ed⟩) ?_
 refine DY (aV Z Z) (Ea Z (Ec (aa (aD ?_))))
 exact aK Tryz.results68 (.tmp Z H)
theorem uw (l:List Int) (n:Nat) (hn:n≤16):Ok Tryz.prog 34 [jY .i8 l,one (.int .i64 n)] (cu n (dig l)):=by
 refine Ok.enter Tryz.func34 Z Tryz.ntmps34 Z (fun w O => ?_)
 refine ae (aj (Ea Z (Ec (aa (ae (aj (DZ Z (DZ Z ?_))))))))
 refine DY (am (un 1 n l S hn) Z ⟨ao Z,H,H,Ed⟩) ?_
 unfold bG
 refine DY (va Z Z) ?_
 (refine DY (ei Z Z ?_ ?_) ?_;omega;omega)
 refine DY (aJ Z) (Ea Z (Ec (aa (aD ?_))))
 refine aK Tryz.results34 (.tmp Z ?_)
 unfold cu
 refine dg Z fun j hj => ?_
 simp
end Tor
end
section
namespace Tor.Lin
def sm:Nat→(Nat→Rat)→Rat
 | 0, _ => 0
 | n + 1, f => sm n f + f n
theorem be {n:Nat} {f g:Nat→Rat} (h : ∀ i,i<n→f i=g i):sm n f=sm n g:=by
 induction n with
 | zero => rfl
 | succ n ih => rw [sm, sm, ih (fun i hi => h i Y), h n Y]
theorem o5 (a b:Rat) (n:Nat) (f g:Nat→Rat):sm n (fun i=>a*f i+b*g i)=a*sm n f+b*sm n g:=by
 induction n with
 | zero => simp only [sm]; grind
 | succ n ih => rw [sm, sm, sm, ih]; grind
theorem rk (n:Nat):sm n (fun _=>(0:Rat))=0:=by
 induction n with
 | zero => rfl
 | succ n ih => rw [sm, ih]; grind
theorem ja {n p:Nat} {f:Nat→Rat} (hp:p<n) (h : ∀ i,i<n→i≠p→f i=0):sm n f=f p:=by
 induction n with
 | zero => omega
 | succ n ih =>
  rw [sm]
  by_cases c:p=n
  ·subst c
   rw [be (g:=fun _=>0) (fun i hi=>h i Y Y),rk]; grind
  ·rw [ih Y (fun i hi=>h i Y),h n Y Y]; grind
theorem yl {n p q:Nat} {f:Nat→Rat} (hp:p<q) (hq:q<n) (h : ∀ i,i<n→i≠p→i≠q→f i=0):sm n f=f p+f q:=by
 induction n with
 | zero => omega
 | succ n ih =>
  rw [sm]
  by_cases c:q=n
  ·subst c
   rw [ja hp (fun i hi hn=>h i Y hn Y)]
  ·rw [ih Y (fun i hi=>h i Y),h n Y Y Y]; grind
def skip (j k:Nat):Nat:=if k<j then k else k+1
def sgn (j:Nat):Rat:=if j % 2=0 then 1 else -1
theorem ym (j:Nat):sgn  (j+1) = -sgn j:=by
 unfold sgn
 by_cases h:j % 2=0
 ·rw [if_pos h,if_neg Y]
 ·rw [if_neg h,if_pos Y]; grind
def det:Nat→(Nat→Nat→Rat)→Rat
 | 0, _ => 1
 | n + 1, F => sm (n + 1) (fun j => sgn j * F 0 j * det n (fun i k => F (i + 1) (skip j k)))
theorem dm : ∀ {n:Nat} {F G:Nat→Nat→Rat},(∀ i j,i<n→j<n→F i j=G i j)→det n F=det n G
 | 0, _, _, _ => rfl
 | n + 1, F, G, h => by
  rw [det,det]
  refine be (fun j hj => ?_)
  rw [h 0 j Y hj,dm (G:=fun i k=>G (i+1) (skip j k)) (fun i k hi hk=>h _ _ Y (by unfold skip;split <;> omega))]
theorem vI {j p:Nat} (h:j≠p):skip j (if p<j then p else p - 1)=p:=by
 unfold skip
 by_cases c:p<j
 ·rw [if_pos c,if_pos c]
 ·rw [if_neg c,if_neg Y]; omega
theorem yn {j p:Nat} (h:j≠p) (h':j≠p+1):skip j ((if p<j then p else p - 1)+1)=p+1:=by
 unfold skip
 by_cases c:p<j
 ·rw [if_pos c,if_pos Y]
 ·rw [if_neg c,if_neg Y]; omega
theorem rm (a b:Rat) : ∀ {n p:Nat} {F G DS:Nat→Nat→Rat},p<n→(∀ i,i<n→F i p=a*G i p+b*DS i p)→(∀ i j,i<n→j<n→j≠p→G i j=F i j)→(∀ i j,i<n→j<n→j≠p→DS i j=F i j) →
  det n F=a*det n G+b*det n DS
 | 0, _, _, _, _, h, _, _, _ => absurd h (Nat.not_lt_zero _)
 | n + 1, p, F, G, DS, hp, hF, hG, hH => by
  rw [det,det,det, ← o5]
  refine be (fun j hj => ?_)
  by_cases c:j=p
  ·subst c
   rw [dm (F:=fun i k=>G (i+1) (skip j k)) (G:=fun i k=>F (i+1) (skip j k)) (fun i k hi hk=>hG _ _ Y (by unfold skip;split <;> omega) (by unfold skip;split <;> omega)),
    dm (F:=fun i k=>DS (i+1) (skip j k)) (G:=fun i k=>F (i+1) (skip j k)) (fun i k hi hk=>hH _ _ Y (by unfold skip;split <;> omega) (by unfold skip;split <;> omega)),hF 0 Y]
   grind
  ·have e:=vI c
   rw [rm a b (p:=if p<j then p else p - 1) (F:=fun i k=>F (i+1) (skip j k)) (G:=fun i k=>G (i+1) (skip j k)) (DS:=fun i k=>DS (i+1) (skip j k)) (by split <;> omega)
    (fun i hi=>by rw [e]; exact hF _ Y)
    (fun i k hi hk hne=>hG _ _ Y (by unfold skip;split <;> omega) (by revert hne;unfold skip;split <;> split <;> omega))
    (fun i k hi hk hne=>hH _ _ Y (by unfold skip;split <;> omega) (by revert hne;unfold skip;split <;> split <;> omega)),
    hG 0 j Y hj c,hH 0 j Y hj c]
   grind
theorem rn : ∀ {n p:Nat} {F:Nat→Nat→Rat},p+1<n→(∀ i,i<n→F i p=F i (p+1))→det n F=0
 | 0, _, _, h, _ => absurd h (Nat.not_lt_zero _)
 | n + 1, p, F, hp, h => by
  rw [det,yl (p:=p) (q:=p+1) Y hp (fun j hj h1 h2 => ?_)]
  ·rw [dm (F:=fun i k=>F (i+1) (skip (p+1) k)) (G:=fun i k=>F (i+1) (skip p k)) (fun i k hi hk=>by
    by_cases c:k=p
    ·subst c
     have e1:skip (k+1) k=k:=by unfold skip;rw [if_pos Y]
     have e2:skip k k=k+1:=by unfold skip;rw [if_neg Y]
     rw [e1,e2]; exact h _ Y
    ·have e:skip (p+1) k=skip p k:=by unfold skip;split <;> split <;> omega
     rw [e]), ← h 0 Y,ym]
   grind
  ·rw [rn (p:=if p<j then p else p - 1) (F:=fun i k=>F (i+1) (skip j k)) (by split <;> omega) (fun i hi=>by
    have e1:=vI h1
    have e2:=yn h1 h2
    rw [e1,e2]; exact h _ Y)]
   grind
def idm (i j:Nat):Rat:=if i=j then 1 else 0
theorem ro : ∀ n:Nat,det n (idm)=1
 | 0 => rfl
 | n + 1 => by
  rw [det,ja (p:=0) Y (fun i hi h=>by
   have:idm  0 i=0:=by unfold idm;rw [if_neg Y]
   rw [this]; grind)]
  have e:det n (fun i k=>idm  (i+1) (skip 0 k))=1:=by
   rw [← ro n]
   refine dm (fun i j _ _ => ?_)
   unfold idm skip
   rw [if_neg (Nat.not_lt_zero j)]
   by_cases c:i=j
   ·rw [if_pos c,if_pos Y]
   ·rw [if_neg c,if_neg Y]
  rw [e]
  unfold sgn idm
  rw [if_pos Z,if_pos Z]; grind
structure Alt (n:Nat) (f:(Nat→Nat→Rat)→Rat):Prop where
 congr : ∀ F G,(∀ i j,i<n→j<n→F i j=G i j)→f F=f G
 lin : ∀ (a b:Rat) p F G DS,p<n→(∀ i,i<n→F i p=a*G i p+b*DS i p)→(∀ i j,i<n→j<n→j≠p→G i j=F i j)→(∀ i j,i<n→j<n→j≠p→DS i j=F i j)→f F=a*f G+b*f DS
 adj : ∀ p F,p+1<n→(∀ i,i<n→F i p=F i (p+1))→f F=0
theorem jI (n:Nat):Alt n (det  n) :=
 ⟨fun _ _ h=>dm h,fun a b _ _ _ _ hp h1 h2 h3=>rm a b hp h1 h2 h3,fun _ _ hp h=>rn hp h⟩
def two (F:Nat→Nat→Rat) (p:Nat) (u v:Nat→Rat):Nat→Nat→Rat:=fun i j=>if j=p then u i else if j=p+1 then v i else F i j
def swp (F:Nat→Nat→Rat) (p:Nat):Nat→Nat→Rat:=two F p (fun i=>F i (p+1)) (fun i=>F i p)
theorem Alt.swap {n:Nat} {f:(Nat→Nat→Rat)→Rat} (h:Alt n f) {p:Nat} (hp:p+1<n) (F:Nat→Nat→Rat):f (swp F p) = - f F:=by
 have l1 : ∀ u u' v:Nat→Rat,f (two F p (fun i=>u i+u' i) v)=f (two F p u v)+f (two F p u' v):=fun u u' v=>by
  rw [h.lin 1 1 p (two F p (fun i=>u i+u' i) v) (two F p u v) (two F p u' v) Y (fun i _=>by simp only [two,if_pos]; grind)
   (fun i j _ _ hj=>by simp only [two,if_neg hj]) (fun i j _ _ hj=>by simp only [two,if_neg hj])]
  grind
 have l2 : ∀ u v v':Nat→Rat,f (two F p u (fun i=>v i+v' i))=f (two F p u v)+f (two F p u v'):=fun u v v'=>by
  have hne:p+1≠p:=by omega
  rw [h.lin 1 1 (p+1) (two F p u (fun i=>v i+v' i)) (two F p u v) (two F p u v') Y (fun i _=>by simp only [two,if_neg hne,if_pos]; grind)
   (fun i j _ _ hj=>by simp only [two,if_neg hj]) (fun i j _ _ hj=>by simp only [two,if_neg hj])]
  grind
 have z : ∀ u:Nat→Rat,f (two F p u u)=0:=fun u=>h.adj p _ hp (fun i _=>by
  have hne:p+1≠p:=by omega
  simp only [two,if_neg hne,if_pos])
 have e:f F=f (two F p (fun i=>F i p) (fun i=>F i (p+1))):=h.congr _ _ (fun i j _ _=>by
  unfold two
  by_cases c:j=p
  ·rw [if_pos c,c]
  ·rw [if_neg c]
   by_cases c':j=p+1
   ·rw [if_pos c',c']
   ·rw [if_neg c'])
 have k:=z (fun i=>F i p+F i (p+1))
 rw [l1,l2,l2,z,z, ← e] at k
 unfold swp
 grind
def eV (F:Nat→Nat→Rat) (p:Nat) (v:Nat→Rat):Nat→Nat→Rat:=fun i j=>if j=p then v i else F i j
theorem Alt.sum {n:Nat} {f:(Nat→Nat→Rat)→Rat} (h:Alt n f) {p:Nat} (hp:p<n) (F:Nat→Nat→Rat) (c:Nat→Rat) (v:Nat→Nat→Rat) :
  ∀ M:Nat,f (eV F p (fun i=>sm M (fun m=>c m*v m i)))=sm M (fun m=>c m*f (eV F p (v m)))
 | 0 => by
  rw [h.lin 0 0 p _ F F hp (fun i _=>by simp only [eV,if_pos,sm]; grind) (fun i j _ _ hj=>by simp only [eV,if_neg hj]) (fun i j _ _ hj=>by simp only [eV,if_neg hj])]
  simp only [sm]; grind
 | M + 1 => by
  rw [sm, ← h.sum hp F c v M,h.lin 1 (c M) p _ (eV F p (fun i=>sm M (fun m=>c m*v m i))) (eV F p (v M)) hp (fun i _=>by simp only [eV,if_pos,sm]; grind)
   (fun i j _ _ hj=>by simp only [eV,if_neg hj]) (fun i j _ _ hj=>by simp only [eV,if_neg hj])]
  grind
def em (σ:Nat→Nat) (i j:Nat):Rat:=if i=σ j then 1 else 0
def mv (n:Nat) (σ:Nat→Nat):Nat→Nat
 | 0 => 0
 | k + 1 => mv n σ k + (n - k) * σ k
theorem o6 {n:Nat} {σ τ:Nat→Nat} : ∀ k,(∀ j,j<k→σ j=τ j)→mv n σ k=mv n τ k
 | 0, _ => rfl
 | k + 1, h => by rw [mv, mv, o6 k (fun j hj => h j Y), h k Y]
def sw (σ:Nat→Nat) (p:Nat):Nat→Nat:=fun j=>if j=p then σ (p+1) else if j=p+1 then σ p else σ j
theorem vJ {n:Nat} {σ:Nat→Nat} {p:Nat} (hp:p+1<n) (hl:σ (p+1)<σ p) : ∀ k,p+1<k→k≤n→mv n (sw σ p) k<mv n σ k
 | 0, h, _ => absurd h (Nat.not_lt_zero _)
 | k + 1, h, hk => by
  by_cases c:k=p+1
  ·subst c
   rw [mv,mv,mv,mv,o6 (σ:=sw σ p) (τ:=σ) p (fun j hj=>by unfold sw;rw [if_neg Y,if_neg Y])]
   have e1:sw σ p p=σ (p+1):=by unfold sw;rw [if_pos Z]
   have e2:sw σ p (p+1)=σ p:=by unfold sw;rw [if_neg Y,if_pos Z]
   rw [e1,e2]
   have e:n - p=(n - (p+1))+1:=by omega
   rw [e,Nat.succ_mul,Nat.succ_mul]
   omega
  ·have ih:=vJ hp hl k Y Y
   rw [mv,mv]
   have e:sw σ p k=σ k:=by unfold sw;rw [if_neg Y,if_neg Y]
   rw [e]; omega
theorem C0 (σ:Nat→Nat) (p:Nat):swp (em  σ) p=em (sw σ p):=by
 funext i j
 unfold swp two em sw
 by_cases c:j=p
 ·rw [if_pos c,if_pos c]
 ·rw [if_neg c,if_neg c]
  by_cases c':j=p+1
  ·rw [if_pos c',if_pos c']
  ·rw [if_neg c',if_neg c']
theorem Ca {n:Nat} {σ:Nat→Nat} (hn : ∀ j,j<n→σ j<n) (h : ∀ p,p+1<n→σ p<σ (p+1)) : ∀ j,j<n→σ j=j:=by
 have lo : ∀ j,j<n→j≤σ j:=fun j=>by
  induction j with
  | zero => intro _; omega
  | succ j ih => intro hj; have := ih Y; have := h j hj; omega
 have hi : ∀ k j,j+k+1=n→σ j≤j:=fun k=>by
  induction k with
  | zero => intro j hj; have := hn j Y; omega
  | succ k ih => intro j hj; have := ih (j + 1) Y; have := h j Y; omega
 intro j hj
 have:=lo j hj
 have:=hi (n - j - 1) j Y
 omega
theorem Alt.em {n:Nat} {f:(Nat→Nat→Rat)→Rat} (h:Alt n f) : ∀ (N:Nat) (σ:Nat→Nat),mv n σ n<N→(∀ j,j<n→σ j<n)→f (em σ)=det n (em σ)*f idm
 | 0, _, hN, _ => absurd hN (Nat.not_lt_zero _)
 | N + 1, σ, hN, hσ => by
  by_cases c : ∃ p,p+1<n∧σ (p+1)≤σ p
  ·obtain ⟨p,hp,hle⟩:=c
   by_cases ce:σ (p+1)=σ p
   ·have e : ∀ i,i<n→Tor.Lin.em  σ i p=Tor.Lin.em σ i (p+1):=fun i _=>by unfold Tor.Lin.em;rw [ce]
    rw [h.adj p _ hp e,(jI n).adj p _ hp e]; grind
   ·have ih:=h.em N (sw σ p) (by have:=vJ hp (show σ (p+1)<σ p by omega) n Y (Nat.le_refl _);omega) (fun j hj=>by
     unfold sw;split
     ·exact hσ _ hp
     ·split
      ·exact hσ _ Y
      ·exact hσ _ hj)
    rw [← C0,h.swap hp,(jI n).swap hp] at ih
    grind
  ·have hid:=Ca hσ (fun p hp=>Nat.lt_of_not_le fun k=>c ⟨p,hp,k⟩)
   have e : ∀ i j,i<n→j<n→Tor.Lin.em  σ i j=idm i j:=fun i j _ hj=>by unfold Tor.Lin.em idm;rw [hid j hj]
   rw [h.congr _ _ e,(jI n).congr _ _ e,ro]; grind
theorem Alt.part {n:Nat} {f:(Nat→Nat→Rat)→Rat} (h:Alt n f) : ∀ (k:Nat) (F:Nat→Nat→Rat) (σ:Nat→Nat),k≤n→(∀ j,j<n→σ j<n)→(∀ i j,i<n→j<n→k≤j→F i j=Tor.Lin.em σ i j)→f F=det n F*f idm
 | 0, F, σ, _, hσ, hF => by
  rw [h.congr _ _ (fun i j hi hj=>hF i j hi hj (Nat.zero_le _)),(jI n).congr _ _ (fun i j hi hj=>hF i j hi hj (Nat.zero_le _))]
  exact h.em _ σ (Nat.lt_succ_self _) hσ
 | k + 1, F, σ, hk, hσ, hF => by
  have e : ∀ i j,i<n→j<n→F i j=eV F k (fun i=>sm n (fun m=>F m k*(fun m i=>idm  i m) m i)) i j:=fun i j hi hj=>by
   unfold eV
   by_cases c:j=k
   ·subst c
    rw [if_pos Z]
    show F i j=sm n (fun m=>F m j*idm i m)
    rw [ja hi (fun m hm hne=>by unfold idm;rw [if_neg (fun q=>hne q.symm)]; grind)]
    unfold idm;rw [if_pos Z]; grind
   ·rw [if_neg c]
  rw [h.congr _ _ e,(jI n).congr _ _ e,h.sum Y,(jI n).sum Y]
  have hm : ∀ m,m<n→f (eV F k (fun i=>idm  i m))=det n (eV F k (fun i=>idm  i m))*f idm:=fun m hm =>
   h.part k _ (fun j=>if j=k then m else σ j) Y (fun j hj=>by split;exact hm;exact hσ j hj) (fun i j hi hj hkj=>by
    unfold eV Tor.Lin.em idm
    dsimp only
    by_cases c:j=k
    ·simp only [if_pos c]
    ·simp only [if_neg c]; exact hF i j hi hj Y)
  rw [be (fun m hm'=>by rw [hm m hm'])]
  generalize f idm=z
  clear hm
  generalize (fun m=>det n (eV F k ((fun m i=>idm  i m) m)))=g at *
  have : ∀ N:Nat,sm N (fun m=>F m k*(det n (eV F k (fun i=>idm  i m))*z))=sm N (fun m=>F m k*det n (eV F k (fun i=>idm  i m)))*z:=fun N=>by
   induction N with
   | zero => simp only [sm]; grind
   | succ N ih => rw [sm, sm, ih]; grind
  exact this n
theorem Alt.uniq {n:Nat} {f:(Nat→Nat→Rat)→Rat} (h:Alt n f) (F:Nat→Nat→Rat):f F=det n F*f idm :=
 h.part n F id (Nat.le_refl _) (fun j hj=>hj) (fun i j _ hj hk=>by omega)
def o7 (n:Nat) (A B:Nat→Nat→Rat) (i j:Nat):Rat:=sm n (fun k=>A i k*B k j)
theorem Ak (n:Nat) (A:Nat→Nat→Rat):Alt n (fun B=>det n (o7 n A B)) where
 congr F G h:=dm (fun i j _ hj=>be (fun k hk=>by rw [h k j hk hj]))
 lin a b p F G DS hp h1 h2 h3:=rm a b hp (fun i hi=>by
   unfold o7
   rw [← o5]
   exact be (fun k hk=>by rw [h1 k hk]; grind))
  (fun i j _ hj hne=>be (fun k hk=>by rw [h2 k j hk hj hne])) (fun i j _ hj hne=>be (fun k hk=>by rw [h3 k j hk hj hne]))
 adj p F hp h:=rn hp (fun i hi=>be (fun k hk=>by rw [h k hk]))
theorem rp (n:Nat) (A B:Nat→Nat→Rat):det n (o7 n A B)=det n A*det n B:=by
 have h:det n (o7 n A B)=det n B*det n (o7 n A idm):=(Ak n A).uniq B
 have e:det n (o7 n A idm)=det n A:=dm (fun i j hi hj=>by
  unfold o7
  rw [ja hj (fun k hk hne=>by unfold idm;rw [if_neg hne]; grind)]
  unfold idm;rw [if_pos Z]; grind)
 rw [e] at h
 rw [h]; grind
theorem vK (a b:Rat) : ∀ {n p:Nat} {F G DS:Nat→Nat→Rat},p<n→(∀ j,j<n→F p j=a*G p j+b*DS p j)→(∀ i j,i<n→j<n→i≠p→G i j=F i j)→(∀ i j,i<n→j<n→i≠p→DS i j=F i j) →
  det n F=a*det n G+b*det n DS
 | 0, _, _, _, _, h, _, _, _ => absurd h (Nat.not_lt_zero _)
 | n + 1, 0, F, G, DS, hp, hF, hG, hH => by
  rw [det,det,det, ← o5]
  refine be (fun j hj => ?_)
  rw [dm (F:=fun i k=>G (i+1) (skip j k)) (G:=fun i k=>F (i+1) (skip j k)) (fun i k hi hk=>hG _ _ Y (by unfold skip;split <;> omega) Y),
   dm (F:=fun i k=>DS (i+1) (skip j k)) (G:=fun i k=>F (i+1) (skip j k)) (fun i k hi hk=>hH _ _ Y (by unfold skip;split <;> omega) Y),hF j hj]
  grind
 | n + 1, p + 1, F, G, DS, hp, hF, hG, hH => by
  rw [det,det,det, ← o5]
  refine be (fun j hj => ?_)
  rw [vK a b (p:=p) (F:=fun i k=>F (i+1) (skip j k)) (G:=fun i k=>G (i+1) (skip j k)) (DS:=fun i k=>DS (i+1) (skip j k)) Y
   (fun k hk=>hF _ (by unfold skip;split <;> omega))
   (fun i k hi hk hne=>hG _ _ Y (by unfold skip;split <;> omega) Y)
   (fun i k hi hk hne=>hH _ _ Y (by unfold skip;split <;> omega) Y),
   hG 0 j Y hj Y,hH 0 j Y hj Y]
  grind
theorem sZ {n p:Nat} (hp:p+1<n) (F:Nat→Nat→Rat):det n (fun i j=>F (if i=p then p+1 else if i=p+1 then p else i) j) = - det n F:=by
 have h:=rp n (swp idm p) F
 rw [(jI n).swap hp,ro] at h
 have e:det n (o7 n (swp idm p) F)=det n (fun i j=>F (if i=p then p+1 else if i=p+1 then p else i) j):=dm (fun i j hi hj=>by
  unfold o7
  rw [ja (p:=if i=p then p+1 else if i=p+1 then p else i) (by split <;> (try split) <;> omega) (fun k hk hne=>by
   have:swp (idm) p i k=0:=by
    unfold swp two idm
    by_cases c:k=p
    ·simp only [if_pos c]
     rw [if_neg]; intro q;apply hne;rw [if_neg Y,if_pos q,c]
    ·simp only [if_neg c]
     by_cases c':k=p+1
     ·simp only [if_pos c']
      rw [if_neg]; intro q;apply hne;rw [if_pos q,c']
     ·simp only [if_neg c']
      rw [if_neg]; intro q;apply hne;rw [if_neg Y,if_neg Y,q]
   rw [this]; grind)]
  have:swp (idm) p i (if i=p then p+1 else if i=p+1 then p else i)=1:=by
   unfold swp two idm
   by_cases c:i=p
   ·have hne : ¬ p+1=p:=by omega
    simp only [if_pos c,if_neg hne,if_pos]
   ·by_cases c':i=p+1
    ·simp only [if_neg c,if_pos c',if_pos]
    ·simp only [if_neg c,if_neg c',if_pos]
  rw [this]; grind)
 rw [← e,h]; grind
theorem Cb (n:Nat) (h2 : ∀ x:Rat,x+x=0→x=0):Alt n (fun F:Nat→Nat→Rat=>det n (fun i j=>F j i)) where
 congr F G h:=dm (fun i j hi hj=>h j i hj hi)
 lin a b p F G DS hp h1 h2 h3:=vK a b hp (fun j hj=>h1 j hj) (fun i j hi hj hne=>h2 j i hj hi hne) (fun i j hi hj hne=>h3 j i hj hi hne)
 adj p F hp h:=by
  have k:=sZ hp (fun i j=>F j i)
  have e:det n (fun i j=>F j (if i=p then p+1 else if i=p+1 then p else i))=det n (fun i j=>F j i):=dm (fun i j hi hj=>by
   by_cases c:i=p
   ·rw [if_pos c,c,h j hj]
   ·rw [if_neg c]
    by_cases c':i=p+1
    ·rw [if_pos c',c',h j hj]
    ·rw [if_neg c'])
  show det n (fun i j=>F j i)=0
  rw [e] at k
  exact h2 _ (by grind)
theorem Cc (n:Nat) (h2 : ∀ x:Rat,x+x=0→x=0) (F:Nat→Nat→Rat):det n (fun i j=>F j i)=det n F:=by
 have h:det n (fun i j=>F j i)=det n F*det n (fun i j=>idm  j i):=(Cb n h2).uniq F
 have e:det n (fun i j=>idm  j i)=1:=by
  rw [← ro n]
  refine dm (fun i j _ _ => ?_)
  unfold idm
  by_cases c:i=j
  ·rw [if_pos c,if_pos c.symm]
  ·rw [if_neg c,if_neg (fun q=>c q.symm)]
 rw [e] at h
 rw [h]; grind
end Tor.Lin
end
section
namespace Tor.Lin
def smZ:Nat→(Nat→Int)→Int
 | 0, _ => 0
 | n + 1, f => smZ n f + f n
theorem qu {n:Nat} {f g:Nat→Int} (h : ∀ i,i<n→f i=g i):smZ n f=smZ n g:=by
 induction n with
 | zero => rfl
 | succ n ih => rw [smZ, smZ, ih (fun i hi => h i Y), h n Y]
def yo (j:Nat):Int:=if j % 2=0 then 1 else -1
def rq:Nat→(Nat→Nat→Int)→Int
 | 0, _ => 1
 | n + 1, F => smZ (n + 1) (fun j => yo j * F 0 j * rq n (fun i k => F (i + 1) (skip j k)))
theorem o8 (n:Nat) (f:Nat→Int):((smZ n f:Int):Rat)=sm n (fun i=>(f i:Rat)):=by
 induction n with
 | zero => rfl
 | succ n ih => rw [smZ, sm, Rat.intCast_add, ih]
theorem wY (j:Nat):((yo j:Int):Rat)=sgn j:=by
 unfold yo sgn;split <;> rfl
theorem qv : ∀ (n:Nat) (F:Nat→Nat→Int),((rq n F:Int):Rat)=det n (fun i j=>(F i j:Rat))
 | 0, _ => rfl
 | n + 1, F => by
  rw [rq,det,o8]
  refine be (fun j hj => ?_)
  rw [Rat.intCast_mul,Rat.intCast_mul,wY,qv n]
theorem o9 : ∀ {n:Nat} {F G:Nat→Nat→Int},(∀ i j,i<n→j<n→F i j=G i j)→rq n F=rq n G
 | 0, _, _, _ => rfl
 | n + 1, F, G, h => by
  rw [rq,rq]
  refine qu (fun j hj => ?_)
  rw [h 0 j Y hj,o9 (G:=fun i k=>G (i+1) (skip j k)) (fun i k hi hk=>h _ _ Y (by unfold skip;split <;> omega))]
theorem rs : ∀ x:Rat,x+x=0→x=0:=fun x h=>by grind
end Tor.Lin
end
section
namespace Tor
def swp {α:Type} (i k:Nat) (φ:Nat→α):Nat→α:=fun q=>if q=i then φ k else if q=k then φ i else φ q
theorem pa {α:Type} (i:Nat) (φ:Nat→α):swp i i φ=φ:=by
 funext q;unfold swp;by_cases h:q=i
 ·rw [if_pos h,h]
 ·rw [if_neg h,if_neg h]
end Tor
namespace Tor.Lin
/-! ### Sums -/
theorem yp (n:Nat) (f g:Nat→Rat):sm n (fun i=>f i+g i)=sm n f+sm n g:=by
 induction n with
 | zero => simp only [sm]; grind
 | succ n ih => rw [sm, sm, sm, ih]; grind
theorem kN (a:Rat) (n:Nat) (f:Nat→Rat):sm n (fun i=>a*f i)=a*sm n f:=by
 induction n with
 | zero => simp only [sm]; grind
 | succ n ih => rw [sm, sm, ih]; grind
theorem jJ (a:Rat) (n:Nat) (f:Nat→Rat):sm n (fun i=>f i*a)=sm n f*a:=by
 induction n with
 | zero => simp only [sm]; grind
 | succ n ih => rw [sm, sm, ih]; grind
theorem kq (n:Nat) (f g:Nat→Rat):sm n (fun i=>f i - g i)=sm n f - sm n g:=by
 induction n with
 | zero => simp only [sm]; grind
 | succ n ih => rw [sm, sm, sm, ih]; grind
theorem n8 (n m:Nat) (f:Nat→Nat→Rat):sm n (fun i=>sm m (fun j=>f i j))=sm m (fun j=>sm n (fun i=>f i j)):=by
 induction n with
 | zero => simp only [sm]; exact (rk m).symm
 | succ n ih => rw [sm, ih, ← yp]; exact be fun j _ => by rw [sm]
theorem uy {n p:Nat} (hp:p<n) (f:Nat→Rat):sm n (fun j=>(if j=p then f j else 0))=f p:=by
 rw [ja hp (fun i _ hne=>by rw [if_neg hne]),if_pos Z]
theorem gw {n:Nat} {f:Nat→Rat} (h : ∀ i,i<n→f i=0):sm n f=0:=by
 rw [be (g:=fun _=>0) h,rk]
/-! ### Determinants with a column that is a combination -/
end Tor.Lin
end
section
namespace Tor.Lin
def mw (r w:Nat) (F:Nat→Nat→Int) (c:Nat):Prop := ¬ ∃ y:Nat→Rat,y c=1∧(∀ j,c<j→y j=0) ∧ ∀ i,i<r→sm w (fun j=>y j*(F i j:Rat))=0
open Classical in
noncomputable def jK (r w:Nat) (F:Nat→Nat→Int) (n:Nat):List Nat:=(List.range n).filter fun c=>decide (mw r w F c)
theorem pU {r w:Nat} {F:Nat→Nat→Int} {n:Nat} (h:mw r w F n):jK r w F (n+1)=jK r w F n ++ [n]:=by
 unfold jK;rw [List.range_succ,List.filter_append]; simp [h]
theorem pV {r w:Nat} {F:Nat→Nat→Int} {n:Nat} (h : ¬ mw r w F n):jK r w F (n+1)=jK r w F n:=by
 unfold jK;rw [List.range_succ,List.filter_append]; simp [h]
theorem C1 {r w:Nat} {F:Nat→Nat→Int} {n c:Nat} : c∈jK r w F n↔c<n∧mw r w F c:=by
 unfold jK;rw [List.mem_filter,List.mem_range]; simp
theorem uz {α:Type} {p:α→Bool} {l:List α} (h : ¬ (l.filter p).length<l.length):l.filter p=l:=by
 have h1:=List.length_filter_le p l
 exact List.filter_eq_self.2 (List.length_filter_eq_length_iff.1 Y)
theorem wZ {r w n:Nat} {F:Nat→Nat→Int} (h : ¬ (jK r w F n).length<n):jK r w F n=List.range n:=by
 unfold jK at *
 have:=uz (l:=List.range n) (p:=fun c => @decide (mw r w F c) (Classical.propDecidable _)) (by rw [List.length_range]; exact h)
 exact this
theorem uA {r w n:Nat} {F:Nat→Nat→Int} (h:(jK r w F n).length<n) : ∃ c,c<n ∧ ¬ mw r w F c:=by
 refine Classical.byContradiction fun hn => ?_
 have:jK r w F n=List.range n:=by
  unfold jK
  rw [List.filter_eq_self]
  intro c hc
  have h1:mw r w F c:=Classical.byContradiction fun k=>hn ⟨c,List.mem_range.1 hc,k⟩
  simp [h1]
 rw [this,List.length_range] at h
 omega
theorem Al (r w:Nat) (F:Nat→Nat→Int) (n:Nat):(jK r w F n).length≤n:=by
 unfold jK
 have:=List.length_filter_le (fun c => @decide (mw r w F c) (Classical.propDecidable _)) (List.range n)
 rw [List.length_range] at this;exact this
end Tor.Lin
end
section
namespace Tor
open Go Go.RowKit Go.Proofs
def iC:Nat→Nat→Nat
 | 0, _ => 0
 | f + 1, x => if x = 0 then 0 else iC f (x / 2) + 1
def jb (x:Nat):Nat:=iC 64 x
theorem iD : ∀ (f x:Nat),x<2^f→x<2^iC f x∧(x=0→iC f x=0)∧(x≠0→0<iC f x∧2^(iC f x - 1)≤x)∧iC f x≤f
 | 0, x, h => by simp at h; subst h; simp [iC]
 | f + 1, x, h => by
  rw [iC]
  split
  ·rename_i h0;subst h0;simp
  ·rename_i h0
   have h1:x / 2<2^f:=by rw [Nat.pow_succ] at h;omega
   obtain ⟨i1,i2,i3,i4⟩:=iD f (x / 2) h1
   refine ⟨by rw [Nat.pow_succ]; omega,fun h=>absurd h h0,fun _=>⟨by omega,?_⟩,by omega⟩
   rw [Nat.add_sub_cancel]
   by_cases h2:x / 2=0
   ·rw [i2 h2]; simp;omega
   ·obtain ⟨j1,j2⟩:=i3 h2
    obtain ⟨m,hm⟩ : ∃ m,iC f (x / 2)=m+1:=⟨iC f (x / 2) - 1,by omega⟩
    rw [hm] at j2 ⊢
    rw [Nat.add_sub_cancel] at j2
    rw [Nat.pow_succ]; omega
theorem vL {x:Nat} (h:x<2^64):x<2^jb x:=(iD 64 x h).1
theorem ru {x:Nat} (h:x<2^64) (h0:x≠0):0<jb x∧2^(jb x - 1)≤x:=(iD 64 x h).2.2.1 h0
theorem w3 {x n:Nat} (h:x<2^64) (h1:x<2^n) (h2:n=0∨2^(n - 1)≤x):jb x=n:=by
 obtain ⟨i1,i2,i3,_⟩:=iD 64 x h
 show iC 64 x=n
 by_cases h0:x=0
 ·rw [i2 h0]
  rcases h2 with h2 | h2
  ·exact h2.symm
  ·subst h0;have:=Nat.two_pow_pos (n - 1);omega
 ·obtain ⟨j1,j2⟩:=i3 h0
  rcases Nat.lt_trichotomy (iC 64 x) n with h3 | h3 | h3
  ·have:=Nat.pow_le_pow_right (n:=2) S (show iC 64 x≤n - 1 by omega)
   rcases h2 with h2 | h2
   ·omega
   ·omega
  ·exact h3
  ·have:=Nat.pow_le_pow_right (n:=2) S (show n≤iC 64 x - 1 by omega)
   omega
theorem rv {x n:Nat} (h:x<2^n) (hn:n≤64):jb x≤n:=by
 have hx:x<2^64:=Nat.lt_of_lt_of_le h (Nat.pow_le_pow_right S hn)
 by_cases h0:x=0
 ·have:=(iD 64 x hx).2.1 h0
  unfold jb;omega
 ·obtain ⟨j1,j2⟩:=ru hx h0
  rcases Nat.lt_or_ge n (jb x) with h3 | h3
  ·have:=Nat.pow_le_pow_right (n:=2) S (show n≤jb x - 1 by omega)
   omega
  ·exact h3
theorem pb {x k:Nat} (h:x<2^64) (hk:2^k≤x):jb x=k+jb (x / 2^k):=by
 have hp:=Nat.two_pow_pos k
 have hy:x / 2^k<2^64:=Nat.lt_of_le_of_lt (Nat.div_le_self _ _) h
 have hy0:x / 2^k≠0:=by
  have:=(Nat.le_div_iff_mul_le hp (x:=1) (y:=x)).2 Y;omega
 obtain ⟨j1,j2⟩:=ru hy hy0
 have j3:=vL hy
 refine w3 h ?_ (.inr ?_)
 ·rw [Nat.pow_add]
  have:=Nat.lt_mul_div_succ x hp
  exact Nat.lt_of_lt_of_le this (Nat.mul_le_mul_left _ j3)
 ·have e:k+jb (x / 2^k) - 1=(jb (x / 2^k) - 1)+k:=by omega
  rw [e,Nat.pow_add]
  exact Nat.le_trans (Nat.mul_le_mul_right _ j2) (Nat.div_mul_le_self x (2^k))
theorem rx {s:ByteArray} (h:((List.range 256).all fun i=>(s[i]?).map UInt8.toNat == some (jb i))=true) {i:Nat} (hi:i<256):(s[i]?).map UInt8.toNat=some (jb i):=by
 have:=List.all_eq_true.1 h i (List.mem_range.2 hi)
 simpa using this
attribute [local irreducible] J PJ aP one slT cv bA bM exT cq eP aW aU slV VT.le Ret bO
theorem yq (x:Nat) (hx:x<4294967296):Ok Tryz.prog 142 [one (.int .u32 x)] (one (.int .i64 (jb x))):=by
 refine Ok.enter Tryz.func142 Z Tryz.ntmps142 Z (fun w O => ?_)
 have key : ∀ y:Nat,y<256→jb y≤8:=fun y hy=>rv (n:=8) Y S
 by_cases h1:65536≤x
 ·have e1:=pb (k:=16) (x:=x) Y Y
  by_cases h2:256≤x / 2^16
  ·have e2:=pb (k:=8) (x:=x / 2^16) Y Y
   have k2:=key (x / 2^16 / 2^8) Y
   refine ae (aj (Ea Z (Ec (aa (ae (ae (aj (DZ Z (DY (sT Y (j9 Z Z)) ?_)))))))))
   refine Ec (aa (aG Z (ae (aj (DZ Z (DY (oL (s:=16) Z Z S) (Ea Z (Ec (aa ?_)))))))))
   refine aj (Ea Z (Ec (aa (ae (ae (aj (DZ Z (DY (sT Y (j9 Z Z)) (Ec ?_)))))))))
   refine aa (aG Z (ae (aj (DZ Z (DY (oL (s:=8) Z Z S) (Ea Z (Ec (aa (aj ?_)))))))))
   refine DZ Z (DY (ck Z Z (aR Y Y)) (Ea Z (Ec (aa (ae (aj (DZ Z (DZ Z (DY (nZ Z Y Y) ?_)))))))))
   refine DY (jC X Z Z (rx W Y)) (DY (eZ Z Y Y) (DY (ck Z Z (aR Y Y)) (Ea Z (Ec (aa (aD ?_))))))
   refine aK Tryz.results142 (.tmp Z (ao (by congr 1;omega)))
  ·have k2:=key (x / 2^16) Y
   refine ae (aj (Ea Z (Ec (aa (ae (ae (aj (DZ Z (DY (sT Y (j9 Z Z)) ?_)))))))))
   refine Ec (aa (aG Z (ae (aj (DZ Z (DY (oL (s:=16) Z Z S) (Ea Z (Ec (aa ?_)))))))))
   refine aj (Ea Z (Ec (aa (ae (ae (aj (DZ Z (DY (sF Y (j9 Z Z)) (Ec ?_)))))))))
   refine aa (az Z (av (aa (ae (aj (DZ Z (DZ Z (DY (nZ Z Y Y) (DY (jC X Z Z (rx W Y)) ?_)))))))))
   refine DY (eZ Z Y Y) (DY (ck Z Z (aR Y Y)) (Ea Z (Ec (aa (aD ?_)))))
   refine aK Tryz.results142 (.tmp Z (ao (by congr 1;omega)))
 ·by_cases h2:256≤x
  ·have e2:=pb (k:=8) (x:=x) Y Y
   have k2:=key (x / 2^8) Y
   refine ae (aj (Ea Z (Ec (aa (ae (ae (aj (DZ Z (DY (sF Y (j9 Z Z)) ?_)))))))))
   refine Ec (aa (az Z (av (aa (ae (ae (aj (DZ Z (DY (sT Y (j9 Z Z)) ?_)))))))))
   refine Ec (aa (aG Z (ae (aj (DZ Z (DY (oL (s:=8) Z Z S) (Ea Z (Ec (aa ?_)))))))))
   refine aj (DZ Z (DY (ck Z Z (aR Y Y)) (Ea Z (Ec (aa (ae (aj (DZ Z (DZ Z ?_)))))))))
   refine DY (nZ Z Y Y) (DY (jC X Z Z (rx W Y)) (DY (eZ Z Y Y) (DY (ck Z Z (aR Y Y)) (Ea Z (Ec (aa (aD ?_)))))))
   refine aK Tryz.results142 (.tmp Z (ao (by congr 1;omega)))
  ·have k2:=key x Y
   refine ae (aj (Ea Z (Ec (aa (ae (ae (aj (DZ Z (DY (sF Y (j9 Z Z)) ?_)))))))))
   refine Ec (aa (az Z (av (aa (ae (ae (aj (DZ Z (DY (sF Y (j9 Z Z)) ?_)))))))))
   refine Ec (aa (az Z (av (aa (ae (aj (DZ Z (DZ Z (DY (nZ Z Y Y) ?_)))))))))
   refine DY (jC X Z Z (rx W Y)) (DY (eZ Z Y Y) (DY (ck Z Z (aR Y Y)) (Ea Z (Ec (aa (aD ?_))))))
   refine aK Tryz.results142 (.tmp Z (ao (by congr 1;omega)))
theorem Am (x:Nat) (hx:x<4294967296):Ok Tryz.prog 136 [one (.int .u32 x)] (one (.int .i64 ((32 - jb x:Nat):Int))):=by
 have h:=rv (n:=32) (x:=x) Y S
 refine Ok.enter Tryz.func136 Z Tryz.ntmps136 Z (fun w O => ?_)
 refine ae (aj (Ea Z (Ec (aa (ae (aj (DZ Z ?_)))))))
 refine DY (am (yq _ (by assumption)) Z ⟨H,Ed⟩) ?_
 refine DY (e9 Z Z (aR Y Y)) (Ea Z (Ec (aa (aD ?_))))
 refine aK Tryz.results136 (.tmp Z (ao (by congr 1;omega)))
theorem yr (i:Nat):4294967296^i=2^(32*i):=by rw [Nat.pow_mul]
theorem pc {l:List Nat} (h:bI l) (i:Nat):lv (l.take i)<2^(32*i):=by
 have h1:=ix (h.take i)
 rw [← yr]
 exact Nat.lt_of_lt_of_le h1 (Nat.pow_le_pow_right S (by simp;omega))
theorem uC {d e i:Nat} (hd:d<4294967296) (hb:e<2^(32*i)) (hi:i≤1):d*2^(32*i)+e<18446744073709551616:=by
 rcases (show i=0∨i=1 by omega) with rfl | rfl
 ·rw [show 2^(32*0)=1 by simp] at hb ⊢; omega
 ·rw [show 2^(32*1)=4294967296 by simp] at hb ⊢
  have h1:d*4294967296+e<(d+1)*4294967296:=by rw [Nat.add_mul]; exact Nat.add_lt_add_left (by rw [Nat.one_mul]; exact hb) _
  exact Nat.lt_of_lt_of_le h1 (Nat.le_trans (Nat.mul_le_mul_right _ hd) (Nat.le_of_eq Z))
theorem n9 (l:List Nat) (hl:bI l) (h2:l.length≤2):Ok Tryz.prog 131 [cr l] (one (.int .u64 (lv l))):=by
 refine Ok.enter Tryz.func131 Z Tryz.ntmps131 Z (fun w O => ?_)
 refine ae (aj (Ea Z (Ec (aa (ae (aj (Ea Z (Ec (aa ?_)))))))))
 refine ae (ae (aj (DZ Z (DY (aZ Z) (DZ Z (Ec (aa (ar (cm (Γ' := [(2,_),(3,_),(6,_),(7,_),(8,_)]) DT (SubM.refl _) ?_)))))))))
 refine bw (σ:=Nat) (Γk := [(2,_),(6,_),(7,_)]) DT (fun i => [(8,one (.int .i64 (i:Nat))),(3,one (.int .u64 (lv (l.take i))))]) (fun i M0=>M0) (fun i=>i≤l.length) (fun i=>l.length - i) (0) (Nat.zero_le _) DU (.nil) (fun i hi => ?_)
 refine bN (Γ' := [(8,_),(3,_),(2,_),(6,_),(7,_)]) (M' := []) Z Z (ae (aj (DY (a7 Z Z) (Ec (aa (ae ?_))))))
 refine oF Z (fun hc => ?_) (fun hc => ?_)
 ·have hi1:i≤1:=by omega
  have hd:=bh hl i
  have hb:=pc hl i
  have hab:=uC hd hb hi1
  have ha:l.getD i 0*2^(32*i)<18446744073709551616:=Nat.lt_of_le_of_lt (Nat.le_add_right _ _) hab
  have hn:lv (l.take i)+l.getD i 0*2^(32*i)=lv (l.take (i+1)):=by
   rw [bL Y,yr,Nat.mul_comm]
  refine av (aa (ae (ar (ae (aj (DZ Z (DY (ax Z Z Y) (DY (aJ Z) (Ea Z ?_)))))))))
  refine Ea Z (Ec (aa (aj (DZ Z (DZ Z (DY (bS Z Y) (DZ Z (DY (BW 32 _ Z Z Y) (DY (lF Z Z Y Y) ?_)))))))))
  refine DY (Bv Z Z Y Y) (Ea Z (Ec (aB (aa (aj (DY (bn _ 1 Z Z Y) (DZ Z (Ec ?_))))))))
  rw [hn]
  refine aN (i+1) Y Y DU (.nil)
 ·have e:i=l.length:=by omega
  subst e
  rw [List.take_length]
  refine aY (aw (aw (aE (aa (ae (aj (DZ Z (Ea Z (Ec ?_)))))))))
  refine aa (aD ?_)
  refine aK Tryz.results131 (.tmp Z H)
end Tor
end
section
namespace Tor
open Go Go.RowKit Go.Proofs
structure ShortR (l:List Nat) (d:Nat) (s:List Nat × Nat × Nat):Prop where
 le:s.2.1≤l.length
 len:s.1.length=l.length
 lim:bI s.1
 r:s.2.2<d
 zero : ∀ k,k<s.2.1→s.1.getD k 0=0
 val:lv l=lv (l.take s.2.1)+(lv s.1*d+4294967296^s.2.1*s.2.2)
theorem ShortR.start {l:List Nat} {d:Nat} (hd:0<d):ShortR l d (List.replicate l.length 0,l.length,0) :=
 ⟨Nat.le_refl _,by simp,bI.replicate _,hd,fun k _=>cL _ _,by simp [eE]⟩
theorem ShortR.bound {x r d:Nat} (hx:x<4294967296) (hr:r<d) (hd:d<4294967296):r*4294967296+x<18446744073709551616∧(r*4294967296+x) / d<4294967296:=by
 have h1:r*4294967296+x<d*4294967296:=by omega
 exact ⟨by omega,Nat.div_lt_of_lt_mul h1⟩
theorem ShortR.step {l:List Nat} {d:Nat} {z:List Nat} {n r:Nat} (h:ShortR l d (z,n+1,r)) (hl:bI l) (hd:d<4294967296) :
  ShortR l d (z.set n ((r*4294967296+l.getD n 0) / d),n,(r*4294967296+l.getD n 0) % d):=by
 have hn:n<l.length:=h.le
 have hz:n<z.length:=by have:=h.len;simp only at this;omega
 have hx:=bh hl n
 have hr:r<d:=h.r
 have hb:=ShortR.bound hx hr hd
 have h0:z.getD n 0=0:=h.zero n (Nat.lt_succ_self n)
 have hs:=gM (l:=z) (v:=(r*4294967296+l.getD n 0) / d) hz
 rw [h0,Nat.mul_zero,Nat.add_zero] at hs
 refine ⟨Nat.le_of_lt hn,by rw [List.length_set]; exact h.len,bI.set h.lim hb.2,Nat.mod_lt _ Y,fun k hk => ?_,?_⟩
 ·simp only at hk ⊢
  rw [ev hz,if_neg Y]; exact h.zero k (Nat.lt_succ_of_lt hk)
 ·have hv:lv l=lv (l.take (n+1))+(lv z*d+4294967296^(n+1)*r):=h.val
  simp only
  rw [hs,hv,bL hn]
  have e:=Nat.div_add_mod (r*4294967296+l.getD n 0) d
  generalize (r*4294967296+l.getD n 0) / d=q at *
  generalize (r*4294967296+l.getD n 0) % d=m at *
  generalize l.getD n 0=x at *
  rw [Nat.pow_succ]
  generalize 4294967296^n=B at *
  have e2:B*(d*q+m)=B*(r*4294967296+x):=by rw [e]
  have e3:(lv z+B*q)*d=lv z*d+B*(d*q):=by rw [Nat.add_mul,Nat.mul_assoc,Nat.mul_comm q d]
  have e4:B*4294967296*r=B*(r*4294967296):=by rw [Nat.mul_assoc,Nat.mul_comm r]
  rw [e3,e4]
  rw [Nat.mul_add,Nat.mul_add] at e2
  omega
theorem ShortR.finish {l:List Nat} {d:Nat} {z:List Nat} {r:Nat} (h:ShortR l d (z,0,r)):lv z=lv l / d∧r=lv l % d:=by
 have hv:lv l=lv (l.take 0)+(lv z*d+4294967296^0*r):=h.val
 have hr:r<d:=h.r
 have e:lv l=lv z*d+r:=by simpa [lv] using hv
 rw [e]
 constructor
 ·rw [Nat.mul_comm,Nat.mul_add_div Y,Nat.div_eq_of_lt hr]; rfl
 ·rw [Nat.mul_comm,Nat.mul_add_mod,Nat.mod_eq_of_lt hr]
theorem ry {b:Option Nat} {T:TypeId} {n cap:Nat} {z:List Nat} {k v v':Nat} (hk:k<z.length) (hv:v'=v):Own.le (aU b T .one n cap (upd (fun q=>one (.int .u32 (z.getD q 0:Nat))) k (one (.int .u32 (v':Nat))))) (aU b T .one n cap (fun q=>one (.int .u32 ((z.set k v).getD q 0:Nat)))):=by
 subst hv
 exact bQ (fun q _=>by unfold upd;rw [ev hk]; split <;> rfl)
attribute [local irreducible] J PJ aP one slT cv bA bM exT cq eP aW aU slV VT.le Ret bO
theorem ys (l:List Nat) (d:Nat) (hl:bI l) (h1:l.length≤1099511627776) (hd0:0<d) (hd:d<4294967296):Ok Tryz.prog 135 [cr l,one (.int .u32 (d:Nat))] (bM [nq (lv l / d),one (.int .u32 ((lv l % d:Nat):Int))]):=by
 refine Ok.enter Tryz.func135 Z Tryz.ntmps135 Z (fun w O => ?_)
 refine ae (aj (Ea Z (Ea Z (Ec (aa (ae (aj (DZ Z (DY (aZ Z) ?_)))))))))
 refine ci l.length l.length Z Z Z Z (Nat.le_refl _) Z Z Y Z Z (fun bz => ?_)
 refine Ea Z (Ec (aa (ae (aj (Ea Z (Ec (aa (ae (ae ?_)))))))))
 refine aj (DZ Z (DY (aZ Z) (DY (e9 Z Z (aR Y Y)) (Ea Z (Ec (aa (ar (cm (Γ' := [(0,_),(1,_),(4,_),(5,_),(6,_),(7,_),(8,_)]) DT (SubM.refl _) ?_))))))))
 refine bw (σ:=List Nat × Nat × Nat) (Γk := [(0,_),(1,_),(4,_),(5,_),(6,_)]) DT (fun s => [(8,one (.int .i64 ((s.2.1:Nat) - 1:Int))),(7,one (.int .u64 (s.2.2:Nat)))]) (fun s M0=>(M0.set 0 (aU (some bz) 116 .one l.length l.length (fun q=>one (.int .u32 (s.1.getD q 0:Nat)))))) (fun s=>ShortR l d s) (fun s=>s.2.1) ((List.replicate l.length 0,l.length,0)) (ShortR.start hd0) DU (.keep (bQ (fun q _=>by rw [cL]; rfl)) (.nil)) (fun s hs => ?_)
 refine bN (Γ' := [(8,_),(7,_),(0,_),(1,_),(4,_),(5,_),(6,_)]) (M' := [_]) Z Z ?_
 obtain ⟨z,n,r⟩:=s
 dsimp only at hs ⊢
 refine ae (ae (aj (DZ Z (DY (j9 Z Z) (Ec (aa ?_))))))
 cases n with
 | zero =>
  obtain ⟨f1,f2⟩:=hs.finish
  have hlen:z.length=l.length:=hs.len
  have hr:r<d:=hs.r
  rw [← f1, ← f2]
  refine nY Z Y (aY (aw (aw (aE (aa (ae (aj (DZ Z (DZ Z ?_)))))))))
  refine DY (cP Z) (Ea Z (Ea Z (Ec (aa (aD (cR (t:=4) (i:=0) Z Z ?_))))))
  refine fw Tryz.results135 (.tmp Z (VT.le_trans (dg (m:=z.length) (ψ:=fun i=>one (.int .u32 (z.getD i 0:Nat))) hlen.symm (fun q hq=>rfl)) (gu (l:=z) hs.lim Z))) (.tmp Z (ao (by congr 1;omega)))
 | succ n =>
  have hx:=bh hl n
  have hr:r<d:=hs.r
  have hb:=ShortR.bound hx hr hd
  have hst:=hs.step hl hd
  have hn:n<l.length:=hs.le
  have hzn:n<z.length:=by have:=hs.len;dsimp only at this;omega
  have en:((n+1:Nat):Int) - 1=(n:Nat):=by omega
  rw [en]
  refine nX Z Y (av (aa (ae (ar (ae (aj (DZ Z (DY (lF (s:=32) Z Z Y Y) (DZ Z ?_)))))))))
  refine DZ Z (DY (ax Z Z Y) (DY (aJ Z) (DY (bS Z Y) (DY (nk Z Z Y Y) (Ea Z (Ec (aa (ae (aj ?_)))))))))
  refine DZ Z (DZ Z (DZ Z (DZ Z (DY (bS Z Y) (DY (lD Z Z Y Y) (DY (cP Z) (DY (an Z Z Y) ?_)))))))
  (refine aA 0 Z Z Z ?_ Z ?_;omega)
  refine Ec (aa (aj (DZ Z (DZ Z (DY (bS Z Y) (DY (gi _ Z Z Z Y) (Ea Z (Ec (aB ?_)))))))))
  refine aa (aj (DZ Z (DY (e9 Z Z (aR Y Y)) (Ea Z (Ec ?_)))))
  refine aN ((z.set n ((r*4294967296+l.getD n 0) / d),n,(r*4294967296+l.getD n 0) % d)) (hst) (by (simp only []; omega)) DU (.keep (ry hzn (Nat.mod_eq_of_lt hb.2)) (.nil))
end Tor
end
section
namespace Tor
open Go Go.RowKit Go.Proofs
structure ShiftR (l:List Nat) (s:Nat) (p:List Nat × Nat × Nat):Prop where
 le:p.2.1≤l.length
 len:p.1.length=l.length+1
 lim:bI p.1
 c:p.2.2<2^s
 zero : ∀ k,p.2.1≤k→p.1.getD k 0=0
 val:lv p.1+4294967296^p.2.1*p.2.2=lv (l.take p.2.1)*2^s
theorem ShiftR.start (l:List Nat) (s:Nat):ShiftR l s (List.replicate (l.length+1) 0,0,0) :=
 ⟨Nat.zero_le _,by simp,bI.replicate _,Nat.two_pow_pos s,fun k _=>cL _ _,by simp [eE,lv]⟩
theorem ShiftR.bound {d c s:Nat} (hd:d<4294967296) (hc:c<2^s) (hs:s<32):d*2^s+c<4294967296*2^s∧d*2^s+c<18446744073709551616∧d*2^s<18446744073709551616∧2^s<4294967296:=by
 have h1:(d+1)*2^s≤4294967296*2^s:=Nat.mul_le_mul_right _ hd
 have h2:2^s≤2^31:=Nat.pow_le_pow_right S Y
 rw [Nat.add_mul,Nat.one_mul] at h1
 have h3:(2:Nat)^31=2147483648:=rfl
 generalize d*2^s=x at *
 generalize 2^s=y at *
 omega
theorem ShiftR.step {l:List Nat} {s:Nat} {z:List Nat} {i c:Nat} (h:ShiftR l s (z,i,c)) (hl:bI l) (hs:s<32) (hi:i<l.length) :
  ShiftR l s (z.set i ((c+l.getD i 0*2^s) % 4294967296),i+1,(c+l.getD i 0*2^s) / 4294967296):=by
 have hlen:z.length=l.length+1:=h.len
 have hz:i<z.length:=by omega
 have hc:c<2^s:=h.c
 have hb:=ShiftR.bound (bh hl i) hc hs
 have h0:z.getD i 0=0:=h.zero i (Nat.le_refl _)
 have hv:lv z+4294967296^i*c=lv (l.take i)*2^s:=h.val
 have hse:=gM (l:=z) (v:=(c+l.getD i 0*2^s) % 4294967296) hz
 rw [h0,Nat.mul_zero,Nat.add_zero] at hse
 refine ⟨hi,by rw [List.length_set]; exact hlen,bI.set h.lim (Nat.mod_lt _ S),?_,fun k hk => ?_,?_⟩
 ·show (c+l.getD i 0*2^s) / 4294967296<2^s
  exact Nat.div_lt_of_lt_mul Y
 ·simp only at hk ⊢
  rw [ev hz,if_neg Y]; exact h.zero k (by show i≤k;omega)
 ·show lv (z.set i _)+4294967296^(i+1)*_=lv (l.take (i+1))*2^s
  dsimp only
  rw [hse,bL hi,Nat.pow_succ,Nat.add_mul, ← hv]
  generalize l.getD i 0=x at *
  generalize 2^s=p at *
  have e:=Nat.div_add_mod (c+x*p) 4294967296
  generalize (c+x*p) / 4294967296=q at *
  generalize (c+x*p) % 4294967296=m at *
  generalize 4294967296^i=B at *
  have e2:B*(4294967296*q+m)=B*(c+x*p):=by rw [e]
  rw [Nat.mul_add,Nat.mul_add, ← Nat.mul_assoc, ← Nat.mul_assoc] at e2
  omega
theorem ShiftR.finish {l:List Nat} {s:Nat} {z:List Nat} {c:Nat} (h:ShiftR l s (z,l.length,c)) (hs:s<32) :
  (z.set l.length c).length=l.length+1∧bI (z.set l.length c)∧lv (z.set l.length c)=lv l*2^s∧c<4294967296∧l.length<z.length:=by
 have hlen:z.length=l.length+1:=h.len
 have hc:c<2^s:=h.c
 have hb:=ShiftR.bound (d:=0) S hc hs
 have h0:z.getD l.length 0=0:=h.zero _ (Nat.le_refl _)
 have hv:lv z+4294967296^l.length*c=lv (l.take l.length)*2^s:=h.val
 have hse:=gM (l:=z) (k:=l.length) (v:=c) Y
 rw [h0,Nat.mul_zero,Nat.add_zero] at hse
 rw [List.take_length] at hv
 exact ⟨by rw [List.length_set]; exact hlen,bI.set h.lim Y,by rw [hse,hv],by omega,by omega⟩
abbrev gN (z:List Nat):Nat→VT:=fun q=>one (.int .u32 (z.getD q 0:Nat))
theorem gE {b:Option Nat} {T:TypeId} {n cap:Nat} {z:List Nat} {k v v':Nat} (hk:k<z.length) (hv:v'=v):Own.le (aU b T .one n cap (upd (gN z) k (one (.int .u32 (v':Nat))))) (aU b T .one n cap (gN (z.set k v))):=ry hk hv
abbrev rz (l:List Nat) (s:Nat):Type := {p:Nat × List Nat // p.2.length=l.length+1∧bI p.2∧lv p.2=lv l*2^s}
attribute [local irreducible] J PJ aP one slT cv bA bM exT cq eP aW aU slV VT.le Ret bO
theorem s7 (l:List Nat) (s:Nat) (hl:bI l) (h1:l.length≤1099511627776) (hs:s<32):OkM Tryz.prog 137 [cr l,one (.int .i64 (s:Nat))] (fun p:rz l s=>one (slV (some p.1.1) (l.length+1) (l.length+1))) (fun p => [aU (some p.1.1) 116 .one (l.length+1) (l.length+1) (gN p.1.2)]):=by
 refine OkM.enter Tryz.func137 Z Tryz.ntmps137 Z (fun w O => ?_)
 refine ae (aj (Ea Z (Ec (aa (ae (aj (DZ Z (DY (aZ Z) (DY (bn _ 1 Z Z Y) ?_)))))))))
 refine ci (l.length+1) (l.length+1) Z Z (by simp) (by simp) (Nat.le_refl _) Z Z Y Z Z (fun bz => ?_)
 refine Ea Z (Ec (aa (ae (aj (Ea Z (Ec (aa (ae (ae ?_)))))))))
 refine aj (DZ Z (DY (aZ Z) (DZ Z (Ec (aa (ar (cm (Γ' := [(0,_),(1,_),(4,_),(5,_),(6,_),(13,_),(14,_),(15,_)]) DT (SubM.refl _) ?_)))))))
 refine bw (σ:=List Nat × Nat × Nat) (Γk := [(0,_),(1,_),(4,_),(5,_),(13,_),(14,_)]) DT (fun p => [(15,one (.int .i64 (p.2.1:Nat))),(6,one (.int .u64 (p.2.2:Nat)))]) (fun p M0=>(M0.set 0 (aU (some bz) 116 .one (l.length+1) (l.length+1) (gN p.1)))) (fun p=>ShiftR l s p) (fun p=>l.length - p.2.1) ((List.replicate (l.length+1) 0,0,0)) (ShiftR.start l s) DU (.keep (bQ (fun q _=>by unfold gN;rw [cL]; rfl)) (.nil)) (fun p hp => ?_)
 refine bN (Γ' := [(15,_),(6,_),(0,_),(1,_),(4,_),(5,_),(13,_),(14,_)]) (M' := [_]) Z Z ?_
 obtain ⟨z,i,c⟩:=p
 dsimp only at hp ⊢
 refine ae (aj (DY (a7 Z Z) (Ec (aa (ae ?_)))))
 refine oF Z (fun hcc => ?_) (fun hcc => ?_)
 ·have hc:c<2^s:=hp.c
  have hi:i<l.length:=by omega
  have hb:=ShiftR.bound (bh hl i) hc hs
  have hst:=hp.step hl hs hi
  have hx:=bh hl i
  have hzn:i<z.length:=by have:=hp.len;dsimp only at this;omega
  refine av (aa (ae (ar (ae (aj (DZ Z (DY (ax Z Z Y) (DY (aJ Z) (Ea Z ?_)))))))))
  refine Ea Z (Ec (aa (ae (aj (DZ Z (DZ Z (DY (bS Z Y) (DZ Z (DY (lF Z Z Y Y) ?_)))))))))
  refine DY (Bv Z Z Y Y) (Ea Z (Ec (aa (ae (aj (DZ Z (DZ Z (DZ Z (DY (cP Z) ?_)))))))))
  refine DY (an Z Z Y) ?_
  (refine aA 0 Z Z Z ?_ Z ?_;omega)
  refine Ec (aa (aj (DZ Z (DY (gX Z) (Ea Z (Ec (aB (aa (aj ?_)))))))))
  refine DY (bn _ 1 Z Z Y) (DZ Z (Ec ?_))
  refine aN ((z.set i ((c+l.getD i 0*2^s) % 4294967296),i+1,(c+l.getD i 0*2^s) / 4294967296)) (hst) (by (simp only []; omega)) DU (.keep (gE hzn Z) (.nil))
 ·have e:i=l.length:=by have:=hp.le;dsimp only at this;omega
  subst e
  obtain ⟨f1,f2,f3,f4,f5⟩:=hp.finish hs
  have hc:c<2^s:=hp.c
  refine aY (aw (aw (aE (aa (ae (aj (DZ Z (DZ Z (DY (aZ Z) ?_)))))))))
  refine DZ Z (DY (cP Z) (DY (an Z Z Y) ?_))
  (refine aA 0 Z Z Z ?_ Z ?_;omega)
  refine Ec (aa (ae (aj (DZ Z (Ea Z (Ec (aa (aD ?_))))))))
  refine l7 (⟨(bz,z.set l.length c),f1,f2,f3⟩:rz l s) Tryz.results137 (.tmp Z H) (.keep (gE f5 (Nat.mod_eq_of_lt f4)) .nil)
end Tor
end
section
namespace Tor
def win (DR:List Nat) (j m:Nat):List Nat:=(DR.drop j).take m
theorem vM {DR:List Nat} {j m:Nat} (h:j+m≤DR.length):(win DR j m).length=m:=by unfold win;simp;omega
theorem iE {DR:List Nat} {j m i:Nat} (h:i<m):(win DR j m).getD i 0=DR.getD (j+i) 0:=by
 unfold win;simp [List.getD,List.getElem?_take,h]
theorem my {DR:List Nat} {j m i x:Nat} (h:i<m):win (DR.set (j+i) x) j m=(win DR j m).set i x:=by
 unfold win;rw [List.drop_set,if_neg Y,Nat.add_sub_cancel_left,List.take_set]
theorem bI.win {DR:List Nat} (h:bI DR) (j m:Nat):bI (win DR j m):=fun d hd=>h d (List.mem_of_mem_drop (List.mem_of_mem_take hd))
theorem An {l:List Nat} {k:Nat} (h:l.length=k+2):lv l=lv (l.take k)+4294967296^k*(l.getD k 0+4294967296*l.getD (k+1) 0):=by
 have e:l=l.take (k+2):=by rw [List.take_of_length_le Y]
 conv=>lhs;rw [e]
 rw [bL Y,bL Y,Nat.pow_succ,Nat.mul_add,Nat.mul_assoc]; omega
theorem Ao {l:List Nat} {k:Nat} (h:l.length=k+3):lv l=lv (l.take k)+4294967296^k*(l.getD k 0+4294967296*(l.getD (k+1) 0+4294967296*l.getD (k+2) 0)):=by
 have e:l=l.take (k+3):=by rw [List.take_of_length_le Y]
 conv=>lhs;rw [e]
 rw [bL Y,bL Y,bL Y]
 simp only [Nat.pow_succ,Nat.mul_add,Nat.mul_assoc]; omega
structure Gss (U V B P h v2 top u2:Nat):Prop where
 P0:0<P
 iv1:(h*B+v2)*P≤V
 iv2:V<(h*B+v2+1)*P
 iu1:(top*B+u2)*P≤U
 iu2:U<(top*B+u2+1)*P
 l2:v2<B
 m2:u2<B
 h0:0<h
 lt:U<V*B
theorem Gss.V0 {U V B P h v2 top u2:Nat} (g:Gss U V B P h v2 top u2):0<V:=by
 rcases Nat.eq_zero_or_pos V with h | h
 ·have:=g.lt;rw [h] at this;simp at this
 ·exact h
theorem Gss.top {U V B P h v2 top u2:Nat} (g:Gss U V B P h v2 top u2):top<(h+1)*B:=by
 have h1:top*(B*P)<(h+1)*B*(B*P):=by
  calc top*(B*P)=top*B*P:=(Nat.mul_assoc _ _ _).symm
   _≤(top*B+u2)*P:=Nat.mul_le_mul_right _ (Nat.le_add_right _ _)
   _≤U:=g.iu1
   _<V*B:=g.lt
   _≤(h*B+v2+1)*P*B:=Nat.mul_le_mul_right _ (Nat.le_of_lt g.iv2)
   _≤((h+1)*B)*P*B:=Nat.mul_le_mul_right _ (Nat.mul_le_mul_right _ (by rw [Nat.add_mul,Nat.one_mul]; have:=g.l2;omega))
   _=(h+1)*B*(B*P):=by rw [Nat.mul_assoc,Nat.mul_comm P B]
 exact Nat.lt_of_mul_lt_mul_right h1
theorem Gss.q_lt {U V B P h v2 top u2:Nat} (g:Gss U V B P h v2 top u2):U / V<B:=Nat.div_lt_of_lt_mul g.lt
theorem Gss.start {U V B P h v2 top u2:Nat} (g:Gss U V B P h v2 top u2):U / V≤top / h:=by
 rw [Nat.le_div_iff_mul_le g.h0]
 have h1:(U / V*h)*(B*P)<(top+1)*(B*P):=by
  calc (U / V*h)*(B*P)=U / V*(h*B*P):=by rw [Nat.mul_assoc,Nat.mul_assoc]
   _≤U / V*((h*B+v2)*P):=Nat.mul_le_mul_left _ (Nat.mul_le_mul_right _ (Nat.le_add_right _ _))
   _≤U / V*V:=Nat.mul_le_mul_left _ g.iv1
   _≤U:=Nat.div_mul_le_self _ _
   _<(top*B+u2+1)*P:=g.iu2
   _≤((top+1)*B)*P:=Nat.mul_le_mul_right _ (by rw [Nat.add_mul,Nat.one_mul]; have:=g.m2;omega)
   _=(top+1)*(B*P):=Nat.mul_assoc _ _ _
 exact Nat.lt_succ_iff.1 (Nat.lt_of_mul_lt_mul_right h1)
theorem Gss.low {U V B P h v2 top u2:Nat} (g:Gss U V B P h v2 top u2) {q r:Nat} (e:q*h+r=top) (hc:r*B+u2<q*v2):U / V<q:=by
 have h1:(U / V*(h*B+v2))*P<(top*B+u2+1)*P:=by
  calc (U / V*(h*B+v2))*P=U / V*((h*B+v2)*P):=Nat.mul_assoc _ _ _
   _≤U / V*V:=Nat.mul_le_mul_left _ g.iv1
   _≤U:=Nat.div_mul_le_self _ _
   _<(top*B+u2+1)*P:=g.iu2
 have h2:=Nat.lt_of_mul_lt_mul_right h1
 have h3:top*B+u2<q*(h*B+v2):=by
  rw [← e,Nat.add_mul,Nat.mul_add,Nat.mul_assoc]; omega
 exact Nat.lt_of_mul_lt_mul_right (Nat.lt_of_lt_of_le h2 h3)
theorem Gss.done {U V B P h v2 top u2:Nat} (g:Gss U V B P h v2 top u2) {q r:Nat} (e:q*h+r=top) (hq:q<B) (hc:q*v2≤r*B+u2∨B≤r):q≤U / V+1:=by
 rcases Nat.eq_zero_or_pos q with h0 | h0
 ·rw [h0]; exact Nat.zero_le _
 obtain ⟨p,rfl⟩ : ∃ p,q=p+1:=⟨q - 1,by omega⟩
 have hh:(p+1)*v2≤r*B+u2:=by
  rcases hc with hc | hc
  ·exact hc
  ·have h1:(p+1)*v2≤B*B:=Nat.mul_le_mul (Nat.le_of_lt hq) (Nat.le_of_lt g.l2)
   have h2:B*B≤r*B:=Nat.mul_le_mul_right _ hc
   omega
 have h3:(p+1)*(h*B+v2)≤top*B+u2:=by
  rw [← e,Nat.add_mul _ r,Nat.mul_add,Nat.mul_assoc]; omega
 have h4:p*(h*B+v2+1)≤top*B+u2:=by
  refine Nat.le_trans ?_ h3
  rw [Nat.add_mul p 1,Nat.mul_add p (h*B+v2) 1,Nat.one_mul,Nat.mul_one]
  have:B≤h*B:=Nat.le_mul_of_pos_left _ g.h0
  omega
 have h5:p*V≤U:=by
  calc p*V≤p*((h*B+v2+1)*P):=Nat.mul_le_mul_left _ (Nat.le_of_lt g.iv2)
   _=p*(h*B+v2+1)*P:=(Nat.mul_assoc _ _ _).symm
   _≤(top*B+u2)*P:=Nat.mul_le_mul_right _ h4
   _≤U:=g.iu1
 have:=(Nat.le_div_iff_mul_le g.V0).2 h5
 omega
theorem Cd {u v:List Nat} {k:Nat} (hu:bI u) (hv:bI v) (lu:u.length=k+3) (lw:v.length=k+2) (hh:0<v.getD (k+1) 0) (hlt:lv u<lv v*4294967296) :
  Gss (lv u) (lv v) 4294967296 (4294967296^k) (v.getD (k+1) 0) (v.getD k 0) (u.getD (k+2) 0*4294967296+u.getD (k+1) 0) (u.getD k 0):=by
 have e1:=Ao lu
 have e2:=An lw
 have h1:=ix (hu.take k)
 have h2:=ix (hv.take k)
 rw [List.length_take_of_le Y] at h1 h2
 have g1:=bh hu k
 have g2:=bh hv k
 refine ⟨Nat.pow_pos S,?_,?_,?_,?_,g2,g1,hh,hlt⟩
 ·rw [e2,Nat.mul_comm _ (4294967296^k),show v.getD (k+1) 0*4294967296+v.getD k 0=v.getD k 0+4294967296*v.getD (k+1) 0 by omega]; omega
 ·rw [e2,Nat.mul_comm _ (4294967296^k),show v.getD (k+1) 0*4294967296+v.getD k 0+1=v.getD k 0+4294967296*v.getD (k+1) 0+1 by omega,Nat.mul_add (4294967296^k) _ 1]; omega
 ·rw [e1,Nat.mul_comm _ (4294967296^k),show (u.getD (k+2) 0*4294967296+u.getD (k+1) 0)*4294967296+u.getD k 0=u.getD k 0+4294967296*(u.getD (k+1) 0+4294967296*u.getD (k+2) 0) by omega]; omega
 ·rw [e1,Nat.mul_comm _ (4294967296^k),show (u.getD (k+2) 0*4294967296+u.getD (k+1) 0)*4294967296+u.getD k 0+1=u.getD k 0+4294967296*(u.getD (k+1) 0+4294967296*u.getD (k+2) 0)+1 by omega,Nat.mul_add (4294967296^k) _ 1]; omega
structure GuessR (h top Q:Nat) (p:Nat × Nat):Prop where
 e:p.1*h+p.2=top
 r:p.2<4294967296
 q:Q≤p.1
 m:p.1≤4294967297
structure SubR (u v:List Nat) (q:Nat) (z:List Nat) (i b c:Nat):Prop where
 le:i≤v.length
 len:z.length=u.length
 lim:bI z
 hb:b≤1
 hc:c<4294967296
 val:lv z+q*lv (v.take i)=lv u+4294967296^i*(b+c)
theorem rA {x y b d:Nat} (hx:x<4294967296) (hy:y<4294967296) (hb:b≤1) (hd:d=((x+18446744073709551616 - y) % 18446744073709551616+18446744073709551616 - b) % 18446744073709551616) :
  d % 4294967296+y+b=x+4294967296*(d / 9223372036854775808)∧d / 9223372036854775808≤1:=by
 rcases Nat.lt_or_ge x (y+b) with h | h
 ·have h1:d=x+18446744073709551616 - (y+b):=by omega
  omega
 ·have h1:d=x - (y+b):=by omega
  omega
theorem SubR.start {u v:List Nat} {q:Nat} (hu:bI u):SubR u v q u 0 0 0:=⟨Nat.zero_le _,rfl,hu,by decide,by decide,by simp [lv]⟩
theorem rB {q y c:Nat} (hq:q<4294967296) (hy:y<4294967296) (hc:c<4294967296):q*y<18446744073709551616∧c+q*y<18446744073709551616∧(c+q*y) / 4294967296<4294967296:=by
 have h1:q*y≤4294967295*4294967295:=Nat.mul_le_mul Y Y
 omega
theorem SubR.step {u v z:List Nat} {q i b c d:Nat} (h:SubR u v q z i b c) (hv:bI v) (hq:q<4294967296) (hi:i<v.length) (hl:v.length≤u.length)
  (hd:d=((z.getD i 0+18446744073709551616 - (c+q*v.getD i 0) % 4294967296) % 18446744073709551616+18446744073709551616 - b) % 18446744073709551616) :
  SubR u v q (z.set i (d % 4294967296)) (i+1) (d / 9223372036854775808) ((c+q*v.getD i 0) / 4294967296):=by
 have hlim:=rB hq (bh hv i) h.hc
 obtain ⟨h1,h2⟩:=rA (bh h.lim i) (Nat.mod_lt _ S) h.hb hd
 have hz:i<z.length:=by rw [h.len]; omega
 have hs:=gM (l:=z) (v:=d % 4294967296) hz
 have hvv:=h.val
 refine ⟨hi,by rw [List.length_set]; exact h.len,h.lim.set (Nat.mod_lt _ S),h2,hlim.2.2,?_⟩
 rw [bL hi,Nat.pow_succ,Nat.mul_add q]
 have e:=Nat.div_add_mod (c+q*v.getD i 0) 4294967296
 have e5:q*(4294967296^i*v.getD i 0)=4294967296^i*(q*v.getD i 0):=Nat.mul_left_comm _ _ _
 rw [e5]
 clear hd
 generalize z.getD i 0=x at *
 generalize q*v.getD i 0=y at *
 generalize 4294967296^i=B at *
 generalize (c+y) / 4294967296=t1 at *
 generalize (c+y) % 4294967296=t2 at *
 generalize d % 4294967296=r at *
 generalize d / 9223372036854775808=q' at *
 have e2:B*(r+t2+b)=B*(x+4294967296*q'):=by rw [h1]
 have e3:B*(4294967296*t1+t2)=B*(c+y):=by rw [e]
 simp only [Nat.mul_add,Nat.mul_assoc] at e2 e3 hvv ⊢
 omega
structure BackR (u v:List Nat) (z:List Nat) (i c:Nat):Prop where
 le:i≤v.length
 len:z.length=u.length
 lim:bI z
 hc:c≤1
 val:lv z+4294967296^i*c=lv u+lv (v.take i)
theorem BackR.start {u v:List Nat} (hu:bI u):BackR u v u 0 0:=⟨Nat.zero_le _,rfl,hu,by decide,by simp [lv]⟩
theorem BackR.step {u v z:List Nat} {i c:Nat} (h:BackR u v z i c) (hv:bI v) (hi:i<v.length) (hl:v.length≤u.length) :
  BackR u v (z.set i ((c+(z.getD i 0+v.getD i 0)) % 4294967296)) (i+1) ((c+(z.getD i 0+v.getD i 0)) / 4294967296):=by
 have hz:i<z.length:=by rw [h.len]; omega
 have hs:=gM (l:=z) (v:=(c+(z.getD i 0+v.getD i 0)) % 4294967296) hz
 have hvv:=h.val
 have g1:=bh h.lim i
 have g2:=bh hv i
 have hc:=h.hc
 refine ⟨hi,by rw [List.length_set]; exact h.len,h.lim.set (Nat.mod_lt _ S),by omega,?_⟩
 rw [bL hi,Nat.pow_succ]
 generalize z.getD i 0=x at *
 generalize v.getD i 0=y at *
 generalize 4294967296^i=B at *
 have e:4294967296*((c+(x+y)) / 4294967296)+(c+(x+y)) % 4294967296=c+(x+y):=by omega
 generalize (c+(x+y)) / 4294967296=t1 at *
 generalize (c+(x+y)) % 4294967296=t2 at *
 have e3:B*(4294967296*t1+t2)=B*(c+(x+y)):=by rw [e]
 simp only [Nat.mul_add,Nat.mul_assoc] at e3 hvv ⊢
 omega
theorem SubR.good {u v z:List Nat} {q b c d:Nat} (h:SubR u v q z v.length b c) (hl:u.length=v.length+1) (hV:0<lv v)
  (hQ:lv u / lv v≤q) (hd:d=((z.getD v.length 0+18446744073709551616 - c) % 18446744073709551616+18446744073709551616 - b) % 18446744073709551616) (h0:d / 9223372036854775808=0) :
  q=lv u / lv v∧bI (z.set v.length (d % 4294967296))∧lv (z.set v.length (d % 4294967296))=lv u % lv v:=by
 obtain ⟨h1,h2⟩:=rA (bh h.lim v.length) h.hc h.hb hd
 have hz:v.length<z.length:=by rw [h.len]; omega
 have hs:=gM (l:=z) (v:=d % 4294967296) hz
 have hvv:=h.val
 rw [List.take_length] at hvv
 have e:lv (z.set v.length (d % 4294967296))+q*lv v=lv u:=by
  rw [h0] at h1
  generalize z.getD v.length 0=x at *
  clear hd
  generalize d % 4294967296=r at *
  generalize 4294967296^v.length=B at *
  have e2:B*(r+c+b)=B*(x+4294967296*0):=by rw [h1]
  simp only [Nat.mul_add] at e2 hvv
  omega
 have e4:lv (z.set v.length (d % 4294967296))=lv u - q*lv v:=by omega
 have hle:q≤lv u / lv v:=(Nat.le_div_iff_mul_le hV).2 Y
 have eq:q=lv u / lv v:=by omega
 refine ⟨eq,h.lim.set (Nat.mod_lt _ S),?_⟩
 have:=Nat.div_add_mod (lv u) (lv v)
 rw [e4,eq,Nat.mul_comm]; omega
theorem SubR.bad {u v z:List Nat} {q b c d:Nat} (h:SubR u v q z v.length b c) (hl:u.length=v.length+1) (hV:0<lv v)
  (hQ:lv u / lv v≤q) (hq:q≤lv u / lv v+1) (hd:d=((z.getD v.length 0+18446744073709551616 - c) % 18446744073709551616+18446744073709551616 - b) % 18446744073709551616) (h0:d / 9223372036854775808≠0) :
  q=lv u / lv v+1∧bI (z.set v.length (d % 4294967296))∧lv (z.set v.length (d % 4294967296))+lv v=lv u % lv v+4294967296^(v.length+1):=by
 obtain ⟨h1,h2⟩:=rA (bh h.lim v.length) h.hc h.hb hd
 have hz:v.length<z.length:=by rw [h.len]; omega
 have hs:=gM (l:=z) (v:=d % 4294967296) hz
 have hvv:=h.val
 rw [List.take_length] at hvv
 have hL:bI (z.set v.length (d % 4294967296)):=h.lim.set (Nat.mod_lt _ S)
 have hlt:=ix hL
 rw [List.length_set,h.len,hl] at hlt
 have h3:d / 9223372036854775808=1:=by omega
 have e:lv (z.set v.length (d % 4294967296))+q*lv v=lv u+4294967296^(v.length+1):=by
  rw [h3] at h1
  generalize z.getD v.length 0=x at *
  clear hd hL hlt h0 h2 h3
  generalize lv (z.set v.length (d % 4294967296))=y at *
  generalize d % 4294967296=r at *
  rw [Nat.pow_succ]
  generalize 4294967296^v.length=B at *
  have e2:B*(r+c+b)=B*(x+4294967296*1):=by rw [h1]
  simp only [Nat.mul_add] at e2 hvv
  omega
 have hm:=Nat.div_add_mod (lv u) (lv v)
 have hne:q≠lv u / lv v:=fun hx=>by
  rw [hx,Nat.mul_comm] at e;omega
 have eq:q=lv u / lv v+1:=by omega
 refine ⟨eq,hL,?_⟩
 rw [eq,Nat.add_mul,Nat.one_mul,Nat.mul_comm] at e
 omega
theorem BackR.good {u v z:List Nat} {c R x:Nat} (h:BackR u v z v.length c) (hl:u.length=v.length+1) (hV:R<lv v) (hv:bI v)
  (hu:lv u+lv v=R+4294967296^(v.length+1)) (hx:x=(z.getD v.length 0+c) % 4294967296):bI (z.set v.length x)∧lv (z.set v.length x)=R:=by
 have hz:v.length<z.length:=by rw [h.len]; omega
 have hs:=gM (l:=z) (v:=x) hz
 have hvv:=h.val
 rw [List.take_length] at hvv
 have hL:bI (z.set v.length x):=h.lim.set (by rw [hx]; exact Nat.mod_lt _ S)
 have hlt:=ix hL
 rw [List.length_set,h.len,hl] at hlt
 have hzl:=bh h.lim v.length
 have hc:=h.hc
 have hvl:=ix hv
 refine ⟨hL,?_⟩
 rcases Nat.lt_or_ge (z.getD v.length 0+c) 4294967296 with h5 | h5
 ·have h6:x=z.getD v.length 0+c:=by omega
  have e:lv (z.set v.length x)=lv u+lv v:=by
   rw [h6] at hs
   rw [h6]
   rw [Nat.mul_add] at hs
   omega
  omega
 ·have h6:x+4294967296=z.getD v.length 0+c:=by omega
  have e:lv (z.set v.length x)+4294967296^(v.length+1)=lv u+lv v:=by
   generalize lv (z.set v.length x)=y at *
   clear hlt
   rw [hu,Nat.pow_succ]
   generalize z.getD v.length 0=t at *
   rw [hu,Nat.pow_succ] at hvv
   generalize 4294967296^v.length=B at *
   have e2:B*(x+4294967296)=B*(t+c):=by rw [h6]
   simp only [Nat.mul_add] at e2
   omega
  omega
end Tor
end
section
namespace Tor
open Go Go.RowKit Go.Proofs
def iU (W0 DR:List Nat) (j m:Nat):Prop:=DR.length=W0.length∧DR.take j=W0.take j∧DR.drop (j+m)=W0.drop (j+m)
theorem iU.refl (DR:List Nat) (j m:Nat):iU DR DR j m:=⟨rfl,rfl,rfl⟩
theorem iU.set {W0 DR:List Nat} {j m i x:Nat} (h:iU W0 DR j m) (hi:i<m):iU W0 (DR.set (j+i) x) j m :=
 ⟨by rw [List.length_set]; exact h.1,by rw [List.take_set_of_le Y]; exact h.2.1,by rw [List.drop_set_of_lt Y]; exact h.2.2⟩
theorem C2 {q Q:Nat} (h:q=Q+1) (hq:q<4294967296):(q+18446744073709551616 - 1) % 18446744073709551616 % 4294967296=Q:=by omega
structure DgS (W0 v:List Nat) (j k q:Nat) (s:List Nat × Nat × Nat × Nat):Prop where
 out:iU W0 s.1 j (k+3)
 lim:bI s.1
 sub:SubR (win W0 j (k+3)) v q (win s.1 j (k+3)) s.2.1 s.2.2.1 s.2.2.2
structure DgB (W0 W1 v:List Nat) (j k:Nat) (s:List Nat × Nat × Nat):Prop where
 out:iU W0 s.1 j (k+3)
 lim:bI s.1
 back:BackR (win W1 j (k+3)) v (win s.1 j (k+3)) s.2.1 s.2.2
abbrev Ce (DR v:List Nat) (j k:Nat):Type := {W':List Nat // iU DR W' j (k+3)∧bI W'∧lv (win W' j (k+3))=lv (win DR j (k+3)) % lv v}
theorem GuessR.aux {top h:Nat} (ht:top<(h+1)*4294967296) (hh:2147483648≤h):top<h*4294967298:=by
 have e1:h*4294967298=h*4294967296+h*2:=by rw [← Nat.mul_add]
 have e2:(h+1)*4294967296=h*4294967296+4294967296:=by rw [Nat.add_mul]
 have e3:4294967296≤h*2:=Nat.mul_le_mul_right 2 hh
 rw [e1]; rw [e2] at ht
 exact Nat.lt_of_lt_of_le ht (Nat.add_le_add_left e3 _)
theorem GuessR.start {U V P h v2 top u2:Nat} (g:Gss U V 4294967296 P h v2 top u2) (hh:2147483648≤h) (hl:h<4294967296):GuessR h top (U / V) (top / h,top % h):=by
 have hm:=Nat.mod_lt top (show 0<h by omega)
 refine ⟨?_,?_,g.start,?_⟩
 ·show top / h*h+top % h=top
  rw [Nat.mul_comm]; exact Nat.div_add_mod top h
 ·show top % h<_;omega
 ·have ht:=g.top
  have h1:top<h*4294967298:=GuessR.aux ht hh
  exact Nat.lt_succ_iff.1 (Nat.div_lt_of_lt_mul h1)
theorem GuessR.next {h top Q q r:Nat} (s:GuessR h top Q (q,r)) (hQ:Q<q) (hr:r+h<4294967296):GuessR h top Q (q - 1,r+h):=by
 obtain ⟨p,rfl⟩ : ∃ p,q=p+1:=⟨q - 1,by omega⟩
 have e:(p+1)*h+r=top:=s.e
 have m:p+1≤4294967297:=s.m
 refine ⟨?_,hr,?_,?_⟩
 ·show (p+1 - 1)*h+(r+h)=top
  rw [Nat.add_mul,Nat.one_mul] at e
  rw [Nat.add_sub_cancel]; omega
 ·show Q≤p+1 - 1;omega
 ·show p+1 - 1≤_;omega
theorem GuessR.last {U V P h v2 top u2 q r:Nat} (g:Gss U V 4294967296 P h v2 top u2) (s:GuessR h top (U / V) (q,r)) (hQ:U / V<q) (hr:4294967296≤r+h):q - 1<4294967296∧U / V≤q - 1∧q - 1≤U / V+1:=by
 obtain ⟨p,rfl⟩ : ∃ p,q=p+1:=⟨q - 1,by have:=Nat.lt_of_le_of_lt (Nat.zero_le _) hQ;omega⟩
 have e:(p+1)*h+r=top:=s.e
 have ht:=g.top
 have e2:p*h+(r+h)=top:=by rw [Nat.add_mul,Nat.one_mul] at e;omega
 have h1:p<4294967296:=by
  rcases Nat.lt_or_ge p 4294967296 with h1 | h1
  ·exact h1
  ·have:=Nat.mul_le_mul_right h h1
   omega
 rw [Nat.add_sub_cancel]
 exact ⟨h1,Nat.lt_succ_iff.1 hQ,g.done e2 h1 (.inr hr)⟩
attribute [local irreducible] J PJ aP one slT cv bA bM exT cq eP aW aU slV VT.le Ret bO
set_option maxRecDepth 20000 in
theorem yt (b N j cap k:Nat) (DR v:List Nat) (hW:bI DR) (hv:bI v) (hN:DR.length=N) (hj:j+(k+3)≤N) (hk:v.length=k+2) (hb31:v.length≤1099511627776) (hh:2147483648≤v.getD (k+1) 0) (hlt:lv (win DR j (k+3))<lv v*4294967296) :
  OkI Tryz.prog 138 [one (z7 b j 1 (k+3) cap),cr v] [aU (some b) 116 .one N N (gN DR)] (fun _:Ce DR v j k=>one (.int .u32 ((lv (win DR j (k+3)) / lv v:Nat):Int))) (fun s => [aU (some b) 116 .one N N (gN s.1)]):=by
 unfold cr
 rw [hk]
 refine OkI.enter Tryz.func138 Z Tryz.ntmps138 Z (fun w O => ?_)
 have lw:=vM (DR:=DR) (j:=j) (m:=k+3) Y
 have g:=Cd (hW.win j (k+3)) hv lw hk Y hlt
 rw [iE Y,iE Y,iE Y] at g
 have x0:=bh hW (j+k)
 have x1:=bh hW (j+(k+1))
 have x2:=bh hW (j+(k+2))
 have y1:=bh hv (k+1)
 have y0:=bh hv k
 rw [hk] at hb31
 have y1':v.getD (k+2 - 1) 0<4294967296:=y1
 have y0':v.getD (k+2 - 2) 0<4294967296:=y0
 have yh':2147483648≤v.getD (k+2 - 1) 0:=hh
 have x1':DR.getD (j+(k+2 - 1)) 0<4294967296:=x1
 have x0':DR.getD (j+(k+2 - 2)) 0<4294967296:=x0
 refine ae (aj (Ea Z (Ec (aa (ae (aj (DZ Z (DY (aZ Z) (Ea Z ?_)))))))))
 refine Ec (aa (ae (aj (DZ Z (DZ Z (DY (cA _ 1 Z Z Y Y) (DY (ax Z Z Y) (DY (aJ Z) (DY (bS Z Y) ?_)))))))))
 refine Ea Z (Ec (aa (ae (aT 13 aS X S (DZ Z (DZ Z (DY (eu Z Z Y) (DY (bk 0 Z Z Y) (DY (bS Z Y) ?_)))))))))
 refine DY (lF (s:=32) Z Z Y Y) (DZ Z (DZ Z (DY (cA _ 1 Z Z Y Y) (DY (eu Z Z Y) (DY (bk 0 Z Z Y) (DY (bS Z Y) (DY (nk Z Z Y Y) (Ec (Ea Z ?_)))))))))
 refine Ec (aa (ae (aT 7 aS X S (DZ Z (DZ Z (DY (lD Z Z Y Y) (DZ Z (DZ Z (DY (gi _ Z Z Z Y) ?_)))))))))
 refine Ea Z (Ec (Ea Z (Ec (aa (ae (ar (cm (Γ' := [(0,_),(1,_),(4,_),(5,_),(6,_),(8,_),(9,_)]) DT (SubM.refl _) ?_)))))))
 refine z8 (σ:=Nat) (Γk := [(0,_),(1,_),(4,_),(5,_)]) (fU.cons Z H (fU.cons Z H (fU.cons Z H (fU.cons Z H fU.nil)))) (fun q => [(8,one (.int .u64 (q:Nat)))]) (fun _ M0=>M0) (fun q=>q<4294967296∧lv (win DR j (k+3)) / lv v≤q∧q≤lv (win DR j (k+3)) / lv v+1) ?_ (fun q hq => ?_)
 ·refine cm (Γ' := [(0,_),(1,_),(4,_),(5,_),(6,_),(8,_),(9,_)]) DT (SubM.refl _) ?_
  refine bw (σ:=Nat × Nat) (Γk := [(0,_),(1,_),(4,_),(5,_),(6,_)]) DT (fun p => [(8,one (.int .u64 (p.1:Nat))),(9,one (.int .u64 (p.2:Nat)))]) (fun p M0=>M0) (fun p=>GuessR (v.getD (k+1) 0) (DR.getD (j+(k+2)) 0*4294967296+DR.getD (j+(k+1)) 0) (lv (win DR j (k+3)) / lv v) p) (fun p=>p.1) (((DR.getD (j+(k+2)) 0*4294967296+DR.getD (j+(k+1)) 0) / v.getD (k+1) 0,(DR.getD (j+(k+2)) 0*4294967296+DR.getD (j+(k+1)) 0) % v.getD (k+1) 0)) (GuessR.start g hh y1) DU (.keep DX (.nil)) (fun p hp => ?_)
  refine bN (Γ' := [(8,_),(9,_),(0,_),(1,_),(4,_),(5,_),(6,_)]) (M' := [_]) Z Z ?_
  obtain ⟨q,r⟩:=p
  dsimp only at hp ⊢
  have hr:r<4294967296:=hp.r
  have hqm:q≤4294967297:=hp.m
  by_cases hA:4294967295<q
  ·have hQ:lv (win DR j (k+3)) / lv v<q:=Nat.lt_of_lt_of_le g.q_lt hA
   have hq1:1≤q:=Nat.lt_of_le_of_lt (Nat.zero_le _) hQ
   have hq2:(q+18446744073709551616 - 1) % 18446744073709551616=q - 1:=by omega
   by_cases hC:4294967296≤r+v.getD (k+2 - 1) 0
   ·refine ae (ae (aT 22 aS X S (DZ Z (DY (sT Y (ej Z Z)) (DZ Z (sg0 Z Z Z Z (sg0 Z Z Z Z (sg0 Z Z Z Z (sg0 Z Z Z Z ?_)))))))))
    refine sg0 Z Z Z Z (sg0 Z Z Z Z (sg0 Z Z Z Z (sg0 Z Z Z Z (sg0 Z Z Z Z (sg0 Z Z Z Z (sg0 Z Z Z Z (sg0 Z Z Z Z (sg0 Z Z Z Z (sg0 Z Z Z Z ?_)))))))))
    refine sg0 Z Z Z Z (sg0 Z Z Z Z (sg0 Z Z Z Z (sg0 Z Z Z Z (DY (aV Z Z) (Ec (Ec (aa (aG Z (av ?_)))))))))
    refine aa (ar (ae (aj (DZ Z (DY (ir Z Z Y S) (Ea Z (Ec (aa (ae ?_)))))))))
    refine aj (DZ Z (DZ Z (DY (eD Z Z Y) (Ea Z (Ec (aa (ae (aj (DZ Z ?_)))))))))
    refine DY (sT Y (ej Z Z)) (Ec (aa (aG Z (aY (iL Z (aw (aE ?_)))))))
    rw [hq2]
    refine dh (q - 1) (hp.last g hQ hC) DU (.keep DX (.nil))
   ·refine ae (ae (aT 22 aS X S (DZ Z (DY (sT Y (ej Z Z)) (DZ Z (sg0 Z Z Z Z (sg0 Z Z Z Z (sg0 Z Z Z Z (sg0 Z Z Z Z ?_)))))))))
    refine sg0 Z Z Z Z (sg0 Z Z Z Z (sg0 Z Z Z Z (sg0 Z Z Z Z (sg0 Z Z Z Z (sg0 Z Z Z Z (sg0 Z Z Z Z (sg0 Z Z Z Z (sg0 Z Z Z Z (sg0 Z Z Z Z ?_)))))))))
    refine sg0 Z Z Z Z (sg0 Z Z Z Z (sg0 Z Z Z Z (sg0 Z Z Z Z (DY (aV Z Z) (Ec (Ec (aa (aG Z (av ?_)))))))))
    refine aa (ar (ae (aj (DZ Z (DY (ir Z Z Y S) (Ea Z (Ec (aa (ae ?_)))))))))
    refine aj (DZ Z (DZ Z (DY (eD Z Z Y) (Ea Z (Ec (aa (ae (aj (DZ Z ?_)))))))))
    refine DY (sF Y (ej Z Z)) (Ec (aa (az Z (av (aB ?_)))))
    rw [hq2]
    refine aN ((q - 1,r+v.getD (k+1) 0)) (hp.next hQ (Nat.lt_of_not_le hC)) Y DU (.keep DX (.nil))
  ·have hqv:=rB (q:=q) (c:=0) Y y0 S
   have hqv1:q*v.getD (k+2 - 2) 0<18446744073709551616:=hqv.1
   by_cases hB:r*4294967296+DR.getD (j+(k+2 - 2)) 0<q*v.getD (k+2 - 2) 0
   ·have hQ:lv (win DR j (k+3)) / lv v<q:=g.low hp.e hB
    have hq1:1≤q:=Nat.lt_of_le_of_lt (Nat.zero_le _) hQ
    have hq2:(q+18446744073709551616 - 1) % 18446744073709551616=q - 1:=by omega
    by_cases hC:4294967296≤r+v.getD (k+2 - 1) 0
    ·refine ae (ae (aT 22 aS X S (DZ Z (DY (sF Y (ej Z Z)) (DZ Z (Eb (ab Z) (Eb (ab Z) (Eb (ab Z) (Eb (cA _ 2 Z Z Y Y) ?_)))))))))
     refine Eb (ax Z Z Y) (Eb (aJ Z) (Eb (bS Z Y) (Eb (i6 Z Z Y) (Eb (ab Z) (Eb (vA Z Y) (Eb (ab Z) (Eb (ab Z) (Eb (cA _ 2 Z Z Y Y) (Eb (eu Z Z Y) ?_)))))))))
     refine Eb (bk 0 Z Z Y) (Eb (bS Z Y) (Eb (nk Z Z Y Y) (Eb (sT Y (ej Z Z)) (DY (a6 Z Z) (Ec (Ec (aa (aG Z (av ?_)))))))))
     refine aa (ar (ae (aj (DZ Z (DY (ir Z Z Y S) (Ea Z (Ec (aa (ae ?_)))))))))
     refine aj (DZ Z (DZ Z (DY (eD Z Z Y) (Ea Z (Ec (aa (ae (aj (DZ Z ?_)))))))))
     refine DY (sT Y (ej Z Z)) (Ec (aa (aG Z (aY (iL Z (aw (aE ?_)))))))
     rw [hq2]
     refine dh (q - 1) (hp.last g hQ hC) DU (.keep DX (.nil))
    ·refine ae (ae (aT 22 aS X S (DZ Z (DY (sF Y (ej Z Z)) (DZ Z (Eb (ab Z) (Eb (ab Z) (Eb (ab Z) (Eb (cA _ 2 Z Z Y Y) ?_)))))))))
     refine Eb (ax Z Z Y) (Eb (aJ Z) (Eb (bS Z Y) (Eb (i6 Z Z Y) (Eb (ab Z) (Eb (vA Z Y) (Eb (ab Z) (Eb (ab Z) (Eb (cA _ 2 Z Z Y Y) (Eb (eu Z Z Y) ?_)))))))))
     refine Eb (bk 0 Z Z Y) (Eb (bS Z Y) (Eb (nk Z Z Y Y) (Eb (sT Y (ej Z Z)) (DY (a6 Z Z) (Ec (Ec (aa (aG Z (av ?_)))))))))
     refine aa (ar (ae (aj (DZ Z (DY (ir Z Z Y S) (Ea Z (Ec (aa (ae ?_)))))))))
     refine aj (DZ Z (DZ Z (DY (eD Z Z Y) (Ea Z (Ec (aa (ae (aj (DZ Z ?_)))))))))
     refine DY (sF Y (ej Z Z)) (Ec (aa (az Z (av (aB ?_)))))
     rw [hq2]
     refine aN ((q - 1,r+v.getD (k+1) 0)) (hp.next hQ (Nat.lt_of_not_le hC)) Y DU (.keep DX (.nil))
   ·refine ae (ae (aT 22 aS X S (DZ Z (DY (sF Y (ej Z Z)) (DZ Z (Eb (ab Z) (Eb (ab Z) (Eb (ab Z) (Eb (cA _ 2 Z Z Y Y) ?_)))))))))
    refine Eb (ax Z Z Y) (Eb (aJ Z) (Eb (bS Z Y) (Eb (i6 Z Z Y) (Eb (ab Z) (Eb (lF (s:=32) Z Z Y Y) (Eb (ab Z) (Eb (ab Z) (Eb (cA _ 2 Z Z Y Y) (Eb (eu Z Z Y) ?_)))))))))
    refine Eb (bk 0 Z Z Y) (Eb (bS Z Y) (Eb (nk Z Z Y Y) (Eb (sF Y (ej Z Z)) (DY (a6 Z Z) (Ec (Ec (aa (az Z (aY ?_)))))))))
    refine aw (aw (aE ?_))
    have hqB:q<4294967296:=by omega
    refine dh (q) (⟨hqB,hp.q,g.done hp.e hqB (.inl (Nat.le_of_not_lt hB))⟩) DU (.keep DX (.nil))
 ·obtain ⟨hq1,hq2,hq3⟩:=hq
  have lu:=lw
  refine aa (ae (aj (Ea Z (Ea Z (Ec (aa (ae (ae (aj ?_)))))))))
  refine DZ Z (DY (aZ Z) (DZ Z (Ec (aa (ar (cm (Γ' := [(0,_),(1,_),(4,_),(5,_),(8,_),(10,_),(11,_),(74,_),(75,_),(76,_)]) DT (SubM.refl _) ?_))))))
  refine bw (σ:=List Nat × Nat × Nat × Nat) (Γk := [(0,_),(1,_),(4,_),(5,_),(8,_),(74,_),(75,_)]) DT (fun s => [(76,one (.int .i64 (s.2.1:Nat))),(10,one (.int .u64 (s.2.2.1:Nat))),(11,one (.int .u64 (s.2.2.2:Nat)))]) (fun s M0=>(M0.set 0 (aU (some b) 116 .one N N (gN s.1)))) (fun s=>DgS DR v j k q s) (fun s=>k+2 - s.2.1) ((DR,0,0,0)) (⟨iU.refl _ _ _,hW,SubR.start (hW.win _ _)⟩) DU (.keep DX (.nil)) (fun s hs => ?_)
  refine bN (Γ' := [(76,_),(10,_),(11,_),(0,_),(1,_),(4,_),(5,_),(8,_),(74,_),(75,_)]) (M' := [_]) Z Z ?_
  obtain ⟨W1,i,br,c⟩:=s
  dsimp only at hs ⊢
  have h1o:=hs.out
  have h1l:=hs.lim
  have h1s:=hs.sub
  dsimp only at h1o h1l h1s
  have hbr:=h1s.hb
  have hcr:=h1s.hc
  have hN1:W1.length=N:=h1o.1.trans hN
  refine ae (aj (DY (a7 Z Z) (Ec (aa (ae ?_)))))
  refine oF Z (fun hc => ?_) (fun hc => ?_)
  ·have hi:i<k+2:=by omega
   have z1:=bh h1l (j+i)
   have v1:=bh hv i
   have sl:=rB hq1 v1 hcr
   have sl1:=sl.1
   have sl2:=sl.2.1
   have sl3:=sl.2.2
   obtain ⟨d,hd⟩ : ∃ d,d=((W1.getD (j+i) 0+18446744073709551616 - (c+q*v.getD i 0) % 4294967296) % 18446744073709551616+18446744073709551616 - br) % 18446744073709551616:=⟨_,rfl⟩
   have hst:=h1s.step hv hq1 Y (by rw [lu,hk]; omega) (d:=d) (by rw [iE Y]; exact hd)
   rw [← my Y] at hst
   refine av (aa (ae (ar (ae (aj (DZ Z (DY (ax Z Z Y) (DY (aJ Z) (Ea Z ?_)))))))))
   refine Ea Z (Ec (aa (ae (aj (DZ Z (DZ Z (DZ Z (DY (bS Z Y) (DY (i6 Z Z Y) ?_)))))))))
   refine DY (eD Z Z Y) (Ea Z (Ec (aa (ae (aj (DZ Z (DZ Z (DY (eu Z Z Y) (DY (bk 0 Z Z Y) ?_)))))))))
   refine DY (bS Z Y) (DZ Z (DY (BX Z Y) (DY (ir Z Z Y Y) (DZ Z (DY (ir Z Z Y Y) (Ea Z (Ec (aa (ae ?_)))))))))
   refine aj (DZ Z (DZ Z (DZ Z (DY (cP Z) (DY (eu Z Z Y) ?_)))))
   (refine aA 0 Z Z Z ?_ Z ?_;omega)
   refine Ec (aa (ae (aj (DZ Z (DY (qU Z) (Ea Z (Ec (aa (aj ?_)))))))))
   refine DZ Z (DY (gX Z) (Ea Z (Ec (aB (aa (aj (DY (bn _ 1 Z Z Y) (DZ Z (Ec ?_)))))))))
   rw [← hd]
   refine aN ((W1.set (j+i) (d % 4294967296),i+1,d / 9223372036854775808,(c+q*v.getD i 0) / 4294967296)) (⟨h1o.set Y,h1l.set (Nat.mod_lt _ S),hst⟩) (by (simp only []; omega)) DU (.keep (gE Y Z) (.nil))
  ·have hi:i=k+2:=by have:=h1s.le;omega
   subst hi
   have z1:=bh h1l (j+(k+2))
   obtain ⟨d,hd⟩ : ∃ d,d=((W1.getD (j+(k+2)) 0+18446744073709551616 - c) % 18446744073709551616+18446744073709551616 - br) % 18446744073709551616:=⟨_,rfl⟩
   have h1v:SubR (win DR j (k+3)) v q (win W1 j (k+3)) v.length br c:=by rw [hk]; exact h1s
   have hdw:d=(((win W1 j (k+3)).getD v.length 0+18446744073709551616 - c) % 18446744073709551616+18446744073709551616 - br) % 18446744073709551616:=by rw [hk,iE Y]; exact hd
   refine aY (aw (aw (aE (aa (ae (aj (DZ Z (DZ Z (DY (eu Z Z Y) ?_)))))))))
   refine DY (bk 0 Z Z Y) (DY (bS Z Y) (DZ Z (DY (ir Z Z Y Y) (DZ Z (DY (ir Z Z Y Y) (Ea Z (Ec (aa (ae ?_)))))))))
   refine aj (DZ Z (DZ Z (DZ Z (DY (cP Z) (DY (eu Z Z Y) ?_)))))
   (refine aA 0 Z Z Z ?_ Z ?_;omega)
   refine Ec (aa (ae (ae (aj (DZ Z (DY (qU Z) (DY (cn Z Z) (Ec (aa ?_)))))))))
   rw [← hd]
   refine oF Z (fun h0 => ?_) (fun h0 => ?_)
   ·obtain ⟨f1,f2,f3⟩:=h1v.good (by rw [lu,hk]) g.V0 hq2 hdw Y
    rw [hk, ← my Y] at f3
    refine ae (aj (DZ Z (DY (cP Z) (Ea Z (Ec (aa (aD (aI ?_))))))))
    refine xU (⟨W1.set (j+(k+2)) (d % 4294967296),h1o.set Y,h1l.set (Nat.mod_lt _ S),f3⟩:Ce DR v j k) Tryz.results138 (.tmp Z (ao (by rw [← f1,Nat.mod_eq_of_lt hq1]))) (.keep (gE Y Z) .nil)
   ·obtain ⟨f1,f2,f3⟩:=h1v.bad (by rw [lu,hk]) g.V0 hq2 hq3 hdw Y
    rw [hk, ← my Y] at f3
    obtain ⟨W2,hW2⟩ : ∃ W2,W2=W1.set (j+(k+2)) (d % 4294967296):=⟨_,rfl⟩
    have h2o:iU DR W2 j (k+3):=hW2▸h1o.set Y
    have h2l:bI W2:=hW2▸h1l.set (Nat.mod_lt _ S)
    have hN2:W2.length=N:=h2o.1.trans hN
    rw [← hW2] at f3
    refine av (aa (ae (aj (Ea Z (Ec (aa (ae (ae (aj ?_)))))))))
    refine DZ Z (DY (aZ Z) (DZ Z (Ec (aa (ar (cm (Γ' := [(0,_),(4,_),(5,_),(8,_),(11,_),(126,_),(127,_),(128,_)]) DT (SubM.refl _) ?_))))))
    refine bw (σ:=List Nat × Nat × Nat) (Γk := [(0,_),(4,_),(5,_),(8,_),(126,_),(127,_)]) DT (fun s => [(128,one (.int .i64 (s.2.1:Nat))),(11,one (.int .u64 (s.2.2:Nat)))]) (fun s M0=>(M0.set 0 (aU (some b) 116 .one N N (gN s.1)))) (fun s=>DgB DR W2 v j k s) (fun s=>k+2 - s.2.1) ((W2,0,0)) (⟨h2o,h2l,BackR.start (h2l.win _ _)⟩) DU (.keep (by (subst hW2;exact gE Y Z)) (.nil)) (fun s hs => ?_)
    refine bN (Γ' := [(128,_),(11,_),(0,_),(4,_),(5,_),(8,_),(126,_),(127,_)]) (M' := [_]) Z Z ?_
    obtain ⟨W3,i,c3⟩:=s
    dsimp only at hs ⊢
    have h3o:=hs.out
    have h3l:=hs.lim
    have h3s:=hs.back
    dsimp only at h3o h3l h3s
    have hcr:=h3s.hc
    have hN3:W3.length=N:=h3o.1.trans hN
    have lu2:(win W2 j (k+3)).length=k+3:=vM Y
    refine ae (aj (DY (a7 Z Z) (Ec (aa (ae ?_)))))
    refine oF Z (fun hc => ?_) (fun hc => ?_)
    ·have hi:i<k+2:=by omega
     have z1:=bh h3l (j+i)
     have v1:=bh hv i
     have hst:=h3s.step hv Y (by rw [lu2,hk]; omega)
     rw [iE Y, ← my Y] at hst
     refine av (aa (ae (ar (ae (aj (DZ Z (DY (ax Z Z Y) (DY (aJ Z) (Ea Z ?_)))))))))
     refine Ea Z (Ec (aa (ae (aj (DZ Z (DZ Z (DZ Z (DY (eu Z Z Y) (DY (bk 0 Z Z Y) ?_)))))))))
     refine DY (bS Z Y) (DZ Z (DY (bS Z Y) (DY (eD Z Z Y) (DY (eD Z Z Y) (Ea Z (Ec (aa (ae (aj ?_)))))))))
     refine DZ Z (DZ Z (DZ Z (DY (cP Z) (DY (eu Z Z Y) ?_))))
     (refine aA 0 Z Z Z ?_ Z ?_;omega)
     refine Ec (aa (aj (DZ Z (DY (gX Z) (Ea Z (Ec (aB (aa (aj ?_)))))))))
     refine DY (bn _ 1 Z Z Y) (DZ Z (Ec ?_))
     refine aN ((W3.set (j+i) ((c3+(W3.getD (j+i) 0+v.getD i 0)) % 4294967296),i+1,(c3+(W3.getD (j+i) 0+v.getD i 0)) / 4294967296)) (⟨h3o.set Y,h3l.set (Nat.mod_lt _ S),hst⟩) (by (simp only []; omega)) DU (.keep (gE Y Z) (.nil))
    ·have hi:i=k+2:=by have:=h3s.le;omega
     subst hi
     have z1:=bh h3l (j+(k+2))
     have h3v:BackR (win W2 j (k+3)) v (win W3 j (k+3)) v.length c3:=by rw [hk]; exact h3s
     obtain ⟨f4,f5⟩:=h3v.good (R:=lv (win DR j (k+3)) % lv v) (x:=(W3.getD (j+(k+2)) 0+c3) % 4294967296) (by rw [lu2,hk]) (Nat.mod_lt _ g.V0) hv (by rw [hk]; exact f3) (by rw [hk,iE Y])
     rw [hk, ← my Y] at f5
     refine aY (aw (aw (aE (aa (ae (aj (DZ Z (DZ Z (DY (eu Z Z Y) ?_)))))))))
     refine DY (bk 0 Z Z Y) (DZ Z (DY (cP Z) (DY (BY Z Z) (DY (eu Z Z Y) ?_))))
     (refine aA 0 Z Z Z ?_ Z ?_;omega)
     refine Ec (aa (ae (aj (DZ Z (DY (ir Z Z Y S) (DY (cP Z) (Ea Z (Ec (aa ?_)))))))))
     refine aD ?_
     have e1:(q+18446744073709551616 - 1) % 18446744073709551616 % 4294967296=lv (win DR j (k+3)) / lv v:=C2 f1 hq1
     refine xU (⟨W3.set (j+(k+2)) ((W3.getD (j+(k+2)) 0+c3) % 4294967296),h3o.set Y,h3l.set (Nat.mod_lt _ S),f5⟩:Ce DR v j k) Tryz.results138 (.tmp Z (ao (by rw [e1]))) (.keep (gE Y (by rw [Nat.mod_eq_of_lt (show c3<4294967296 by omega)])) .nil)
end Tor
end
section
namespace Tor
open Go Go.RowKit Go.Proofs
theorem s8 (U:List Nat) {j m:Nat} (h:j+m≤U.length):lv (U.drop j)=lv (win U j m)+4294967296^m*lv (U.drop (j+m)):=by
 have h1:=gB (U.drop j) m (by simp;omega)
 rw [List.drop_drop] at h1
 exact h1
theorem jL {U:List Nat} {j:Nat} (h:j<U.length):lv (U.drop j)=U.getD j 0+4294967296*lv (U.drop (j+1)):=by
 rw [gm h]; rfl
structure DivR (V A n e:Nat) (p:List Nat × List Nat × Nat):Prop where
 le:p.2.2≤e+1
 lu:p.1.length=n+e+1
 lq:p.2.1.length=e+1
 limU:bI p.1
 limQ:bI p.2.1
 zero : ∀ k,k<p.2.2→p.2.1.getD k 0=0
 lt:lv (p.1.drop p.2.2)<V
 val:lv p.1+lv p.2.1*V=A
theorem DivR.pre {V A n e j:Nat} {U Q:List Nat} (h:DivR V A n e (U,Q,j+1)) (hV:V<4294967296^n):j+(n+1)≤U.length∧lv (U.drop (j+(n+1)))=0∧lv (U.drop j)=lv (win U j (n+1))∧lv (win U j (n+1))<V*4294967296:=by
 have hle:j+1≤e+1:=h.le
 have hlu:U.length=n+e+1:=h.lu
 have hlt:lv (U.drop (j+1))<V:=h.lt
 have h1:j+(n+1)≤U.length:=by omega
 have h2:=jL (U:=U) (j:=j) Y
 have h3:=s8 U h1
 have hd:=bh (show bI U from h.limU) j
 have h4:lv (U.drop j)<V*4294967296:=by
  rw [h2]
  generalize lv (U.drop (j+1))=x at *
  generalize U.getD j 0=y at *
  omega
 have h5:lv (U.drop (j+(n+1)))=0:=by
  rcases Nat.eq_zero_or_pos (lv (U.drop (j+(n+1)))) with h | h
  ·exact h
  ·exfalso
   have h6:4294967296^(n+1)≤4294967296^(n+1)*lv (U.drop (j+(n+1))):=Nat.le_mul_of_pos_right _ h
   have h7:V*4294967296<4294967296^(n+1):=by rw [Nat.pow_succ]; exact Nat.mul_lt_mul_of_pos_right hV S
   omega
 rw [h5,Nat.mul_zero,Nat.add_zero] at h3
 exact ⟨h1,h5,h3,h3▸h4⟩
theorem DivR.step {V A n e j q:Nat} {U Q U':List Nat} (h:DivR V A n e (U,Q,j+1)) (hV0:0<V) (hV:V<4294967296^n) (ho:iU U U' j (n+1)) (hl:bI U') (hr:lv (win U' j (n+1))=lv (win U j (n+1)) % V) (hq:q=lv (win U j (n+1)) / V) :
  DivR V A n e (U',Q.set j q,j):=by
 obtain ⟨p1,p2,p3,p4⟩:=h.pre hV
 obtain ⟨o1,o2,o3⟩:=ho
 have hle:j+1≤e+1:=h.le
 have hlq:Q.length=e+1:=h.lq
 have hqB:q<4294967296:=by rw [hq]; exact Nat.div_lt_of_lt_mul p4
 have h0:Q.getD j 0=0:=h.zero j (Nat.lt_succ_self j)
 have hs:=gM (l:=Q) (k:=j) (v:=q) Y
 rw [h0,Nat.mul_zero,Nat.add_zero] at hs
 have d1:=gB U j Y
 have d2:=gB U' j Y
 have e1:=s8 U' (j:=j) (m:=n+1) Y
 rw [o3,p2,Nat.mul_zero,Nat.add_zero] at e1
 have hm:=Nat.div_add_mod (lv (win U j (n+1))) V
 have hv:lv U+lv Q*V=A:=h.val
 refine ⟨Nat.le_of_succ_le hle,o1.trans h.lu,by rw [List.length_set]; exact h.lq,hl,bI.set h.limQ hqB,fun k hk => ?_,?_,?_⟩
 ·simp only at hk ⊢
  rw [ev Y,if_neg Y]; exact h.zero k (Nat.lt_succ_of_lt hk)
 ·show lv (U'.drop j)<V
  rw [e1,hr]; exact Nat.mod_lt _ hV0
 ·show lv U'+lv (Q.set j q)*V=A
  rw [hs, ← hv,d1,d2,o2,e1,p3,hr,hq]
  generalize lv (win U j (n+1))=w at *
  have e2:(lv Q+4294967296^j*(w / V))*V=lv Q*V+4294967296^j*(V*(w / V)):=by rw [Nat.add_mul,Nat.mul_assoc,Nat.mul_comm (w / V)]
  have e3:4294967296^j*w=4294967296^j*(V*(w / V))+4294967296^j*(w % V):=by rw [← Nat.mul_add,hm]
  rw [e2,e3]; omega
theorem DivR.start {V A n e:Nat} {U:List Nat} (hU:bI U) (hlu:U.length=n+e+1) (hA:lv U=A) (hlt:A<V*4294967296^(e+1)):DivR V A n e (U,List.replicate (e+1) 0,e+1):=by
 refine ⟨Nat.le_refl _,hlu,by simp,hU,bI.replicate _,fun k _=>cL _ _,?_,by simp [eE,hA]⟩
 show lv (U.drop (e+1))<V
 have h1:=gB U (e+1) Y
 have h2:lv (U.drop (e+1))*4294967296^(e+1)<V*4294967296^(e+1):=by
  rw [Nat.mul_comm]; omega
 exact Nat.lt_of_mul_lt_mul_right h2
theorem DivR.finish {a b s n e:Nat} {U Q:List Nat} (h:DivR (b*2^s) (a*2^s) n e (U,Q,0)) (hb:0<b):lv Q=a / b∧lv U=(a % b)*2^s:=by
 have hp:=Nat.two_pow_pos s
 have hlt:lv U<b*2^s:=h.lt
 have hv:lv U+lv Q*(b*2^s)=a*2^s:=h.val
 have hq:lv Q=a / b:=by
  have h1:lv Q*b≤a:=by
   refine Nat.le_of_mul_le_mul_right (c:=2^s) ?_ hp
   rw [Nat.mul_assoc]; omega
  have h2:a<(lv Q+1)*b:=by
   refine Nat.lt_of_mul_lt_mul_right (a:=2^s) ?_
   rw [Nat.mul_assoc,Nat.add_mul]; omega
  have h3:lv Q≤a / b:=(Nat.le_div_iff_mul_le hb).2 h1
  have h4:a / b<lv Q+1:=Nat.div_lt_of_lt_mul (by rw [Nat.mul_comm]; exact h2)
  omega
 refine ⟨hq,?_⟩
 have hm:=Nat.div_add_mod a b
 rw [hq] at hv
 have e1:a*2^s=(b*(a / b))*2^s+(a % b)*2^s:=by rw [← Nat.add_mul,hm]
 have e2:a / b*(b*2^s)=(b*(a / b))*2^s:=by rw [← Nat.mul_assoc,Nat.mul_comm (a / b)]
 omega
def w4 (U:List Nat) (s i:Nat):Nat:=(U.getD (i+1) 0*4294967296+U.getD i 0) / 2^s % 4294967296
theorem mz (F:Nat→Nat) : ∀ (n i:Nat) (DQ:Nat→Nat),(∀ k,i≤k→k<i+n→DQ k=F k+4294967296*DQ (k+1))→DQ (i+n)=0→lv ((List.range' i n).map F)=DQ i
 | 0, i, DQ, _, h0 => by simpa [lv] using h0.symm
 | n + 1, i, DQ, h, h0 => by
  rw [List.range'_succ,List.map_cons,lv,mz F n (i+1) DQ (fun k h1 h2=>h k Y Y) (by rw [← h0]; congr 1;omega),h i (Nat.le_refl _) Y]
theorem yu {U:List Nat} (hU:bI U) {s i:Nat} (hs:s<32) (hi:i+1<U.length):lv (U.drop i) / 2^s=w4 U s i+4294967296*(lv (U.drop (i+1)) / 2^s):=by
 have h1:=jL (U:=U) (j:=i) Y
 have h2:=jL (U:=U) (j:=i+1) hi
 have hp:=Nat.two_pow_pos s
 obtain ⟨t,ht⟩ : ∃ t,4294967296=2^s*t:=⟨2^(32 - s),by rw [← Nat.pow_add,show s+(32 - s)=32 by omega]⟩
 have hd:=bh hU i
 have e1:lv (U.drop i) / 2^s % 4294967296=w4 U s i:=by
  unfold w4
  rw [h1,h2]
  generalize lv (U.drop (i+1+1))=DR
  generalize U.getD (i+1) 0=x
  generalize U.getD i 0=y
  have:y+4294967296*(x+4294967296*DR)=(x*4294967296+y)+2^s*(t*(4294967296*DR)):=by
   rw [← Nat.mul_assoc (2^s), ← ht]; omega
  rw [this,Nat.add_mul_div_left _ _ hp]
  rw [show t*(4294967296*DR)=4294967296*(t*DR) by rw [Nat.mul_left_comm],Nat.add_mul_mod_self_left]
 have e2:lv (U.drop i) / 2^s / 4294967296=lv (U.drop (i+1)) / 2^s:=by
  rw [Nat.div_div_eq_div_mul,Nat.mul_comm, ← Nat.div_div_eq_div_mul]
  congr 1
  rw [h1]; omega
 have:=Nat.div_add_mod (lv (U.drop i) / 2^s) 4294967296
 rw [e1,e2] at this
 omega
def fE (U:List Nat) (s n:Nat):List Nat:=(List.range' 0 n).map (w4 U s)
theorem Ap {U:List Nat} (hU:bI U) {s n:Nat} (hs:s<32) (hn:n<U.length) (h0:lv U<4294967296^n):lv (fE U s n)=lv U / 2^s:=by
 have h1:lv (U.drop n)=0:=by
  have h2:=gB U n Y
  rcases Nat.eq_zero_or_pos (lv (U.drop n)) with h | h
  ·exact h
  ·have:=Nat.le_mul_of_pos_right (4294967296^n) h;omega
 have:=mz (w4 U s) n 0 (fun k=>lv (U.drop k) / 2^s) (fun k _ hk=>yu hU hs Y) (by rw [Nat.zero_add,h1]; exact Nat.zero_div _)
 unfold fE
 rw [this]; rfl
theorem Aq (U:List Nat) (s n:Nat):bI (fE U s n):=fun d hd=>by
 obtain ⟨i,_,rfl⟩:=List.mem_map.1 hd
 exact Nat.mod_lt _ S
theorem pW (F:Nat→Nat) {n i:Nat} (h:i<n):((List.range' 0 n).map F).getD i 0=F i:=by
 simp [List.getD,h]
theorem Ar (U:List Nat) (s:Nat) {n i:Nat} (h:i<n):(fE U s n).getD i 0=w4 U s i:=pW _ h
theorem As (U:List Nat) (s n:Nat):(fE U s n).length=n:=by unfold fE;simp
theorem At {l:List Nat} (h:gZ l) : ∀ {k:Nat},l.length=k+1→l.getD k 0≠0:=by
 induction l with
 | nil => intro k h; simp at h
 | cons d l ih =>
  intro k hk
  cases l with
  | nil => simp at hk; subst hk; simpa using (show d ≠ 0 from h)
  | cons e l =>
   obtain ⟨j,rfl⟩ : ∃ j,k=j+1:=⟨k - 1,by simp at hk;omega⟩
   have:=ih h.tail (k:=j) (by simpa using hk)
   simpa using this
structure Shf (b:Nat) (l:List Nat) (s k:Nat):Prop where
 s32:s<32
 lim:bI l
 lo:2147483648*4294967296^(k+1)≤b*2^s
 hi:b*2^s<4294967296^(k+2)
theorem Cf {b k:Nat} (hk:(aL b).length=k+2):Shf b (aL b) (32 - jb ((aL b).getD (k+1) 0)) k:=by
 have hl:=bf b
 have ht:=At (mj b) (k:=k+1) hk
 have hd:=bh hl (k+1)
 generalize hx:(aL b).getD (k+1) 0=x at *
 obtain ⟨j1,j2⟩:=ru (x:=x) Y ht
 have j3:=vL (x:=x) Y
 have j4:=rv (x:=x) (n:=32) Y S
 have hb:b=lv ((aL b).take (k+1))+4294967296^(k+1)*x:=by
  have e:aL b=(aL b).take (k+2):=by rw [List.take_of_length_le Y]
  have h1:=bL (l:=aL b) (k:=k+1) Y
  rw [← e,bY,hx] at h1;exact h1
 have hlo:=ix (hl.take (k+1))
 rw [List.length_take_of_le Y] at hlo
 generalize lv ((aL b).take (k+1))=y at *
 obtain ⟨t,ht2⟩ : ∃ t,jb x=t+1:=⟨jb x - 1,by omega⟩
 rw [ht2] at j2 j3 j4 ⊢
 rw [Nat.add_sub_cancel] at j2
 have p1:2^t*2^(32 - (t+1))=2147483648:=by rw [← Nat.pow_add,show t+(32 - (t+1))=31 by omega]
 have p2:2^(t+1)*2^(32 - (t+1))=4294967296:=by rw [← Nat.pow_add,show t+1+(32 - (t+1))=32 by omega]
 have hp:=Nat.two_pow_pos (32 - (t+1))
 refine ⟨by omega,hl,?_,?_⟩
 ·rw [← p1,hb]
  calc 2^t*2^(32 - (t+1))*4294967296^(k+1)≤x*2^(32 - (t+1))*4294967296^(k+1):=Nat.mul_le_mul_right _ (Nat.mul_le_mul_right _ j2)
   _=4294967296^(k+1)*x*2^(32 - (t+1)):=by rw [Nat.mul_comm,Nat.mul_assoc]
   _≤_:=Nat.mul_le_mul_right _ (Nat.le_add_left _ _)
 ·have h1:b<4294967296^(k+1)*(x+1):=by rw [Nat.mul_add,Nat.mul_one]; omega
  calc b*2^(32 - (t+1))<4294967296^(k+1)*(x+1)*2^(32 - (t+1)):=Nat.mul_lt_mul_of_pos_right h1 hp
   _≤4294967296^(k+1)*2^(t+1)*2^(32 - (t+1)):=Nat.mul_le_mul_right _ (Nat.mul_le_mul_left _ j3)
   _=4294967296^(k+2):=by rw [Nat.mul_assoc,p2, ← Nat.pow_succ]
theorem Shf.v {b s k:Nat} {l z:List Nat} (h:Shf b l s k) (hz:bI z) (hl:z.length=k+3) (hv:lv z=b*2^s) :
  bI (z.take (k+2))∧(z.take (k+2)).length=k+2∧lv (z.take (k+2))=b*2^s∧2147483648≤(z.take (k+2)).getD (k+1) 0:=by
 have h1:=gB z (k+2) Y
 have h0:lv (z.drop (k+2))=0:=by
  rcases Nat.eq_zero_or_pos (lv (z.drop (k+2))) with h' | h'
  ·exact h'
  ·have:=Nat.le_mul_of_pos_right (4294967296^(k+2)) h';have:=h.hi;omega
 rw [h0,Nat.mul_zero,Nat.add_zero,hv] at h1
 have hlen:(z.take (k+2)).length=k+2:=by rw [List.length_take_of_le Y]
 have hL:=hz.take (k+2)
 refine ⟨hL,hlen,h1.symm,?_⟩
 generalize z.take (k+2)=v at *
 have h2:=bL (l:=v) (k:=k+1) Y
 rw [List.take_of_length_le Y] at h2
 have h3:=ix (hL.take (k+1))
 rw [List.length_take_of_le Y] at h3
 have h4:=h.lo
 rw [h1,h2] at h4
 generalize lv (v.take (k+1))=y at *
 generalize v.getD (k+1) 0=x at *
 generalize 4294967296^(k+1)=B at *
 rcases Nat.lt_or_ge x 2147483648 with h5 | h5
 ·have h6:B*x+B≤B*2147483648:=by rw [← Nat.mul_succ]; exact Nat.mul_le_mul_left _ h5
  rw [Nat.mul_comm 2147483648] at h4;omega
 ·exact h5
theorem Shf.u {a b s k e:Nat} {l:List Nat} (h:Shf b l s k) (ha:(aL a).length=k+2+e):a*2^s<b*2^s*4294967296^(e+1):=by
 have h1:=da a
 rw [ha] at h1
 have h2:2^s≤2147483648:=Nat.pow_le_pow_right (n:=2) S (show s≤31 by have:=h.s32;omega)
 calc a*2^s<4294967296^(k+2+e)*2^s:=Nat.mul_lt_mul_of_pos_right h1 (Nat.two_pow_pos s)
  _≤4294967296^(k+2+e)*2147483648:=Nat.mul_le_mul_left _ h2
  _=2147483648*4294967296^(k+1)*4294967296^(e+1):=by rw [Nat.mul_assoc, ← Nat.pow_add,Nat.mul_comm,show k+1+(e+1)=k+2+e by omega]
  _≤b*2^s*4294967296^(e+1):=Nat.mul_le_mul_right _ h.lo
end Tor
end
