/-
  Theorems that the proofs of laws of this seat rest on.
  No condition.
-/
import Derived.Test.YtamglpeiacmooaaGreatZA9
set_option maxHeartbeats 20000000
set_option linter.unusedVariables false
set_option linter.unusedSimpArgs false
section
namespace Tor
open Go Go.RowKit Go.Proofs
attribute [local irreducible] J PJ aU one slT cC bJ ci exT cH eP aY bf slV VT.le Ret bW
attribute [local irreducible] ce bq
theorem vH (b r c:Nat) (sM sU sV:S3) (M U V:Nat→Nat→Int) (i j:Nat) (hr:r≤1048576) (hc:c≤1048576) (hM:ok3 r sM) (hU:ok3 r sU) (hV:ok3 r sV) (hi:i<r) (hj:j<r) (hne:i≠j) :
  OkI Tryz.prog 55 [one (.pointer (some ⟨b,0,none⟩)),one (.int .i64 i),one (.int .i64 j)] (lN b r c sM sU sV M U V)
   (fun _:Unit=>ci []) (fun _=>lN b r c (iT i j sM.1,sM.2) (iT i j sU.1,sU.2) sV (swp i j M) (swp i j U) (jO i j V)):=by
 obtain ⟨bs,bo,cap,rfl,hbl⟩:=hM.some S
 obtain ⟨bsU,boU,capU,rfl,hblU⟩:=hU.some S
 obtain ⟨bsV,boV,capV,rfl,hblV⟩:=hV.some S
 unfold lN bh
 dsimp only at hbl hblU hblV ⊢
 refine OkI.enter Tryz.func55 Z Tryz.ntmps55 Z (fun w O => ?_)
 refine ah (aj (Am Z (Al (aq Z) (Al (aa Z) (Al (aa Z) (Al (au 0 0 2 Z Z Z Z Z) (Am Z (Al (an Z Z S) (Al (aS 1 Z Z S) ?_)))))))))
 refine An Z (Ap (ab (ah (aN 14 aK X Y (Am Z (Al (aq Z) (Al (aa Z) (Al (aa Z) (Al (au 0 0 2 Z Z Z Z Z) ?_)))))))))
 refine Am Z (Am Z (Al (aq Z) (Al (aa Z) (Al (aa Z) (Al (au 0 0 2 Z Z Z Z Z) (Am Z (Al (an Z Z S) (Al (aS 1 Z Z S) (Ap ?_)))))))))
 refine Al (an Z Z S) ?_
 (refine bK 1 Z Z Z ?_ Z ?_;omega)
 refine Ap (ab (ah (aj (Am Z (Al (aq Z) (Al (aa Z) (Al (aa Z) (Al (au 0 0 2 Z Z Z Z Z) (Am Z ?_)))))))))
 refine Am Z (Al (an Z Z S) ?_)
 (refine bK 1 Z Z Z ?_ Z ?_;omega)
 refine Ap (ab (ah (aj (Am Z (Al (aq Z) (Al (aa Z) (Al (aa Z) (Al (au 0 3 2 Z Z Z Z Z) (Am Z ?_)))))))))
 refine Al (an Z Z S) (Al (aS 3 Z Z S) (An Z (Ap (ab (ah (aN 14 aK X Y (Am Z (Al (aq Z) (Al (aa Z) ?_)))))))))
 refine Al (aa Z) (Al (au 0 3 2 Z Z Z Z Z) (Am Z (Am Z (Al (aq Z) (Al (aa Z) (Al (aa Z) (Al (au 0 3 2 Z Z Z Z Z) (Am Z (Al (an Z Z S) ?_)))))))))
 refine Al (aS 3 Z Z S) (Ap (Al (an Z Z S) ?_))
 (refine bK 3 Z Z Z ?_ Z ?_;omega)
 refine Ap (ab (ah (aj (Am Z (Al (aq Z) (Al (aa Z) (Al (aa Z) (Al (au 0 3 2 Z Z Z Z Z) (Am Z ?_)))))))))
 refine Am Z (Al (an Z Z S) ?_)
 (refine bK 3 Z Z Z ?_ Z ?_;omega)
 refine Ap (ab (ah (aj (An Z (Ap (ab (ao (jh (ConvM.cons (ConvM.le (kO S S hne))) (jh (ConvM.cons (ConvM.cons (jG S S hne))) ?_)))))))))
 refine jh (ConvM.cons (ConvM.cons (ConvM.cons (ConvM.le (kO S S hne))))) (jh (ConvM.cons (ConvM.cons (ConvM.cons (ConvM.cons (jG S S hne))))) (bL (Γ' := [(0,_),(1,_),(2,_),(7,_)]) Ag (SubM.refl _) ?_))
 refine bE (σ:=Nat) (Γk := [(0,_),(1,_),(2,_)]) Ag (fun a => [(7,one (.int .i64 (a:Nat)))]) (fun a M0=>(M0.set 6 (aZ r bsV (lz i j a V)))) (fun a=>a≤r) (fun a=>r - a) (0) (Nat.zero_le _) Ah (.keep Ak (.keep Ak (.keep Ak (.keep Ak (.keep Ak (.keep Ak (.keep Ak (.nil)))))))) (fun a ha => ?_)
 refine bN (Γ' := [(7,_),(0,_),(1,_),(2,_)]) (M' := [_,_,_,_,_,_,_]) Z Z ?_
 by_cases h:a<r
 ·refine ah (ah (aj (Am Z (Am Z (Al (aq Z) (Al (aa Z) (Al (aa Z) (Al (au 0 6 0 Z Z Z Z Z) (Al (sT S (aO Z Z)) ?_)))))))))
  refine Ap (ab (aB Z (av (ab (ah (ao (ah (aj (Am Z ?_)))))))))
  refine Al (aq Z) (Al (aa Z) (Al (aa Z) (Al (au 0 6 2 Z Z Z Z Z) (Am Z (Al (an Z Z S) (Al (aS 5 Z Z S) (Am Z (Al (an Z Z S) (Al (bF 6 Z Z (bM S) S) ?_)))))))))
  refine a5 (T:=55) Z (ltN Z) (fun b8 => ?_)
  refine aF 0 Z Z Z Z Z (leN Z) Z (Ap (ab (ah (aN 20 aK X Y (Am Z (Al (aq Z) (Al (aa Z) (Al (aa Z) (Al (au 1 6 2 Z Z Z Z Z) ?_)))))))))
  refine Am Z (Al (an Z Z S) (Al (aS 6 Z Z S) (Am Z (Am Z (Al (aq Z) (Al (aa Z) (Al (aa Z) (Al (au 1 6 2 Z Z Z Z Z) (Am Z ?_)))))))))
  refine Al (an Z Z S) (Al (aS 6 Z Z S) (Am Z (Al (an Z Z S) (Al (bF 7 Z Z (bM S) S) (Ap (Al (an Z Z S) ?_))))))
  (refine bg 7 Z Z Z (bM ?_) ?_ Z ?_;omega;omega)
  refine Ap (ab (aN 10 aK X Y (Am Z (Al (aq Z) (Al (aa Z) (Al (aa Z) (Al (au 1 6 2 Z Z Z Z Z) (Am Z (Al (an Z Z S) ?_)))))))))
  refine Al (aS 6 Z Z S) (Am Z (Al (ak 0 Z Z Z) (Ap (Al (an Z Z S) ?_))))
  (refine bg 7 Z Z Z (bM ?_) ?_ Z ?_;omega;omega)
  refine Ap (aD (ab (aj (Am Z (Al (bj _ 1 Z Z S) (An Z (Ap ?_)))))))
  refine aM (a+1) (h) S Ah (.drop (.keep Ak (.keep Ak (.keep Ak (.keep Ak (.keep Ak (.keep Ak (.keep (vy hne) (.nil)))))))))
 ·have he:r=a:=by omega
  subst he
  refine ah (ah (aj (Am Z (Am Z (Al (aq Z) (Al (aa Z) (Al (aa Z) (Al (au 0 6 0 Z Z Z Z Z) (Al (sF S (aO Z Z)) ?_)))))))))
  refine Ap (ab (ay Z (a4 (az (az (aI (gN ?_)))))))
  exact lE (σ:=Unit) (ψ:=fun _=>ci []) () Tryz.results55 W (.keep Ak (.keep Ak (.keep Ak (.keep Ak (.keep Ak (.keep Ak (.keep (vv hblV) .nil)))))))
theorem rB (b r c:Nat) (sM sU sV:S3) (M U V:Nat→Nat→Int) (i:Nat) (hr:r≤1048576) (hc:c≤1048576) (hM:ok3 r sM) (hU:ok3 r sU) (hV:ok3 r sV) (hi:i<r) (hmM : ∀ i j,bV (M i j)) (hmU : ∀ i j,bV (U i j)) (hmV : ∀ i j,bV (V i j)) :
  OkI Tryz.prog 56 [one (.pointer (some ⟨b,0,none⟩)),one (.int .i64 i)] (lN b r c sM sU sV M U V)
   (fun _:Unit=>ci []) (fun _=>lN b r c sM sU sV (dk i M) (dk i U) (jk i V)):=by
 obtain ⟨bs,bo,cap,rfl,hbl⟩:=hM.some S
 obtain ⟨bsU,boU,capU,rfl,hblU⟩:=hU.some S
 obtain ⟨bsV,boV,capV,rfl,hblV⟩:=hV.some S
 unfold lN bh
 dsimp only at hbl hblU hblV ⊢
 refine OkI.enter Tryz.func56 Z Tryz.ntmps56 Z (fun w O => ?_)
 refine ah (ah (aj (An Z (Ap (ab (ao (bL (Γ' := [(0,_),(1,_),(4,_)]) Ag (SubM.refl _) ?_)))))))
 refine bE (σ:=Nat) (Γk := [(0,_),(1,_)]) Ag (fun x => [(4,one (.int .i64 (x:Nat)))]) (fun x M0=>(M0.set 2 (aZ c bs (kN i x M)))) (fun x=>x≤c) (fun x=>c - x) (0) (Nat.zero_le _) Ah (.keep Ak (.keep Ak (.keep (sC) (.keep Ak (.keep Ak (.keep Ak (.keep Ak (.nil)))))))) (fun x hx => ?_)
 refine bN (Γ' := [(4,_),(0,_),(1,_)]) (M' := [_,_,_,_,_,_,_]) Z Z ?_
 by_cases h:x<c
 ·refine ah (ah (aj (Am Z (Am Z (Al (aq Z) (Al (aa Z) (Al (aa Z) (Al (au 0 0 1 Z Z Z Z Z) (Al (sT S (aO Z Z)) ?_)))))))))
  refine Ap (ab (aB Z (av (ab (ah (ao (aN 21 aK X Y (Am Z (Al (aq Z) ?_)))))))))
  refine Al (aa Z) (Al (aa Z) (Al (au 0 0 2 Z Z Z Z Z) (Am Z (Al (an Z Z S) (Al (aS 1 Z Z S) (Am Z (Am Z (Al (aq Z) (Al (aa Z) ?_)))))))))
  refine Al (aa Z) (Al (au 0 0 2 Z Z Z Z Z) (Am Z (Al (an Z Z S) (Al (aS 1 Z Z S) (Am Z (Al (an Z Z S) (Al (bF 2 Z Z (bM S) S) ?_)))))))
  refine Al (am (gx _ (ph hmM)) Z ⟨W,Aq⟩) ?_
  refine Ap (Al (an Z Z S) ?_)
  (refine bg 2 Z Z Z (bM ?_) ?_ Z ?_;omega;omega)
  refine Ap (aD (ab (aj (Am Z (Al (bj _ 1 Z Z S) (An Z (Ap ?_)))))))
  refine aM (x+1) (h) S Ah (.keep Ak (.keep Ak (.keep (sE) (.keep Ak (.keep Ak (.keep Ak (.keep Ak (.nil))))))))
 ·have he:c=x:=by omega
  subst he
  refine ah (ah (aj (Am Z (Am Z (Al (aq Z) (Al (aa Z) (Al (aa Z) (Al (au 0 0 1 Z Z Z Z Z) (Al (sF S (aO Z Z)) ?_)))))))))
  refine Ap (ab (ay Z (a4 (az (az (aI (ab (ah (ah ?_)))))))))
  refine aj (An Z (Ap (ab (ao (bL (Γ' := [(0,_),(1,_),(5,_)]) Ag (SubM.refl _) ?_)))))
  refine bE (σ:=Nat) (Γk := [(0,_),(1,_)]) Ag (fun x => [(5,one (.int .i64 (x:Nat)))]) (fun x M0=>((M0.set 4 (aZ r bsU (kN i x U))).set 2 (aZ c bs (dk i M)))) (fun x=>x≤r) (fun x=>r - x) (0) (Nat.zero_le _) Ah (.keep Ak (.keep Ak (.keep (sD) (.keep Ak (.keep (sC) (.keep Ak (.keep Ak (.nil)))))))) (fun x hx => ?_)
  refine bN (Γ' := [(5,_),(0,_),(1,_)]) (M' := [_,_,_,_,_,_,_]) Z Z ?_
  by_cases h:x<r
  ·refine ah (ah (aj (Am Z (Am Z (Al (aq Z) (Al (aa Z) (Al (aa Z) (Al (au 0 3 1 Z Z Z Z Z) (Al (sT S (aO Z Z)) ?_)))))))))
   refine Ap (ab (aB Z (av (ab (ah (ao (aN 21 aK X Y (Am Z (Al (aq Z) ?_)))))))))
   refine Al (aa Z) (Al (aa Z) (Al (au 0 3 2 Z Z Z Z Z) (Am Z (Al (an Z Z S) (Al (aS 3 Z Z S) (Am Z (Am Z (Al (aq Z) (Al (aa Z) ?_)))))))))
   refine Al (aa Z) (Al (au 0 3 2 Z Z Z Z Z) (Am Z (Al (an Z Z S) (Al (aS 3 Z Z S) (Am Z (Al (an Z Z S) (Al (bF 4 Z Z (bM S) S) ?_)))))))
   refine Al (am (gx _ (ph hmU)) Z ⟨W,Aq⟩) ?_
   refine Ap (Al (an Z Z S) ?_)
   (refine bg 4 Z Z Z (bM ?_) ?_ Z ?_;omega;omega)
   refine Ap (aD (ab (aj (Am Z (Al (bj _ 1 Z Z S) (An Z (Ap ?_)))))))
   refine aM (x+1) (h) S Ah (.keep Ak (.keep Ak (.keep Ak (.keep Ak (.keep (sE) (.keep Ak (.keep Ak (.nil))))))))
  ·have he:r=x:=by omega
   subst he
   refine ah (ah (aj (Am Z (Am Z (Al (aq Z) (Al (aa Z) (Al (aa Z) (Al (au 0 3 1 Z Z Z Z Z) (Al (sF S (aO Z Z)) ?_)))))))))
   refine Ap (ab (ay Z (a4 (az (az (aI (ab (ah (aj ?_)))))))))
   refine An Z (Ap (ab (ao (bL (Γ' := [(0,_),(1,_),(6,_)]) Ag (SubM.refl _) ?_))))
   refine bE (σ:=Nat) (Γk := [(0,_),(1,_)]) Ag (fun x => [(6,one (.int .i64 (x:Nat)))]) (fun x M0=>((M0.set 6 (aZ r bsV (nw i x V))).set 4 (aZ r bsU (dk i U)))) (fun x=>x≤r) (fun x=>r - x) (0) (Nat.zero_le _) Ah (.keep Ak (.keep Ak (.keep Ak (.keep Ak (.keep (sD) (.keep Ak (.keep Ak (.nil)))))))) (fun x hx => ?_)
   refine bN (Γ' := [(6,_),(0,_),(1,_)]) (M' := [_,_,_,_,_,_,_]) Z Z ?_
   by_cases h:x<r
   ·refine ah (ah (aj (Am Z (Am Z (Al (aq Z) (Al (aa Z) (Al (aa Z) (Al (au 0 6 0 Z Z Z Z Z) (Al (sT S (aO Z Z)) ?_)))))))))
    refine Ap (ab (aB Z (av (ab (ah (ao (aN 21 aK X Y (Am Z (Al (aq Z) ?_)))))))))
    refine Al (aa Z) (Al (aa Z) (Al (au 0 6 2 Z Z Z Z Z) (Am Z (Al (an Z Z S) (Al (aS 5 Z Z S) (Am Z (Am Z (Al (aq Z) (Al (aa Z) ?_)))))))))
    refine Al (aa Z) (Al (au 0 6 2 Z Z Z Z Z) (Am Z (Al (an Z Z S) (Al (aS 5 Z Z S) (Am Z (Al (an Z Z S) (Al (bF 6 Z Z (bM S) S) ?_)))))))
    refine Al (am (gx _ (sG hmV)) Z ⟨W,Aq⟩) ?_
    refine Ap (Al (an Z Z S) ?_)
    (refine bg 6 Z Z Z (bM ?_) ?_ Z ?_;omega;omega)
    refine Ap (aD (ab (aj (Am Z (Al (bj _ 1 Z Z S) (An Z (Ap ?_)))))))
    refine aM (x+1) (h) S Ah (.keep Ak (.keep Ak (.keep Ak (.keep Ak (.keep Ak (.keep Ak (.keep (vn) (.nil))))))))
   ·have he:r=x:=by omega
    subst he
    refine ah (ah (aj (Am Z (Am Z (Al (aq Z) (Al (aa Z) (Al (aa Z) (Al (au 0 6 0 Z Z Z Z Z) (Al (sF S (aO Z Z)) ?_)))))))))
    refine Ap (ab (ay Z (a4 (az (az (aI (gN ?_)))))))
    exact lE (σ:=Unit) (ψ:=fun _=>ci []) () Tryz.results56 W (.keep Ak (.keep Ak (.keep Ak (.keep Ak (.keep Ak (.keep Ak (.keep (vm hblV) .nil)))))))
end Tor
end
section
namespace Tor
open Go Go.RowKit Go.Proofs
theorem gD (r c:Nat) (F:Nat→Nat→Int) (hr:r≤1048576) (hc:c≤1048576) (hF : ∀ i j,bV (F i j)):OkM Tryz.prog 44 [be r c F] (bh r c) (fun s=>fX r c s F):=by
 have h:=qx r c F hr hc (fun i j=>bv (hF i j))
 simp only [Int.mul_one] at h
 exact fM h
theorem nh {E:Env} {D:List Deferred} {Γ:Ctx} {e:Exit} {Q:Exit→Act→World→Prop} {T:TypeId} {b2 r c:Nat} {Ac Ad:Own} {sM sU sV:S3} {A:VT} {M U V:Nat→Nat→Int} {row col:Int} {d:VT} (hM:ok3 r sM) (hU:ok3 r sU) (hV:ok3 r sV)
  (h:PJ E D Γ [Ac,aY b2 T 15 (ew A (be r c M) (be r r U) (be r r V) row col d),Ad] e Q) :
  PJ E D Γ [Ac,bn sM.2.1 sM.2.2 r c sM.1,aZ c sM.1 M,bn sU.2.1 sU.2.2 r r sU.1,aZ r sU.1 U,bn sV.2.1 sV.2.2 r r sV.1,aZ r sV.1 V,aY b2 T 15 (ew A (bh r c sM) (bh r r sU) (bh r r sV) row col d),Ad] e Q:=by
 have hE:=(vO.box (b:=b2) (T:=T) (m:=15) (gC (Ms := [bn sM.2.1 sM.2.2 r c sM.1,aZ c sM.1 M,bn sU.2.1 sU.2.2 r r sU.1,aZ r sU.1 U,bn sV.2.1 sV.2.2 r r sV.1,aZ r sV.1 V]) (row:=row) (col:=col) (d:=d) (Ent.refl A) (cn hM.1 (a8 0 Z) (a8 1 Z)) (cn hU.1 (a8 2 Z) (a8 3 Z)) (cn hV.1 (a8 4 Z) (a8 5 Z))))
 exact fJ [bn sM.2.1 sM.2.2 r c sM.1,aZ c sM.1 M,bn sU.2.1 sU.2.2 r r sU.1,aZ r sU.1 U,bn sV.2.1 sV.2.2 r r sV.1,aZ r sV.1 V] (iR 9 [1,2,3,4,5,6,0,7,8] H Z Z) (.keep (vO.refl _) (.keep hE (EntM.refl _))) (qR.refl _) h
theorem sJ {r c:Nat} {s:SS} (h:StL r c s):cz r c s=decide ((r:Int)≤(s.row:Int)∨(c:Int)≤(s.col:Int)):=decide_eq_decide.2 (by have:=h.row;have:=h.col;omega)
attribute [local irreducible] J PJ aU one slT cC bJ ci exT cH eP aY bf slV VT.le Ret bW
attribute [local irreducible] ce bq
set_option maxRecDepth 100000 in
theorem qF (r c:Nat) (A:Nat→Nat→Int) (s:SS) (hr:r≤1048576) (hc:c≤1048576) (hS:StL r c s) (hS2:StL r c (cQ r s)) (hf:cz r c s=false) :
  Ok Tryz.prog 36 [stT r c A s (one (.bool false))] (stT r c A (cQ r s) (one (.bool (cz r c (cQ r s))))):=by
 have hfo : ¬ (s.row=r∨s.col=c):=of_decide_eq_false hf
 have hrow:s.row<r:=by have:=hS.row;omega
 have hcol:s.col<c:=by have:=hS.col;omega
 have hcm:=gD r c s.M hr hc hS.m
 have hcu:=gD r r s.U hr hr hS.u
 have hcv:=gD r r s.V hr hr hS.v
 refine Ok.enter Tryz.func36 Z Tryz.ntmps36 Z (fun w O => ?_)
 refine ah (aj ?_)
 refine aR Z Z (ltN Z) (fun b1 => ?_)
 refine aW (T:=32) Z Z Z (fun b2 => ?_)
 refine Ap (ab (ah ?_))
 refine bL (Γ' := [(2,_),(1,_)]) (M' := [_,_]) Aj (SubM.refl _) ?_
 refine m4 6 10 [2,5,8] ([],none,0) (fun j s=>t5W j s (bh r c s) (bh r r s)) (fun j t=>t5N j t (fX r c t s.M) (fX r r t s.U) (fX r r t s.V)) aK X Y Z Y ?_
 refine kx Z (fun s B=>aa Z) Z ?_
 refine kx Z (fun s B=>ak 1 Z Z Z) Z ?_
 refine kc Z (fun s B=>dN hcm Z ⟨W,Aq⟩) Z ?_
 refine kx Z (fun s B=>aa Z) Z ?_
 refine kx Z (fun s B=>ak 1 Z Z Z) Z ?_
 refine kc Z (fun s B=>dN hcu Z ⟨W,Aq⟩) Z ?_
 refine kx Z (fun s B=>aa Z) Z ?_
 refine kx Z (fun s B=>ak 1 Z Z Z) Z ?_
 refine kc Z (fun s B=>dN hcv Z ⟨W,Aq⟩) Z ?_
 refine kd [2,5,8] (ψ:=fun s=>qC (bh r c (s 2)) (bh r r (s 5)) (bh r r (s 8))) Z H (fun s s' h=>by rw [h 2 Y,h 5 Y,h 8 Y]) (fun s B=>iC (.cons (φ:=bh r c (s 2)) Z Z Z (.cons (φ:=bh r r (s 5)) Z Z Z (.cons (φ:=bh r r (s 8)) Z Z Z .nil))) Z Z) Z ?_
 refine .nil fun t => ?_
 refine kv (Γ' := [(16,qC (bh r c (t 2)) (bh r r (t 5)) (bh r r (t 8))),(2,_),(1,_)]) (M' := [ed (ok3 r (t 2)),bn (t 2).2.1 (t 2).2.2 r c (t 2).1,aZ c (t 2).1 s.M,ed (ok3 r (t 5)),bn (t 5).2.1 (t 5).2.2 r r (t 5).1,aZ r (t 5).1 s.U,ed (ok3 r (t 8)),bn (t 8).2.1 (t 8).2.2 r r (t 8).1,aZ r (t 8).1 s.V,_,_]) Aj (SubM.refl _) ?_
 generalize t 2=sM
 generalize t 5=sU
 generalize t 8=sV
 refine aR Z Z (ltN Z) (fun b17 => ?_)
 refine An Z (Ap (ab (ah ?_)))
 refine eh (i:=1) (F:=ok3 r sM) Z (fun g h hp=>hp) (fun hM => ?_)
 refine eh (i:=4) (F:=ok3 r sU) Z (fun g h hp=>hp) (fun hU => ?_)
 refine eh (i:=7) (F:=ok3 r sV) Z (fun g h hp=>hp) (fun hV => ?_)
 refine bL (Γ' := [(3,_),(2,_),(1,_)]) (M' := [_,_,_,_,_,_,_,_,_]) Aj (.keep Ak (.drop (.keep Ak (.keep Ak (.drop (.keep Ak (.keep Ak (.drop (SubM.refl _))))))))) ?_
 have hle:=tV r c (be r c A) (be r r s.U) (be r r s.V) s.M s.row s.col (one (.bool false)) hr hc hrow hcol hS.m
 have hfi:=fun (a m u v:VT) (x y:Int)=>gf r c a m u v x y (one (.bool false))
 clear hcm hcu hcv
 by_cases c1:da (fun i=>s.M i s.col) s.row (r - s.row)<0
 ·have e1:cQ r s=⟨s.M,s.U,s.V,s.row,s.col+1⟩:=by unfold cQ;rw [if_pos c1]
  rw [sJ hS2,e1]
  refine aj (Al (aa Z) (Al (ak 8 Z Z Z) (An Z (Ap (ab (ah (aj (Al (aC 8 Z Z) ?_))))))))
  refine Al (am (hle) Z ⟨W,Aq⟩) ?_
  refine An Z (Ap (ab (ah (ao (ah (aj (Am Z (Al (sT (by assumption) (aO Z Z)) (An Z ?_)))))))))
  refine Ap (ab (aB Z (aj (Al (aa Z) (Al (ak 8 Z Z Z) (Al (bj _ 1 Z Z S) (Al (aa Z) (aF 8 Z Z Z Z Z (leN Z) Z (Ap ?_)))))))))
  refine aD (ab (ah (aj (Am Z (Al (aq Z) (Al (aa Z) (Al (ak 0 Z Z Z) (Al (aa Z) (aF 8 Z Z Z Z Z (leN Z) Z ?_)))))))))
  refine Ap (ab (ah (aj (Am Z (Al (aq Z) (Al (aa Z) (Al (ak 0 Z Z Z) (Al (aa Z) (aF 8 Z Z Z Z Z (leN Z) Z ?_)))))))))
  refine Ap (ab (ah (aj (Am Z (Al (aq Z) (Al (aa Z) (Al (ak 0 Z Z Z) (Al (aa Z) (aF 8 Z Z Z Z Z (leN Z) Z ?_)))))))))
  refine Ap (ab (ah (aj (Al (aC 8 Z Z) ?_))))
  refine Al (am (hfi _ _ _ _ _ _) Z ⟨W,Aq⟩) ?_
  refine Al (aa Z) (aF 8 Z Z Z Z Z (leN Z) Z (Ap (ab (ah (aj (Al (aC 8 Z Z) (aL 7 Z Z Z Z (Ap (ab ?_)))))))))
  refine aH (nh hM hU hV ?_)
  refine aJ Tryz.results36 (.cellW 1 Z Z W)
 ·by_cases c2:da (fun i=>s.M i s.col) s.row (r - s.row)=(s.row:Int)
  ·by_cases c3:s.M s.row s.col<0
   ·have e1:cQ r s=⟨dk s.row s.M,dk s.row s.U,jk s.row s.V,s.row,s.col⟩:=by unfold cQ;rw [if_neg c1,if_neg (fun h=>h c2),if_pos c3]
    have hsg:=yn.2 c3
    have hng:=rB b17 r c sM sU sV s.M s.U s.V s.row hr hc hM hU hV hrow hS.m hS.u hS.v
    rw [show cz r c (cQ r s)=false by rw [e1]; exact hf,e1]
    unfold lN at hng
    refine aj (Al (aa Z) (Al (ak 8 Z Z Z) (An Z (Ap (ab (ah (aj (Al (aC 8 Z Z) ?_))))))))
    refine Al (am (hle) Z ⟨W,Aq⟩) ?_
    refine An Z (Ap (ab (ah (ao (ah (aj (Am Z (Al (sF (by assumption) (aO Z Z)) (An Z ?_)))))))))
    refine Ap (ab (ay Z (ah (aj (Am Z (Am Z (Al (sF S (dq Z Z)) (An Z (Ap ?_)))))))))
    refine ab (ay Z (ah (aN 13 aK X Y (Al (aa Z) (Al (aa Z) (Al (au 8 3 2 Z Z Z Z Z) (Am Z (Al (ax Z Z S) (Al (aG Z) ?_)))))))))
    refine Al (aa Z) (Al (ak 8 Z Z Z) (Al (ax Z Z S) (Al (aG Z) ?_)))
    refine Al (am (cd _) Z ⟨W,Aq⟩) ?_
    refine Al (sT (by assumption) (aO Z Z)) (An Z (Ap (Ap (ab (aB Z (aj (Am Z (Am Z ?_))))))))
    refine jx (Kp := [_,_]) hng Z ⟨W,W,Aq⟩ (List.Perm.refl _) Z Z (fun _ => ?_)
    refine Ap (aD (ab (ah (aj (Am Z (Al (aq Z) (Al (aa Z) (Al (ak 0 Z Z Z) (Al (aa Z) ?_)))))))))
    refine aF 8 Z Z Z Z Z (leN Z) Z (Ap (ab (ah (aj (Am Z (Al (aq Z) (Al (aa Z) (Al (ak 0 Z Z Z) (Al (aa Z) ?_)))))))))
    refine aF 8 Z Z Z Z Z (leN Z) Z (Ap (ab (ah (aj (Am Z (Al (aq Z) (Al (aa Z) (Al (ak 0 Z Z Z) (Al (aa Z) ?_)))))))))
    refine aF 8 Z Z Z Z Z (leN Z) Z (Ap (ab (ah (aj (Al (aC 8 Z Z) ?_)))))
    refine Al (sF S (am (hfi _ _ _ _ _ _) Z ⟨W,Aq⟩)) ?_
    refine Al (aa Z) (aF 8 Z Z Z Z Z (leN Z) Z (Ap (ab (ah (aj (Al (aC 8 Z Z) (aL 7 Z Z Z Z (Ap (ab ?_)))))))))
    refine aH (nh hM hU hV ?_)
    refine aJ Tryz.results36 (.cellW 1 Z Z W)
   ·have hsg : ¬ dm (s.M s.row s.col)<0:=fun e=>c3 (yn.1 e)
    have hp:0<s.M s.row s.col:=by
     rcases dz (fun i=>s.M i s.col) s.row (r - s.row) with ⟨e,_⟩ | ⟨k,e,_,_,hk,_⟩
     ·exact absurd (by rw [e]; decide) c1
     ·have:k=s.row:=by omega
      rw [this] at hk;omega
    have hop:=vF r c (be r c A) (be r r s.U) (be r r s.V) s.M s.row s.col (one (.bool false)) hr hc hrow hcol hS.m hp
    by_cases c4:cG (bQ (fun i=>s.M i s.col) (s.M s.row s.col) s.row) r<r
    ·rw [if_pos c4] at hop
     have hk0:=eQ _ _ c4
     have e1:cQ r s=⟨cW (cG (bQ (fun i=>s.M i s.col) (s.M s.row s.col) s.row) r) s.row (s.M (cG (bQ (fun i=>s.M i s.col) (s.M s.row s.col) s.row) r) s.col / s.M s.row s.col) s.M,cW (cG (bQ (fun i=>s.M i s.col) (s.M s.row s.col) s.row) r) s.row (s.M (cG (bQ (fun i=>s.M i s.col) (s.M s.row s.col) s.row) r) s.col / s.M s.row s.col) s.U,gE s.row (cG (bQ (fun i=>s.M i s.col) (s.M s.row s.col) s.row) r) (s.M (cG (bQ (fun i=>s.M i s.col) (s.M s.row s.col) s.row) r) s.col / s.M s.row s.col) s.V,s.row,s.col⟩:=by unfold cQ;rw [if_neg c1,if_neg (fun h=>h c2),if_neg c3,if_pos c4]
     rw [show cz r c (cQ r s)=false by rw [e1]; exact hf,e1]
     generalize cG (bQ (fun i=>s.M i s.col) (s.M s.row s.col) s.row) r=k at *
     have hkn:k≠s.row:=(of_decide_eq_true hk0).1
     have had:=tX b17 r c sM sU sV s.M s.U s.V k s.row (s.M k s.col / s.M s.row s.col) hr hc hM hU hV c4 hrow hkn (m5 (hS.m _ _) _) hS.m hS.u hS.v
     have hfl:=tW (s.M k s.col) (s.M s.row s.col) (hS.m _ _) (hS.m _ _) hp
     have hsq:=bv (m5 (hS.m k s.col) (s.M s.row s.col))
     unfold lN at had
     refine aj (Al (aa Z) (Al (ak 8 Z Z Z) (An Z (Ap (ab (ah (aj (Al (aC 8 Z Z) ?_))))))))
     refine Al (am (hle) Z ⟨W,Aq⟩) ?_
     refine An Z (Ap (ab (ah (ao (ah (aj (Am Z (Al (sF (by assumption) (aO Z Z)) (An Z ?_)))))))))
     refine Ap (ab (ay Z (ah (aj (Am Z (Am Z (Al (sF S (dq Z Z)) (An Z (Ap ?_)))))))))
     refine ab (ay Z (ah (aN 13 aK X Y (Al (aa Z) (Al (aa Z) (Al (au 8 3 2 Z Z Z Z Z) (Am Z (Al (ax Z Z S) (Al (aG Z) ?_)))))))))
     refine Al (aa Z) (Al (ak 8 Z Z Z) (Al (ax Z Z S) (Al (aG Z) ?_)))
     refine Al (am (cd _) Z ⟨W,Aq⟩) ?_
     refine Al (sF (by assumption) (aO Z Z)) (An Z (Ap (Ap (ab (ay Z (ah (aj (Al (aC 8 Z Z) ?_))))))))
     refine Al (am (hop) Z ⟨W,Aq⟩) ?_
     refine An Z (Ap (ab (ah (aj (Am Z (Al (sF S (aO Z Z)) (Ap (ab (ay Z ?_)))))))))
     refine rR 16 25 aK X Y ?_
     unfold cM
     refine Am Z (Am Z (Am Z (Al (aa Z) (Al (aa Z) (Al (au 8 3 2 Z Z Z Z Z) (Am Z (Al (ax Z Z S) (Al (aG Z) (Al (aa Z) ?_)))))))))
     refine Al (ak 8 Z Z Z) (Al (ax Z Z S) (Al (aG Z) (Al (aa Z) (Al (aa Z) (Al (au 8 3 2 Z Z Z Z Z) (Am Z (Al (ax Z Z S) (Al (aG Z) (Al (aa Z) ?_)))))))))
     refine Al (ak 8 Z Z Z) (Al (ax Z Z S) (Al (aG Z) ?_))
     refine Al (am (hfl) Z ⟨W,W,Aq⟩) ?_
     refine Al (am (gx _ (by assumption)) Z ⟨W,Aq⟩) ?_
     refine Ap ?_
     refine jx (Kp := [_,_]) had Z ⟨W,W,W,W,Aq⟩ (List.Perm.refl _) Z Z (fun _ => ?_)
     refine Ap (aD (ab (ah (aj (Am Z (Al (aq Z) (Al (aa Z) (Al (ak 0 Z Z Z) (Al (aa Z) ?_)))))))))
     refine aF 8 Z Z Z Z Z (leN Z) Z (Ap (ab (ah (aj (Am Z (Al (aq Z) (Al (aa Z) (Al (ak 0 Z Z Z) (Al (aa Z) ?_)))))))))
     refine aF 8 Z Z Z Z Z (leN Z) Z (Ap (ab (ah (aj (Am Z (Al (aq Z) (Al (aa Z) (Al (ak 0 Z Z Z) (Al (aa Z) ?_)))))))))
     refine aF 8 Z Z Z Z Z (leN Z) Z (Ap (ab (ah (aj (Al (aC 8 Z Z) ?_)))))
     refine Al (sF S (am (hfi _ _ _ _ _ _) Z ⟨W,Aq⟩)) ?_
     refine Al (aa Z) (aF 8 Z Z Z Z Z (leN Z) Z (Ap (ab (ah (aj (Al (aC 8 Z Z) (aL 7 Z Z Z Z (Ap (ab ?_)))))))))
     refine aH (nh hM hU hV ?_)
     refine aJ Tryz.results36 (.cellW 1 Z Z W)
    ·rw [if_neg c4] at hop
     have e1:cQ r s=⟨s.M,s.U,s.V,s.row+1,s.col+1⟩:=by unfold cQ;rw [if_neg c1,if_neg (fun h=>h c2),if_neg c3,if_neg c4]
     rw [sJ hS2,e1]
     refine aj (Al (aa Z) (Al (ak 8 Z Z Z) (An Z (Ap (ab (ah (aj (Al (aC 8 Z Z) ?_))))))))
     refine Al (am (hle) Z ⟨W,Aq⟩) ?_
     refine An Z (Ap (ab (ah (ao (ah (aj (Am Z (Al (sF (by assumption) (aO Z Z)) (An Z ?_)))))))))
     refine Ap (ab (ay Z (ah (aj (Am Z (Am Z (Al (sF S (dq Z Z)) (An Z (Ap ?_)))))))))
     refine ab (ay Z (ah (aN 13 aK X Y (Al (aa Z) (Al (aa Z) (Al (au 8 3 2 Z Z Z Z Z) (Am Z (Al (ax Z Z S) (Al (aG Z) ?_)))))))))
     refine Al (aa Z) (Al (ak 8 Z Z Z) (Al (ax Z Z S) (Al (aG Z) ?_)))
     refine Al (am (cd _) Z ⟨W,Aq⟩) ?_
     refine Al (sF (by assumption) (aO Z Z)) (An Z (Ap (Ap (ab (ay Z (ah (aj (Al (aC 8 Z Z) ?_))))))))
     refine Al (am (hop) Z ⟨W,Aq⟩) ?_
     refine An Z (Ap (ab (ah (aj (Am Z (Al (sT S (aO Z Z)) (Ap (ab (aB Z ?_)))))))))
     refine ah (aj (Al (aa Z) (Al (ak 8 Z Z Z) (Al (bj _ 1 Z Z S) (Al (aa Z) (aF 8 Z Z Z Z Z (leN Z) Z (Ap (ab (aj ?_)))))))))
     refine Al (aa Z) (Al (ak 8 Z Z Z) (Al (bj _ 1 Z Z S) (Al (aa Z) (aF 8 Z Z Z Z Z (leN Z) Z (Ap (aD (ab (ah (aj ?_)))))))))
     refine Am Z (Al (aq Z) (Al (aa Z) (Al (ak 0 Z Z Z) (Al (aa Z) (aF 8 Z Z Z Z Z (leN Z) Z (Ap (ab (ah (aj ?_)))))))))
     refine Am Z (Al (aq Z) (Al (aa Z) (Al (ak 0 Z Z Z) (Al (aa Z) (aF 8 Z Z Z Z Z (leN Z) Z (Ap (ab (ah (aj ?_)))))))))
     refine Am Z (Al (aq Z) (Al (aa Z) (Al (ak 0 Z Z Z) (Al (aa Z) (aF 8 Z Z Z Z Z (leN Z) Z (Ap (ab (ah (aj ?_)))))))))
     refine Al (aC 8 Z Z) ?_
     refine Al (am (hfi _ _ _ _ _ _) Z ⟨W,Aq⟩) ?_
     refine Al (aa Z) (aF 8 Z Z Z Z Z (leN Z) Z (Ap (ab (ah (aj (Al (aC 8 Z Z) (aL 7 Z Z Z Z (Ap (ab ?_)))))))))
     refine aH (nh hM hU hV ?_)
     refine aJ Tryz.results36 (.cellW 1 Z Z W)
  ·obtain ⟨k,hk,hkr⟩ : ∃ k:Nat,da (fun i=>s.M i s.col) s.row (r - s.row)=(k:Int)∧k<r:=by
    rcases dz (fun i=>s.M i s.col) s.row (r - s.row) with ⟨e,_⟩ | ⟨k,e,_,hk,_⟩
    ·exact absurd (by rw [e]; decide) c1
    ·exact ⟨k,e,by omega⟩
   have hkn:k≠s.row:=fun e=>c2 (by rw [hk,e])
   have e1:cQ r s=⟨swp k s.row s.M,swp k s.row s.U,jO k s.row s.V,s.row,s.col⟩:=by unfold cQ;rw [if_neg c1,if_pos c2,hk]; rfl
   have hsw:=vH b17 r c sM sU sV s.M s.U s.V k s.row hr hc hM hU hV hkr hrow hkn
   rw [hk] at hle c1 c2
   rw [show cz r c (cQ r s)=false by rw [e1]; exact hf,e1]
   unfold lN at hsw
   refine aj (Al (aa Z) (Al (ak 8 Z Z Z) (An Z (Ap (ab (ah (aj (Al (aC 8 Z Z) ?_))))))))
   refine Al (am (hle) Z ⟨W,Aq⟩) ?_
   refine An Z (Ap (ab (ah (ao (ah (aj (Am Z (Al (sF (by assumption) (aO Z Z)) (An Z ?_)))))))))
   refine Ap (ab (ay Z (ah (aj (Am Z (Am Z (Al (sT (by assumption) (dq Z Z)) (An Z (Ap ?_)))))))))
   refine ab (aB Z (aj (Am Z (Am Z (Am Z ?_)))))
   refine jx (Kp := [_,_]) hsw Z ⟨W,W,W,Aq⟩ (List.Perm.refl _) Z Z (fun _ => ?_)
   refine Ap (aD (ab (ah (aj (Am Z (Al (aq Z) (Al (aa Z) (Al (ak 0 Z Z Z) (Al (aa Z) ?_)))))))))
   refine aF 8 Z Z Z Z Z (leN Z) Z (Ap (ab (ah (aj (Am Z (Al (aq Z) (Al (aa Z) (Al (ak 0 Z Z Z) (Al (aa Z) ?_)))))))))
   refine aF 8 Z Z Z Z Z (leN Z) Z (Ap (ab (ah (aj (Am Z (Al (aq Z) (Al (aa Z) (Al (ak 0 Z Z Z) (Al (aa Z) ?_)))))))))
   refine aF 8 Z Z Z Z Z (leN Z) Z (Ap (ab (ah (aj (Al (aC 8 Z Z) ?_)))))
   refine Al (sF S (am (hfi _ _ _ _ _ _) Z ⟨W,Aq⟩)) ?_
   refine Al (aa Z) (aF 8 Z Z Z Z Z (leN Z) Z (Ap (ab (ah (aj (Al (aC 8 Z Z) (aL 7 Z Z Z Z (Ap (ab ?_)))))))))
   refine aH ?_
   refine nh (sM:=(iT k s.row sM.1,sM.2)) (sU:=(iT k s.row sU.1,sU.2)) ⟨vr.trans hM.1,hM.2⟩ ⟨vr.trans hU.1,hU.2⟩ hV ?_
   refine aJ Tryz.results36 (.cellW 1 Z Z W)
end Tor
end
section
namespace Tor
open Go Go.RowKit Go.Proofs
attribute [local irreducible] J PJ aU one slT cC bJ ci exT cH eP aY bf slV VT.le Ret bW
attribute [local irreducible] ce bq
theorem od (r c:Nat) (A:Nat→Nat→Int) (s0:SS) (n:Int) (hn:n≤1048576) (hr:r≤1048576) (hc:c≤1048576) (hS : ∀ t,StL r c (bD r c t s0)) :
  Ok Tryz.prog 14 [stT r c A s0 (one (.bool (cz r c s0))),one (.int .i64 n)] (stT r c A (bD r c n.toNat s0) (one (.bool (cz r c (bD r c n.toNat s0))))):=by
 refine Ok.enter Tryz.func14 Z Tryz.ntmps14 Z (fun w O => ?_)
 refine ah (aj ?_)
 refine aR Z Z (ltN Z) (fun b2 => ?_)
 refine aW (T:=32) Z Z Z (fun b4 => ?_)
 refine Ap (ab (ah (ah (aj (An Z (Ap (ab (ao (bL (Γ' := [(1,_),(2,_),(4,_),(5,_)]) Ag (SubM.refl _) ?_)))))))))
 refine bE (σ:=Nat) (Γk := [(1,_),(2,_),(4,_)]) Ag (fun t => [(5,one (.int .i64 (t:Nat)))]) (fun t M0=>(M0.set 1 (aY b2 32 15 (stC r c A (bD r c t s0) (one (.bool (cz r c (bD r c t s0)))))))) (fun t=>t≤n.toNat) (fun t=>n.toNat - t) (0) (Nat.zero_le _) Ah (.keep Ak (.keep Ak (.nil))) (fun t ht => ?_)
 refine bN (Γ' := [(5,_),(1,_),(2,_),(4,_)]) (M' := [_,_]) Z Z ?_
 by_cases htn:(t:Int)<n
 ·cases hft:cz r c (bD r c t s0) with
  | true =>
   have e:bD r c n.toNat s0=bD r c t s0:=lm hft S
   rw [e,hft]
   refine ah (ah (aj (Am Z (Am Z (Al (sT (by assumption) (aO Z Z)) (Am Z (Ao (aa Z) (Ao (ak 1 Z Z Z) (Ao (aX Z) ?_)))))))))
   refine Al (aA Z Z) (Ap (ab (ay Z (a4 (az (az (aI (ab (ah ?_)))))))))
   refine aj (Al (aC 1 Z Z) (aL 0 Z Z Z Z (Ap (ab (aH ?_)))))
   refine aJ Tryz.results14 (.cellW 0 Z Z W)
  | false =>
   have e:=jB hft
   have hx:=qF r c A (bD r c t s0) hr hc (hS t) (by rw [← e]; exact hS (t+1)) hft
   rw [← e] at hx
   refine ah (ah (aj (Am Z (Am Z (Al (sT (by assumption) (aO Z Z)) (Am Z (Ao (aa Z) (Ao (ak 1 Z Z Z) (Ao (aX Z) ?_)))))))))
   refine Al (aA Z Z) (Ap (ab (aB Z (av (ab (ah (ao (aj (Al (aC 1 Z Z) ?_)))))))))
   refine Al (am (hx) Z ⟨W,Aq⟩) ?_
   refine aL 1 Z Z Z Z (Ap (aD (ab (aj (Am Z (Al (bj _ 1 Z Z S) (An Z (Ap ?_))))))))
   refine aM (t+1) S S Ah (.keep Ak (.keep Ak (.nil)))
 ·have hte:n.toNat=t:=by omega
  rw [hte]
  refine ah (ah (aj (Am Z (Am Z (Al (sF (by assumption) (aO Z Z)) (Am Z (sn0 Z Z Z Z Z (sn0 Z Z Z Z Z (sn0 Z Z Z Z Z ?_)))))))))
  refine Al (aw Z Z) (Ap (ab (ay Z (a4 (az (az (aI (ab (ah ?_)))))))))
  refine aj (Al (aC 1 Z Z) (aL 0 Z Z Z Z (Ap (ab (aH ?_)))))
  refine aJ Tryz.results14 (.cellW 0 Z Z W)
theorem tY (r c:Nat) (F:Nat→Nat→Int) (hr:r≤1048576) (hc:c≤1048576) (T:Nat) (hT:T≤1048576) (hfin:cz r c (bD r c T (bA F))=true) (hno : ∀ j,j<T→cz r c (bD r c j (bA F))=false) (hS : ∀ t,StL r c (bD r c t (bA F))) :
  Ok Tryz.prog 16 [be r c F] (one (.int .i64 (T:Nat))):=by
 have hst:=iV r c F hr hc
 refine Ok.enter Tryz.func16 Z Tryz.ntmps16 Z (fun w O => ?_)
 refine ah (aj ?_)
 refine aR Z Z (ltN Z) (fun b1 => ?_)
 refine An Z (Ap (ab (ah (aj (An Z (Ap (ab (ah (ah ?_)))))))))
 refine aj (Al (aC 0 Z Z) ?_)
 refine Al (am (hst) Z ⟨W,Aq⟩) ?_
 refine aW (T:=32) Z Z Z (fun b4 => ?_)
 refine aL 0 Z Z Z Z (Ap (ab (ao (bL (Γ' := [(2,_),(3,_),(4,_)]) Ag (SubM.refl _) ?_))))
 refine bE (σ:=Nat × Nat) (Γk := [(2,_)]) Ag (fun x => [(3,one (.int .i64 (x.1:Nat))),(4,one (.pointer (some ⟨x.2,0,none⟩)))]) (fun x M0=>(M0.set 0 (aY x.2 32 15 (stC r c F (bD r c x.1 (bA F)) (one (.bool (cz r c (bD r c x.1 (bA F))))))))) (fun x=>x.1≤T) (fun x=>T - x.1) ((0,b4)) (Nat.zero_le _) Ah (.keep Ak (.keep Ak (.nil))) (fun x hx => ?_)
 refine bN (Γ' := [(3,_),(4,_),(2,_)]) (M' := [_,_]) Z Z ?_
 obtain ⟨t,bx⟩:=x
 dsimp only at hx ⊢
 by_cases htT:t<T
 ·have hft:=hno t htT
  have e:=jB hft
  have hx:=qF r c F (bD r c t (bA F)) hr hc (hS t) (by rw [← e]; exact hS (t+1)) hft
  rw [← e] at hx
  rw [hft]
  refine ah (ah (aj (Al (aa Z) (Al (ak 0 Z Z Z) (Al (aX Z) (Ap (ab (aB Z (av ?_)))))))))
  refine ab (ah (ao (aj (Am Z (Al (bj _ 1 Z Z S) (An Z (Ap (aD (ab ?_)))))))))
  refine ah (ah (aj (Al (aC 0 Z Z) (Ap (ab (aj ?_))))))
  refine aW (T:=32) Z Z Z (fun b4 => ?_)
  refine aL 0 Z Z Z Z (Ap (ab (aj (Al (aC 0 Z Z) ?_))))
  refine Al (am (hx) Z ⟨W,Aq⟩) ?_
  refine aL 0 Z Z Z Z (Ap ?_)
  refine aM ((t+1,b4)) (htT) S Ah (.keep Ak (.drop (.keep Ak (.nil))))
 ·have hte:T=t:=by omega
  subst hte
  rw [hfin]
  refine ah (ah (aj (Al (aa Z) (Al (ak 0 Z Z Z) (Al (aX Z) (Ap (ab (ay Z (a4 ?_)))))))))
  refine az (az (aI (ab (ah (aj (Am Z (An Z (Ap (ab ?_)))))))))
  refine aH ?_
  refine aJ Tryz.results16 (.tmp Z W)
end Tor
end
section
namespace Tor
open Go Go.RowKit Go.Proofs
theorem pp {b R C:Nat} : Own.le (aY b 29 3 (kW (kW (dy #[Value.int IntKind.i64 0,Value.int IntKind.i64 0,Value.slice none 0 0] [(0, .one),(1, .one),(2, .one)]) 0 (one (.int .i64 R))) 1 (one (.int .i64 C)))) (aY b 29 3 [(0, .one,one (.int .i64 R)),(1, .one,one (.int .i64 C)),(2, .one,one (slV none 0 0))]):=Own.le_refl _
theorem qG {i C cap:Nat} {sv:Option Nat} {F:Nat→Nat→Int} : Own.le (bf sv 57 .one cap (i+1) (fun q=>if q<i then cM C (F q) else slT (.agg 2) ((C:Int) - 0).toNat fun j=>bq (F i (Int.toNat 0+j)))) (bf sv 57 .one cap (i+1) (fun q=>cM C (F q))):=eM fun q hq=>by
 by_cases h:q<i
 ·rw [if_pos h]; exact VT.le_refl _
 ·rw [if_neg h,show q=i by omega]; exact l7
attribute [local irreducible] J PJ aU one slT cC bJ ci exT cH eP aY bf slV VT.le Ret bW
attribute [local irreducible] ce bq
theorem rC (r c R C:Nat) (F:Nat→Nat→Int) (hr:r≤1048576) (hc:c≤1048576) (hR:R≤r) (hC:C≤c) :
  Ok Tryz.prog 40 [be r c F,one (.int .i64 R),one (.int .i64 C)] (be R C F):=by
 refine Ok.enter Tryz.func40 Z Tryz.ntmps40 Z (fun w O => ?_)
 unfold be
 refine ah (aj ?_)
 refine aR Z Z (ltN Z) (fun b3 => ?_)
 refine aW (T:=29) Z Z Z (fun b6 => ?_)
 refine Ap (ab (ah (aj (Am Z (Am Z (stB Z Z Z (BuildK.cons Z Z Z (BuildK.cons Z Z Z (BuildK.nil ?_)))))))))
 refine aW (T:=29) Z Z Z (fun b7 => ?_)
 refine aL 0 Z Z Z Z (Ap (ab (ah (ah (aj (An Z (Ap (ab (ao ?_)))))))))
 refine xv (q6 57 .one (fun q=>cM C (F q))) ?_
 refine bL (Γ' := [(1,_),(2,_),(3,_),(6,_),(7,_),(8,_)]) Ag (SubM.refl _) ?_
 refine bE (σ:=Nat × Option Nat × Nat) (Γk := [(1,_),(2,_),(3,_),(6,_),(7,_)]) Ag (fun x => [(8,one (.int .i64 (x.1:Nat)))]) (fun x M0=>((M0.set 0 (bf x.2.1 57 .one x.2.2 x.1 (fun q=>cM C (F q)))).set 1 (aY b7 29 3 [(0, .one,one (.int .i64 R)),(1, .one,one (.int .i64 C)),(2, .one,one (slV x.2.1 x.1 x.2.2))]))) (fun x=>x.1≤R) (fun x=>R - x.1) ((0,none,0)) (Nat.zero_le _) Ah (.keep Ak (.keep (pp) (.keep Ak (.keep Ak (.nil))))) (fun x hx => ?_)
 refine bN (Γ' := [(8,_),(1,_),(2,_),(3,_),(6,_),(7,_)]) (M' := [_,_,_,_]) Z Z ?_
 obtain ⟨i,sv,cap⟩:=x
 dsimp only at hx ⊢
 by_cases hi:i<R
 ·unfold cM
  refine ah (ah (aj (Am Z (Am Z (Al (sT S (aO Z Z)) (Ap (ab (aB Z (av ?_)))))))))
  refine ab (ah (ao (gL 10 aK X Y (Al (aa Z) (Al (ak 1 Z Z Z) (Al (aa Z) (Al (ak 3 Z Z Z) (Am Z (Al (ax Z Z S) ?_)))))))))
  refine Al (aG Z) (Am Z ?_)
  refine Al (fj Z Z Z Z (fun _=>rfl) S S S S) ?_
  refine ol Z Z Z Z (Ap ?_)
  (refine fk 0 Z Z Z (leN Z) ?_ ?_ Z (ltN Z) (fun sv27 cap27 => ?_);omega;omega)
  refine Al (aa Z) (aF 1 Z Z Z Z Z (leN Z) Z (Ap (aD (ab (aj (Am Z (Al (bj _ 1 Z Z S) (An Z (Ap ?_)))))))))
  refine aM ((i+1,sv27,cap27)) (hi) S Ah (.keep (qG) (.keep Ak (.keep Ak (.keep Ak (.nil)))))
 ·have hie:i=R:=by omega
  subst hie
  refine ah (ah (aj (Am Z (Am Z (Al (sF S (aO Z Z)) (Ap (ab (ay Z (a4 ?_)))))))))
  refine az (az (aI (ab (ah (aj (Al (aC 1 Z Z) (aL 2 Z Z Z Z (Ap (ab ?_)))))))))
  refine aH ?_
  refine fJ [bf sv 57 .one cap i (fun q=>cM C (F q))] (Kp := [_,_,_]) (List.Perm.refl _) (.keep (vO.refl _) (.keep (vO.box (cs' := [(0, .one,one (.int .i64 i)),(1, .one,one (.int .i64 C)),(2, .one,slT .one i fun q=>cM C (F q))]) (.cons (a8 0 Z) (Ent.refl _) (.cons (a8 1 Z) (Ent.refl _) (.cons (a8 2 Z) (Ent.sl List.mem_cons_self) .nil)))) (EntM.refl _))) (qR.refl _) ?_
  unfold cM
  refine aJ Tryz.results40 (.cellW 1 Z Z W)
end Tor
end
section
namespace Tor
open Go Go.RowKit Go.Proofs
attribute [local irreducible] J PJ aU one slT cC bJ ci exT cH eP aY bf slV VT.le Ret bW
attribute [local irreducible] ce bq
theorem ey (r c r' c':Nat) (F:Nat→Nat→Int) (hr:r≤1048576) (hF : ∀ i j,cg (F i j)):Ok Tryz.prog 38 [be r c F,one (.int .i64 r'),one (.int .i64 c')] (one (.bool (decide (r=r'∧c=c')))):=by
 have hv:=gB r c F hr hF
 refine Ok.enter Tryz.func38 Z Tryz.ntmps38 Z (fun w O => ?_)
 by_cases h1:r=r'
 ·by_cases h2:c=c'
  ·rw [decide_eq_true ⟨h1,h2⟩]
   unfold be at *
   refine ah (aj ?_)
   refine aR Z Z (ltN Z) (fun b3 => ?_)
   refine An Z (Ap (ab (ah (aj (Al (aa Z) (Al (ak 0 Z Z Z) (Am Z (Al (sT S (bI Z Z)) (Am Z ?_)))))))))
   refine Ao (aa Z) (Ao (ak 0 Z Z Z) (Ao (ae Z) (Ao (sT S (bI Z Z)) (Al (aA Z Z) (Am Z (Ao (aC 0 Z Z) ?_))))))
   refine Ao (am (hv) Z ⟨W,Aq⟩) ?_
   refine Al (aA Z Z) (An Z (Ap (ab (aH ?_))))
   refine aJ Tryz.results38 (.tmp Z W)
  ·rw [decide_eq_false (fun e=>h2 e.2)]
   unfold be at *
   refine ah (aj ?_)
   refine aR Z Z (ltN Z) (fun b3 => ?_)
   refine An Z (Ap (ab (ah (aj (Al (aa Z) (Al (ak 0 Z Z Z) (Am Z (Al (sT S (bI Z Z)) (Am Z ?_)))))))))
   refine Ao (aa Z) (Ao (ak 0 Z Z Z) (Ao (ae Z) (Ao (sF S (bI Z Z)) (Al (aA Z Z) (Am Z (sn0 Z Z Z Z Z (sn0 Z Z Z Z Z (Al (aw Z Z) (An Z ?_)))))))))
   refine Ap (ab (aH ?_))
   refine aJ Tryz.results38 (.tmp Z W)
 ·rw [decide_eq_false (fun e=>h1 e.1)]
  unfold be at *
  refine ah (aj ?_)
  refine aR Z Z (ltN Z) (fun b3 => ?_)
  refine An Z (Ap (ab (ah (aj (Al (aa Z) (Al (ak 0 Z Z Z) (Am Z (Al (sF S (bI Z Z)) (Am Z ?_)))))))))
  refine sn0 Z Z Z Z Z (sn0 Z Z Z Z Z (sn0 Z Z Z Z Z (sn0 Z Z Z Z Z (Al (aw Z Z) (Am Z (sn0 Z Z Z Z Z (sn0 Z Z Z Z Z (Al (aw Z Z) (An Z ?_)))))))))
  refine Ap (ab (aH ?_))
  refine aJ Tryz.results38 (.tmp Z W)
theorem ni (r c:Nat) (A M U V:Nat→Nat→Int) (r0 c0:Nat) (done:Bool) (hr:r≤1048576) (hc:c≤1048576) (hr0:r0≤r) (hc0:c0≤c) (hmA : ∀ i j,bV (A i j)) (hmM : ∀ i j,bV (M i j)) (hmU : ∀ i j,bV (U i j)) (hmV : ∀ i j,bV (V i j)) :
  Ok Tryz.prog 17 [fW (be r c A) (be r c M) (be r r U) (be r r V) r0 c0 (one (.bool done))] (one (.bool (m9 r c A M U V r0 c0 done))):=by
 have hf2:=gf r c (slT .one r fun i=>cM c (A i)) (be r c M) (be r r U) (be r r V) r0 c0 (one (.bool done))
 rw [show decide ((r:Int)≤(r0:Int)∨(c:Int)≤(c0:Int))=decide (r0=r∨c0=c) from decide_eq_decide.2 S] at hf2
 have hsm : ∀ F:Nat→Nat→Int,(∀ i j,bV (F i j)) → ∀ i j,cg (F i j):=fun F h i j=>bv (h i j)
 have hva:=gB r c A hr (hsm A hmA)
 have hs1:=ey r c r c M hr (hsm M hmM)
 have hs2:=ey r r r r U hr (hsm U hmU)
 have hs3:=ey r r r r V hr (hsm V hmV)
 rw [decide_eq_true (⟨rfl,rfl⟩:r=r∧c=c)] at hs1
 rw [decide_eq_true (⟨rfl,rfl⟩:r=r∧r=r)] at hs2 hs3
 have hm1:=gb r r U c A hr hr hc hmU hmA
 have hm2:=gb r r U r V hr hr hr hmU hmV
 have he1:=fc r c r c (eD r U A) M hr
 have he2:=fc r r r r (eD r U V) idF hr
 rw [show decide ((r:Int)=r∧(c:Int)=c∧tab r c (eD r U A)=tab r c M)=decide (tab r c (eD r U A)=tab r c M) from decide_eq_decide.2 ⟨fun h=>h.2.2,fun h=>⟨rfl,rfl,h⟩⟩] at he1
 rw [show decide ((r:Int)=r∧(r:Int)=r∧tab r r (eD r U V)=tab r r idF)=decide (tab r r (eD r U V)=tab r r idF) from decide_eq_decide.2 ⟨fun h=>h.2.2,fun h=>⟨rfl,rfl,h⟩⟩] at he2
 have hid:=iK r hr
 rw [show (fun i j=>if i=j then (1:Int) else 0)=idF from rfl] at hid
 have hco:=rC r c r0 c0 M hr hc hr0 hc0
 have hH:=sy r0 c0 M S S hmM
 have hRk:=ve r0 c0 M S S
 have hno : ¬ ValI r c A M U V r0 c0 done→m9 r c A M U V r0 c0 done=false:=fun h=>na h
 refine Ok.enter Tryz.func17 Z Tryz.ntmps17 Z (fun w O => ?_)
 by_cases hle:r0≤c0
 ·by_cases hdn:done=decide (r0=r∨c0=c)
  ·rw [← hdn] at hf2
   have hbb:(!(done == done))=false:=by cases done <;> rfl
   by_cases hua:tab r c (eD r U A)=tab r c M
   ·by_cases huv:tab r r (eD r U V)=tab r r idF
    ·by_cases hform:IsH r0 c0 M
     ·rw [ip hform] at hH
      have hrk:=hform.rank
      by_cases hrank:rkN c0 M r0=r0
      ·have hll:=hrk.1 hrank
       rw [hrank] at hRk
       refine ah (aj ?_)
       refine aR Z Z (ltN Z) (fun b1 => ?_)
       refine An Z (Ap (ab (ah (aj (Al (aa Z) (Al (ak 0 Z Z Z) ?_))))))
       refine Al (am (hva) Z ⟨W,Aq⟩) ?_
       refine An Z (Ap (ab (ah (ah (aj (Am Z (Al (aX Z) (Ap (ab ?_)))))))))
       refine ay Z (av (ab (ah (aj (Al (aa Z) (Al (aa Z) (Al (au 0 0 0 Z Z Z Z Z) (An Z (Ap ?_)))))))))
       refine ab (ah (aj (Al (aa Z) (Al (ak 0 Z Z Z) (Am Z (Al (aa Z) (Al (aa Z) (Al (au 0 0 1 Z Z Z Z Z) ?_))))))))
       refine Al (am (hs1) Z ⟨W,W,W,Aq⟩) ?_
       refine An Z (Ap (ab (ah (aj (Al (aa Z) (Al (ak 0 Z Z Z) (Am Z (Am Z ?_))))))))
       refine Al (am (hs2) Z ⟨W,W,W,Aq⟩) ?_
       refine An Z (Ap (ab (ah (aj (Al (aa Z) (Al (ak 0 Z Z Z) (Am Z (Am Z ?_))))))))
       refine Al (am (hs3) Z ⟨W,W,W,Aq⟩) ?_
       refine An Z (Ap (ab (ah (ah (aN 43 aK X Y (Am Z (Al (aX Z) (Am Z (Ao (ae Z) ?_)))))))))
       refine Ao (aX Z) (Al (aw Z Z) (Am Z (Ao (ae Z) (Ao (aX Z) (Al (aw Z Z) (Am Z (Ao (aa Z) (Ao (ak 0 Z Z Z) (Ao (sF S (aO Z Z)) ?_)))))))))
       refine Al (aw Z Z) (Am Z (Ao (aa Z) (Ao (ak 0 Z Z Z) (Ao (ae Z) (Ao (sF S (cK Z Z)) (Al (aw Z Z) (Am Z (Ao (aa Z) (Ao (ak 0 Z Z Z) ?_)))))))))
       refine Ao (aa Z) (Ao (ak 0 Z Z Z) (Ao (sF S (aO Z Z)) (Al (aw Z Z) (Am Z (Ao (aa Z) (Ao (ak 0 Z Z Z) (Ao (aa Z) (Ao (aa Z) (Ao (au 0 0 1 Z Z Z Z Z) ?_)))))))))
       refine Ao (sF S (cK Z Z)) (Al (aw Z Z) (Am Z (Ao (aa Z) (Ao (ak 0 Z Z Z) (Ao (aC 0 Z Z) ?_)))))
       refine Ao (am (hf2) Z ⟨W,Aq⟩) ?_
       refine Ao (sBf (by assumption) (eI Z Z)) (Al (aw Z Z) (Ap (Ap (ab (ay Z (av (ab (ah (ah ?_)))))))))
       refine aN 20 aK X Y (Al (aa Z) (Al (ak 0 Z Z Z) (Al (aa Z) (Al (ak 0 Z Z Z) ?_))))
       refine Al (am (hm1) Z ⟨W,W,Aq⟩) ?_
       refine Al (aa Z) (Al (ak 0 Z Z Z) ?_)
       refine Al (sT (by assumption) (am (he1) Z ⟨W,W,Aq⟩)) ?_
       refine Al (aX Z) (Am Z (Ao (aa Z) (Ao (ak 0 Z Z Z) (Ao (aa Z) (Ao (ak 0 Z Z Z) ?_)))))
       refine Ao (am (hm2) Z ⟨W,W,Aq⟩) ?_
       refine Ao (ae Z) ?_
       refine Ao (am (hid) Z ⟨W,Aq⟩) ?_
       refine Ao (sT (by assumption) (am (he2) Z ⟨W,W,Aq⟩)) ?_
       refine Ao (aX Z) (Al (aw Z Z) (Ap (Ap (ab (ay Z (av (ab (ah (aj ?_)))))))))
       refine Al (aa Z) (Al (ak 0 Z Z Z) (Al (aa Z) (Al (ak 0 Z Z Z) (Al (aa Z) (Al (ak 0 Z Z Z) ?_)))))
       refine Al (am (hco) Z ⟨W,W,W,Aq⟩) ?_
       refine aW (T:=29) Z Z Z (fun b8 => ?_)
       refine aL 0 Z Z Z Z (Ap (ab (ah (aj (Al (aC 0 Z Z) ?_)))))
       refine Al (am (hH) Z ⟨W,Aq⟩) ?_
       refine An Z (Ap (ab (ah (ah (aN 9 aK X Y (Am Z (Al (aX Z) (Am Z (Ao (aC 0 Z Z) ?_)))))))))
       refine Ao (am (hRk) Z ⟨W,Aq⟩) ?_
       refine Ao (aa Z) (Ao (ak 1 Z Z Z) (Ao (sF S (dq Z Z)) (Al (aw Z Z) (Ap (Ap (ab (ay Z (av (ab ?_)))))))))
       refine ah (ah (aj (Al (aa Z) (Al (ak 1 Z Z Z) (An Z (Ap (ab (ao (bL (Γ' := [(1,_),(2,_),(4,_),(10,_)]) Ag (SubM.refl _) ?_)))))))))
       refine bE (σ:=Nat) (Γk := [(1,_),(4,_)]) Ag (fun i => [(10,one (.int .i64 (i:Nat)))]) (fun i M0=>M0) (fun i=>r0≤i∧i≤r ∧ ∀ q,r0≤q→q<i → ∀ j,j<c0→M q j=0) (fun i=>r - i) (r0) (⟨Nat.le_refl _,hr0,fun q h1 h2=>absurd h2 S⟩) Ah (.keep Ak (.keep Ak (.nil))) (fun i hi => ?_)
       refine bN (Γ' := [(10,_),(1,_),(4,_)]) (M' := [_,_]) Z Z ?_
       obtain ⟨hi0,hi1,hi2⟩:=hi
       by_cases hi:i<r
       ·refine ah (ah (aj (Am Z (Am Z (Al (sT S (aO Z Z)) (Ap (ab (aB Z (av ?_)))))))))
        refine ab (ah (ao (ah (aj (An Z (Ap (ab (ao (bL (Γ' := [(1,_),(4,_),(10,_),(11,_)]) Ag (SubM.refl _) ?_)))))))))
        refine bE (σ:=Nat) (Γk := [(1,_),(4,_),(10,_)]) Ag (fun j => [(11,one (.int .i64 (j:Nat)))]) (fun j M0=>M0) (fun j=>j≤c0 ∧ ∀ k,k<j→M i k=0) (fun j=>c0 - j) (0) (⟨Nat.zero_le _,fun k hk=>absurd hk (Nat.not_lt_zero k)⟩) Ah (.keep Ak (.keep Ak (.nil))) (fun j hj => ?_)
        refine bN (Γ' := [(11,_),(1,_),(4,_),(10,_)]) (M' := [_,_]) Z Z ?_
        obtain ⟨hj1,hj2⟩:=hj
        by_cases hj:j<c0
        ·by_cases h0:M i j=0
         ·have hsg:=(cJ _).2 h0
          unfold be cM
          refine ah (ah (aj (Am Z (Al (aa Z) (Al (ak 1 Z Z Z) (Al (sT S (aO Z Z)) (Ap (ab (aB Z ?_)))))))))
          refine av (ab (ah (ao (ah (aj (Al (aa Z) (Al (aa Z) (Al (au 1 3 2 Z Z Z Z Z) (Am Z ?_)))))))))
          refine Al (ax Z Z S) (Al (aG Z) (Am Z (Al (ax Z Z S) (Al (aG Z) ?_))))
          refine Al (am (cd _) Z ⟨W,Aq⟩) ?_
          refine Al (sF S (dq Z Z)) (Ap (ab (ay Z (av (aD (ab (aj (Am Z (Al (bj _ 1 Z Z S) ?_)))))))))
          refine An Z (Ap ?_)
          refine aM (j+1) (⟨hj,fun k hk=>by rcases Nat.lt_or_eq_of_le (Nat.lt_succ_iff.1 hk) with h | h;exact hj2 k h;exact h▸h0⟩) S Ah (.keep Ak (.keep Ak (.nil)))
         ·have hsg:=fun e=>h0 ((cJ _).1 e)
          rw [hno (fun e=>h0 (e.low i j hi0 hi hj))]
          unfold be cM
          refine ah (ah (aj (Am Z (Al (aa Z) (Al (ak 1 Z Z Z) (Al (sT S (aO Z Z)) (Ap (ab (aB Z ?_)))))))))
          refine av (ab (ah (ao (ah (aj (Al (aa Z) (Al (aa Z) (Al (au 1 3 2 Z Z Z Z Z) (Am Z ?_)))))))))
          refine Al (ax Z Z S) (Al (aG Z) (Am Z (Al (ax Z Z S) (Al (aG Z) ?_))))
          refine Al (am (cd _) Z ⟨W,Aq⟩) ?_
          refine Al (sT (by assumption) (dq Z Z)) (Ap (ab (aB Z (ah (aj (An Z (Ap (ab (aH ?_)))))))))
          refine a7 (aE (aE (a7 (a7 (aE (aE (a7 (aE ?_))))))))
          refine aJ Tryz.results17 (.tmp Z W)
        ·refine ah (ah (aj (Am Z (Al (aa Z) (Al (ak 1 Z Z Z) (Al (sF S (aO Z Z)) (Ap (ab (ay Z ?_)))))))))
         refine a4 (az (az (aI (aD (ab (aj (Am Z (Al (bj _ 1 Z Z S) (An Z ?_)))))))))
         refine Ap ?_
         refine aM (i+1) (⟨by omega,hi,fun q h1 h2 k hk=>by rcases Nat.lt_or_eq_of_le (Nat.lt_succ_iff.1 h2) with h | h;exact hi2 q h1 h k hk;exact h▸hj2 k S⟩) S Ah (.keep Ak (.keep Ak (.nil)))
       ·rw [jJ ⟨hle,hdn,hua,huv,fun q k h1 h2 h3=>hi2 q h1 S k h3,hform,hll⟩]
        refine ah (ah (aj (Am Z (Am Z (Al (sF S (aO Z Z)) (Ap (ab (ay Z (a4 ?_)))))))))
        refine az (az (aI (ab (ah (aj (An Z (Ap (ab (aH ?_)))))))))
        refine aJ Tryz.results17 (.tmp Z W)
      ·have hrk2:=oW c0 M r0
       rw [hno (fun e=>hrank (hrk.2 e.last))]
       refine ah (aj ?_)
       refine aR Z Z (ltN Z) (fun b1 => ?_)
       refine An Z (Ap (ab (ah (aj (Al (aa Z) (Al (ak 0 Z Z Z) ?_))))))
       refine Al (am (hva) Z ⟨W,Aq⟩) ?_
       refine An Z (Ap (ab (ah (ah (aj (Am Z (Al (aX Z) (Ap (ab ?_)))))))))
       refine ay Z (av (ab (ah (aj (Al (aa Z) (Al (aa Z) (Al (au 0 0 0 Z Z Z Z Z) (An Z (Ap ?_)))))))))
       refine ab (ah (aj (Al (aa Z) (Al (ak 0 Z Z Z) (Am Z (Al (aa Z) (Al (aa Z) (Al (au 0 0 1 Z Z Z Z Z) ?_))))))))
       refine Al (am (hs1) Z ⟨W,W,W,Aq⟩) ?_
       refine An Z (Ap (ab (ah (aj (Al (aa Z) (Al (ak 0 Z Z Z) (Am Z (Am Z ?_))))))))
       refine Al (am (hs2) Z ⟨W,W,W,Aq⟩) ?_
       refine An Z (Ap (ab (ah (aj (Al (aa Z) (Al (ak 0 Z Z Z) (Am Z (Am Z ?_))))))))
       refine Al (am (hs3) Z ⟨W,W,W,Aq⟩) ?_
       refine An Z (Ap (ab (ah (ah (aN 43 aK X Y (Am Z (Al (aX Z) (Am Z (Ao (ae Z) ?_)))))))))
       refine Ao (aX Z) (Al (aw Z Z) (Am Z (Ao (ae Z) (Ao (aX Z) (Al (aw Z Z) (Am Z (Ao (aa Z) (Ao (ak 0 Z Z Z) (Ao (sF S (aO Z Z)) ?_)))))))))
       refine Al (aw Z Z) (Am Z (Ao (aa Z) (Ao (ak 0 Z Z Z) (Ao (ae Z) (Ao (sF S (cK Z Z)) (Al (aw Z Z) (Am Z (Ao (aa Z) (Ao (ak 0 Z Z Z) ?_)))))))))
       refine Ao (aa Z) (Ao (ak 0 Z Z Z) (Ao (sF S (aO Z Z)) (Al (aw Z Z) (Am Z (Ao (aa Z) (Ao (ak 0 Z Z Z) (Ao (aa Z) (Ao (aa Z) (Ao (au 0 0 1 Z Z Z Z Z) ?_)))))))))
       refine Ao (sF S (cK Z Z)) (Al (aw Z Z) (Am Z (Ao (aa Z) (Ao (ak 0 Z Z Z) (Ao (aC 0 Z Z) ?_)))))
       refine Ao (am (hf2) Z ⟨W,Aq⟩) ?_
       refine Ao (sBf (by assumption) (eI Z Z)) (Al (aw Z Z) (Ap (Ap (ab (ay Z (av (ab (ah (ah ?_)))))))))
       refine aN 20 aK X Y (Al (aa Z) (Al (ak 0 Z Z Z) (Al (aa Z) (Al (ak 0 Z Z Z) ?_))))
       refine Al (am (hm1) Z ⟨W,W,Aq⟩) ?_
       refine Al (aa Z) (Al (ak 0 Z Z Z) ?_)
       refine Al (sT (by assumption) (am (he1) Z ⟨W,W,Aq⟩)) ?_
       refine Al (aX Z) (Am Z (Ao (aa Z) (Ao (ak 0 Z Z Z) (Ao (aa Z) (Ao (ak 0 Z Z Z) ?_)))))
       refine Ao (am (hm2) Z ⟨W,W,Aq⟩) ?_
       refine Ao (ae Z) ?_
       refine Ao (am (hid) Z ⟨W,Aq⟩) ?_
       refine Ao (sT (by assumption) (am (he2) Z ⟨W,W,Aq⟩)) ?_
       refine Ao (aX Z) (Al (aw Z Z) (Ap (Ap (ab (ay Z (av (ab (ah (aj ?_)))))))))
       refine Al (aa Z) (Al (ak 0 Z Z Z) (Al (aa Z) (Al (ak 0 Z Z Z) (Al (aa Z) (Al (ak 0 Z Z Z) ?_)))))
       refine Al (am (hco) Z ⟨W,W,W,Aq⟩) ?_
       refine aW (T:=29) Z Z Z (fun b8 => ?_)
       refine aL 0 Z Z Z Z (Ap (ab (ah (aj (Al (aC 0 Z Z) ?_)))))
       refine Al (am (hH) Z ⟨W,Aq⟩) ?_
       refine An Z (Ap (ab (ah (ah (aN 9 aK X Y (Am Z (Al (aX Z) (Am Z (Ao (aC 0 Z Z) ?_)))))))))
       refine Ao (am (hRk) Z ⟨W,Aq⟩) ?_
       refine Ao (aa Z) (Ao (ak 1 Z Z Z) (Ao (sT S (dq Z Z)) (Al (aw Z Z) (Ap (Ap (ab (aB Z (ah (aj ?_)))))))))
       refine An Z (Ap (ab (aH (aE ?_))))
       refine aJ Tryz.results17 (.tmp Z W)
     ·rw [hno (fun e=>hform e.form)]
      rw [iQ hform] at hH
      refine ah (aj ?_)
      refine aR Z Z (ltN Z) (fun b1 => ?_)
      refine An Z (Ap (ab (ah (aj (Al (aa Z) (Al (ak 0 Z Z Z) ?_))))))
      refine Al (am (hva) Z ⟨W,Aq⟩) ?_
      refine An Z (Ap (ab (ah (ah (aj (Am Z (Al (aX Z) (Ap (ab ?_)))))))))
      refine ay Z (av (ab (ah (aj (Al (aa Z) (Al (aa Z) (Al (au 0 0 0 Z Z Z Z Z) (An Z (Ap ?_)))))))))
      refine ab (ah (aj (Al (aa Z) (Al (ak 0 Z Z Z) (Am Z (Al (aa Z) (Al (aa Z) (Al (au 0 0 1 Z Z Z Z Z) ?_))))))))
      refine Al (am (hs1) Z ⟨W,W,W,Aq⟩) ?_
      refine An Z (Ap (ab (ah (aj (Al (aa Z) (Al (ak 0 Z Z Z) (Am Z (Am Z ?_))))))))
      refine Al (am (hs2) Z ⟨W,W,W,Aq⟩) ?_
      refine An Z (Ap (ab (ah (aj (Al (aa Z) (Al (ak 0 Z Z Z) (Am Z (Am Z ?_))))))))
      refine Al (am (hs3) Z ⟨W,W,W,Aq⟩) ?_
      refine An Z (Ap (ab (ah (ah (aN 43 aK X Y (Am Z (Al (aX Z) (Am Z (Ao (ae Z) ?_)))))))))
      refine Ao (aX Z) (Al (aw Z Z) (Am Z (Ao (ae Z) (Ao (aX Z) (Al (aw Z Z) (Am Z (Ao (aa Z) (Ao (ak 0 Z Z Z) (Ao (sF S (aO Z Z)) ?_)))))))))
      refine Al (aw Z Z) (Am Z (Ao (aa Z) (Ao (ak 0 Z Z Z) (Ao (ae Z) (Ao (sF S (cK Z Z)) (Al (aw Z Z) (Am Z (Ao (aa Z) (Ao (ak 0 Z Z Z) ?_)))))))))
      refine Ao (aa Z) (Ao (ak 0 Z Z Z) (Ao (sF S (aO Z Z)) (Al (aw Z Z) (Am Z (Ao (aa Z) (Ao (ak 0 Z Z Z) (Ao (aa Z) (Ao (aa Z) (Ao (au 0 0 1 Z Z Z Z Z) ?_)))))))))
      refine Ao (sF S (cK Z Z)) (Al (aw Z Z) (Am Z (Ao (aa Z) (Ao (ak 0 Z Z Z) (Ao (aC 0 Z Z) ?_)))))
      refine Ao (am (hf2) Z ⟨W,Aq⟩) ?_
      refine Ao (sBf (by assumption) (eI Z Z)) (Al (aw Z Z) (Ap (Ap (ab (ay Z (av (ab (ah (ah ?_)))))))))
      refine aN 20 aK X Y (Al (aa Z) (Al (ak 0 Z Z Z) (Al (aa Z) (Al (ak 0 Z Z Z) ?_))))
      refine Al (am (hm1) Z ⟨W,W,Aq⟩) ?_
      refine Al (aa Z) (Al (ak 0 Z Z Z) ?_)
      refine Al (sT (by assumption) (am (he1) Z ⟨W,W,Aq⟩)) ?_
      refine Al (aX Z) (Am Z (Ao (aa Z) (Ao (ak 0 Z Z Z) (Ao (aa Z) (Ao (ak 0 Z Z Z) ?_)))))
      refine Ao (am (hm2) Z ⟨W,W,Aq⟩) ?_
      refine Ao (ae Z) ?_
      refine Ao (am (hid) Z ⟨W,Aq⟩) ?_
      refine Ao (sT (by assumption) (am (he2) Z ⟨W,W,Aq⟩)) ?_
      refine Ao (aX Z) (Al (aw Z Z) (Ap (Ap (ab (ay Z (av (ab (ah (aj ?_)))))))))
      refine Al (aa Z) (Al (ak 0 Z Z Z) (Al (aa Z) (Al (ak 0 Z Z Z) (Al (aa Z) (Al (ak 0 Z Z Z) ?_)))))
      refine Al (am (hco) Z ⟨W,W,W,Aq⟩) ?_
      refine aW (T:=29) Z Z Z (fun b8 => ?_)
      refine aL 0 Z Z Z Z (Ap (ab (ah (aj (Al (aC 0 Z Z) ?_)))))
      refine Al (am (hH) Z ⟨W,Aq⟩) ?_
      refine An Z (Ap (ab (ah (ah (aN 9 aK X Y (Am Z (Al (aX Z) (Am Z (sn0 Z Z Z Z Z ?_)))))))))
      refine sn0 Z Z Z Z Z (sn0 Z Z Z Z Z (sn0 Z Z Z Z Z (sn0 Z Z Z Z Z (Al (aA Z Z) (Ap (Ap (ab (aB Z (ah ?_)))))))))
      refine aj (An Z (Ap (ab (aH (aE ?_)))))
      refine aJ Tryz.results17 (.tmp Z W)
    ·rw [hno (fun e=>huv e.uv)]
     refine ah (aj ?_)
     refine aR Z Z (ltN Z) (fun b1 => ?_)
     refine An Z (Ap (ab (ah (aj (Al (aa Z) (Al (ak 0 Z Z Z) ?_))))))
     refine Al (am (hva) Z ⟨W,Aq⟩) ?_
     refine An Z (Ap (ab (ah (ah (aj (Am Z (Al (aX Z) (Ap (ab ?_)))))))))
     refine ay Z (av (ab (ah (aj (Al (aa Z) (Al (aa Z) (Al (au 0 0 0 Z Z Z Z Z) (An Z (Ap ?_)))))))))
     refine ab (ah (aj (Al (aa Z) (Al (ak 0 Z Z Z) (Am Z (Al (aa Z) (Al (aa Z) (Al (au 0 0 1 Z Z Z Z Z) ?_))))))))
     refine Al (am (hs1) Z ⟨W,W,W,Aq⟩) ?_
     refine An Z (Ap (ab (ah (aj (Al (aa Z) (Al (ak 0 Z Z Z) (Am Z (Am Z ?_))))))))
     refine Al (am (hs2) Z ⟨W,W,W,Aq⟩) ?_
     refine An Z (Ap (ab (ah (aj (Al (aa Z) (Al (ak 0 Z Z Z) (Am Z (Am Z ?_))))))))
     refine Al (am (hs3) Z ⟨W,W,W,Aq⟩) ?_
     refine An Z (Ap (ab (ah (ah (aN 43 aK X Y (Am Z (Al (aX Z) (Am Z (Ao (ae Z) ?_)))))))))
     refine Ao (aX Z) (Al (aw Z Z) (Am Z (Ao (ae Z) (Ao (aX Z) (Al (aw Z Z) (Am Z (Ao (aa Z) (Ao (ak 0 Z Z Z) (Ao (sF S (aO Z Z)) ?_)))))))))
     refine Al (aw Z Z) (Am Z (Ao (aa Z) (Ao (ak 0 Z Z Z) (Ao (ae Z) (Ao (sF S (cK Z Z)) (Al (aw Z Z) (Am Z (Ao (aa Z) (Ao (ak 0 Z Z Z) ?_)))))))))
     refine Ao (aa Z) (Ao (ak 0 Z Z Z) (Ao (sF S (aO Z Z)) (Al (aw Z Z) (Am Z (Ao (aa Z) (Ao (ak 0 Z Z Z) (Ao (aa Z) (Ao (aa Z) (Ao (au 0 0 1 Z Z Z Z Z) ?_)))))))))
     refine Ao (sF S (cK Z Z)) (Al (aw Z Z) (Am Z (Ao (aa Z) (Ao (ak 0 Z Z Z) (Ao (aC 0 Z Z) ?_)))))
     refine Ao (am (hf2) Z ⟨W,Aq⟩) ?_
     refine Ao (sBf (by assumption) (eI Z Z)) (Al (aw Z Z) (Ap (Ap (ab (ay Z (av (ab (ah (ah ?_)))))))))
     refine aN 20 aK X Y (Al (aa Z) (Al (ak 0 Z Z Z) (Al (aa Z) (Al (ak 0 Z Z Z) ?_))))
     refine Al (am (hm1) Z ⟨W,W,Aq⟩) ?_
     refine Al (aa Z) (Al (ak 0 Z Z Z) ?_)
     refine Al (sT (by assumption) (am (he1) Z ⟨W,W,Aq⟩)) ?_
     refine Al (aX Z) (Am Z (Ao (aa Z) (Ao (ak 0 Z Z Z) (Ao (aa Z) (Ao (ak 0 Z Z Z) ?_)))))
     refine Ao (am (hm2) Z ⟨W,W,Aq⟩) ?_
     refine Ao (ae Z) ?_
     refine Ao (am (hid) Z ⟨W,Aq⟩) ?_
     refine Ao (sF (by assumption) (am (he2) Z ⟨W,W,Aq⟩)) ?_
     refine Ao (aX Z) (Al (aw Z Z) (Ap (Ap (ab (aB Z (ah (aj (An Z (Ap ?_)))))))))
     refine ab (aH (aE ?_))
     refine aJ Tryz.results17 (.tmp Z W)
   ·rw [hno (fun e=>hua e.ua)]
    refine ah (aj ?_)
    refine aR Z Z (ltN Z) (fun b1 => ?_)
    refine An Z (Ap (ab (ah (aj (Al (aa Z) (Al (ak 0 Z Z Z) ?_))))))
    refine Al (am (hva) Z ⟨W,Aq⟩) ?_
    refine An Z (Ap (ab (ah (ah (aj (Am Z (Al (aX Z) (Ap (ab ?_)))))))))
    refine ay Z (av (ab (ah (aj (Al (aa Z) (Al (aa Z) (Al (au 0 0 0 Z Z Z Z Z) (An Z (Ap ?_)))))))))
    refine ab (ah (aj (Al (aa Z) (Al (ak 0 Z Z Z) (Am Z (Al (aa Z) (Al (aa Z) (Al (au 0 0 1 Z Z Z Z Z) ?_))))))))
    refine Al (am (hs1) Z ⟨W,W,W,Aq⟩) ?_
    refine An Z (Ap (ab (ah (aj (Al (aa Z) (Al (ak 0 Z Z Z) (Am Z (Am Z ?_))))))))
    refine Al (am (hs2) Z ⟨W,W,W,Aq⟩) ?_
    refine An Z (Ap (ab (ah (aj (Al (aa Z) (Al (ak 0 Z Z Z) (Am Z (Am Z ?_))))))))
    refine Al (am (hs3) Z ⟨W,W,W,Aq⟩) ?_
    refine An Z (Ap (ab (ah (ah (aN 43 aK X Y (Am Z (Al (aX Z) (Am Z (Ao (ae Z) ?_)))))))))
    refine Ao (aX Z) (Al (aw Z Z) (Am Z (Ao (ae Z) (Ao (aX Z) (Al (aw Z Z) (Am Z (Ao (aa Z) (Ao (ak 0 Z Z Z) (Ao (sF S (aO Z Z)) ?_)))))))))
    refine Al (aw Z Z) (Am Z (Ao (aa Z) (Ao (ak 0 Z Z Z) (Ao (ae Z) (Ao (sF S (cK Z Z)) (Al (aw Z Z) (Am Z (Ao (aa Z) (Ao (ak 0 Z Z Z) ?_)))))))))
    refine Ao (aa Z) (Ao (ak 0 Z Z Z) (Ao (sF S (aO Z Z)) (Al (aw Z Z) (Am Z (Ao (aa Z) (Ao (ak 0 Z Z Z) (Ao (aa Z) (Ao (aa Z) (Ao (au 0 0 1 Z Z Z Z Z) ?_)))))))))
    refine Ao (sF S (cK Z Z)) (Al (aw Z Z) (Am Z (Ao (aa Z) (Ao (ak 0 Z Z Z) (Ao (aC 0 Z Z) ?_)))))
    refine Ao (am (hf2) Z ⟨W,Aq⟩) ?_
    refine Ao (sBf (by assumption) (eI Z Z)) (Al (aw Z Z) (Ap (Ap (ab (ay Z (av (ab (ah (ah ?_)))))))))
    refine aN 20 aK X Y (Al (aa Z) (Al (ak 0 Z Z Z) (Al (aa Z) (Al (ak 0 Z Z Z) ?_))))
    refine Al (am (hm1) Z ⟨W,W,Aq⟩) ?_
    refine Al (aa Z) (Al (ak 0 Z Z Z) ?_)
    refine Al (sF (by assumption) (am (he1) Z ⟨W,W,Aq⟩)) ?_
    refine Al (aX Z) (Am Z (sn0 Z Z Z Z Z (sn0 Z Z Z Z Z (sn0 Z Z Z Z Z (sn0 Z Z Z Z Z (sn0 Z Z Z Z Z (sn0 Z Z Z Z Z (sn0 Z Z Z Z Z (sn0 Z Z Z Z Z ?_)))))))))
    refine sn0 Z Z Z Z Z (Al (aA Z Z) (Ap (Ap (ab (aB Z (ah (aj (An Z (Ap ?_)))))))))
    refine ab (aH (aE ?_))
    refine aJ Tryz.results17 (.tmp Z W)
  ·rw [hno (fun e=>hdn e.dn)]
   have hbb:(!(done == decide (r0=r∨c0=c)))=true:=by
    generalize decide (r0=r∨c0=c)=b at *
    cases done <;> cases b <;> first | rfl | exact absurd Z hdn
   refine ah (aj ?_)
   refine aR Z Z (ltN Z) (fun b1 => ?_)
   refine An Z (Ap (ab (ah (aj (Al (aa Z) (Al (ak 0 Z Z Z) ?_))))))
   refine Al (am (hva) Z ⟨W,Aq⟩) ?_
   refine An Z (Ap (ab (ah (ah (aj (Am Z (Al (aX Z) (Ap (ab ?_)))))))))
   refine ay Z (av (ab (ah (aj (Al (aa Z) (Al (aa Z) (Al (au 0 0 0 Z Z Z Z Z) (An Z (Ap ?_)))))))))
   refine ab (ah (aj (Al (aa Z) (Al (ak 0 Z Z Z) (Am Z (Al (aa Z) (Al (aa Z) (Al (au 0 0 1 Z Z Z Z Z) ?_))))))))
   refine Al (am (hs1) Z ⟨W,W,W,Aq⟩) ?_
   refine An Z (Ap (ab (ah (aj (Al (aa Z) (Al (ak 0 Z Z Z) (Am Z (Am Z ?_))))))))
   refine Al (am (hs2) Z ⟨W,W,W,Aq⟩) ?_
   refine An Z (Ap (ab (ah (aj (Al (aa Z) (Al (ak 0 Z Z Z) (Am Z (Am Z ?_))))))))
   refine Al (am (hs3) Z ⟨W,W,W,Aq⟩) ?_
   refine An Z (Ap (ab (ah (ah (aN 43 aK X Y (Am Z (Al (aX Z) (Am Z (Ao (ae Z) ?_)))))))))
   refine Ao (aX Z) (Al (aw Z Z) (Am Z (Ao (ae Z) (Ao (aX Z) (Al (aw Z Z) (Am Z (Ao (aa Z) (Ao (ak 0 Z Z Z) (Ao (sF S (aO Z Z)) ?_)))))))))
   refine Al (aw Z Z) (Am Z (Ao (aa Z) (Ao (ak 0 Z Z Z) (Ao (ae Z) (Ao (sF S (cK Z Z)) (Al (aw Z Z) (Am Z (Ao (aa Z) (Ao (ak 0 Z Z Z) ?_)))))))))
   refine Ao (aa Z) (Ao (ak 0 Z Z Z) (Ao (sF S (aO Z Z)) (Al (aw Z Z) (Am Z (Ao (aa Z) (Ao (ak 0 Z Z Z) (Ao (aa Z) (Ao (aa Z) (Ao (au 0 0 1 Z Z Z Z Z) ?_)))))))))
   refine Ao (sF S (cK Z Z)) (Al (aw Z Z) (Am Z (Ao (aa Z) (Ao (ak 0 Z Z Z) (Ao (aC 0 Z Z) ?_)))))
   refine Ao (am (hf2) Z ⟨W,Aq⟩) ?_
   refine Ao (sBt (by assumption) (eI Z Z)) (Al (aw Z Z) (Ap (Ap (ab (aB Z (ah (aj (An Z (Ap ?_)))))))))
   refine ab (aH (aE ?_))
   refine aJ Tryz.results17 (.tmp Z W)
 ·rw [hno (fun e=>hle e.le)]
  refine ah (aj ?_)
  refine aR Z Z (ltN Z) (fun b1 => ?_)
  refine An Z (Ap (ab (ah (aj (Al (aa Z) (Al (ak 0 Z Z Z) ?_))))))
  refine Al (am (hva) Z ⟨W,Aq⟩) ?_
  refine An Z (Ap (ab (ah (ah (aj (Am Z (Al (aX Z) (Ap (ab ?_)))))))))
  refine ay Z (av (ab (ah (aj (Al (aa Z) (Al (aa Z) (Al (au 0 0 0 Z Z Z Z Z) (An Z (Ap ?_)))))))))
  refine ab (ah (aj (Al (aa Z) (Al (ak 0 Z Z Z) (Am Z (Al (aa Z) (Al (aa Z) (Al (au 0 0 1 Z Z Z Z Z) ?_))))))))
  refine Al (am (hs1) Z ⟨W,W,W,Aq⟩) ?_
  refine An Z (Ap (ab (ah (aj (Al (aa Z) (Al (ak 0 Z Z Z) (Am Z (Am Z ?_))))))))
  refine Al (am (hs2) Z ⟨W,W,W,Aq⟩) ?_
  refine An Z (Ap (ab (ah (aj (Al (aa Z) (Al (ak 0 Z Z Z) (Am Z (Am Z ?_))))))))
  refine Al (am (hs3) Z ⟨W,W,W,Aq⟩) ?_
  refine An Z (Ap (ab (ah (ah (aN 43 aK X Y (Am Z (Al (aX Z) (Am Z (Ao (ae Z) ?_)))))))))
  refine Ao (aX Z) (Al (aw Z Z) (Am Z (Ao (ae Z) (Ao (aX Z) (Al (aw Z Z) (Am Z (Ao (aa Z) (Ao (ak 0 Z Z Z) (Ao (sF S (aO Z Z)) ?_)))))))))
  refine Al (aw Z Z) (Am Z (Ao (aa Z) (Ao (ak 0 Z Z Z) (Ao (ae Z) (Ao (sF S (cK Z Z)) (Al (aw Z Z) (Am Z (Ao (aa Z) (Ao (ak 0 Z Z Z) ?_)))))))))
  refine Ao (aa Z) (Ao (ak 0 Z Z Z) (Ao (sT S (aO Z Z)) (Al (aw Z Z) (Am Z (sn0 Z Z Z Z Z (sn0 Z Z Z Z Z (sn0 Z Z Z Z Z (sn0 Z Z Z Z Z (sn0 Z Z Z Z Z ?_)))))))))
  refine sn0 Z Z Z Z Z (Al (aA Z Z) (Am Z (sn0 Z Z Z Z Z (sn0 Z Z Z Z Z (sn0 Z Z Z Z Z (sn0 Z Z Z Z Z (sn0 Z Z Z Z Z (Al (aA Z Z) (Ap ?_)))))))))
  refine Ap (ab (aB Z (ah (aj (An Z (Ap (ab (aH (aE ?_)))))))))
  refine aJ Tryz.results17 (.tmp Z W)
theorem rD (ra ca rm cm ru cu rv cv:Nat) (A M U V:Nat→Nat→Int) (row col:Int) (done:Bool) (hrr:ra≤1048576∧rm≤1048576∧ru≤1048576∧rv≤1048576) (hmA : ∀ i j,bV (A i j)) (hmM : ∀ i j,bV (M i j)) (hmU : ∀ i j,bV (U i j)) (hmV : ∀ i j,bV (V i j)) (hf:i6 ra ca rm cm ru cu rv cv row col=false∨col<row) :
  Ok Tryz.prog 17 [fW (be ra ca A) (be rm cm M) (be ru cu U) (be rv cv V) row col (one (.bool done))] (one (.bool false)):=by
 have hf2:=gf ra ca (slT .one ra fun i=>cM ca (A i)) (be rm cm M) (be ru cu U) (be rv cv V) row col (one (.bool done))
 have hsm : ∀ F:Nat→Nat→Int,(∀ i j,bV (F i j)) → ∀ i j,cg (F i j):=fun F h i j=>bv (h i j)
 have hva:=gB ra ca A hrr.1 (hsm A hmA)
 have hs1:=ey rm cm ra ca M hrr.2.1 (hsm M hmM)
 have hs2:=ey ru cu ra ra U hrr.2.2.1 (hsm U hmU)
 have hs3:=ey rv cv ra ra V hrr.2.2.2 (hsm V hmV)
 refine Ok.enter Tryz.func17 Z Tryz.ntmps17 Z (fun w O => ?_)
 by_cases g1:rm=ra∧cm=ca
 ·rw [decide_eq_true g1] at hs1
  by_cases g2:ru=ra∧cu=ra
  ·rw [decide_eq_true g2] at hs2
   by_cases g3:rv=ra∧cv=ra
   ·rw [decide_eq_true g3] at hs3
    have hp:row<0∨(ra:Int)<row∨col<row∨(ca:Int)<col:=by
     rcases hf with hf | hf
     ·have:=of_decide_eq_false hf;omega
     ·omega
    by_cases h1:row<0
    ·refine ah (aj ?_)
     refine aR Z Z (ltN Z) (fun b1 => ?_)
     refine An Z (Ap (ab (ah (aj (Al (aa Z) (Al (ak 0 Z Z Z) ?_))))))
     refine Al (am (hva) Z ⟨W,Aq⟩) ?_
     refine An Z (Ap (ab (ah (ah (aj (Am Z (Al (aX Z) (Ap (ab ?_)))))))))
     refine ay Z (av (ab (ah (aj (Al (aa Z) (Al (aa Z) (Al (au 0 0 0 Z Z Z Z Z) (An Z (Ap ?_)))))))))
     refine ab (ah (aj (Al (aa Z) (Al (ak 0 Z Z Z) (Am Z (Al (aa Z) (Al (aa Z) (Al (au 0 0 1 Z Z Z Z Z) ?_))))))))
     refine Al (am (hs1) Z ⟨W,W,W,Aq⟩) ?_
     refine An Z (Ap (ab (ah (aj (Al (aa Z) (Al (ak 0 Z Z Z) (Am Z (Am Z ?_))))))))
     refine Al (am (hs2) Z ⟨W,W,W,Aq⟩) ?_
     refine An Z (Ap (ab (ah (aj (Al (aa Z) (Al (ak 0 Z Z Z) (Am Z (Am Z ?_))))))))
     refine Al (am (hs3) Z ⟨W,W,W,Aq⟩) ?_
     refine An Z (Ap (ab (ah (ah (aN 43 aK X Y (Am Z (Al (aX Z) (Am Z (Ao (ae Z) ?_)))))))))
     refine Ao (aX Z) (Al (aw Z Z) (Am Z (Ao (ae Z) (Ao (aX Z) (Al (aw Z Z) (Am Z (Ao (aa Z) (Ao (ak 0 Z Z Z) (Ao (sT (by assumption) (aO Z Z)) ?_)))))))))
     refine Al (aw Z Z) (Am Z (sn0 Z Z Z Z Z (sn0 Z Z Z Z Z (sn0 Z Z Z Z Z (sn0 Z Z Z Z Z (Al (aA Z Z) (Am Z (sn0 Z Z Z Z Z (sn0 Z Z Z Z Z ?_)))))))))
     refine sn0 Z Z Z Z Z (sn0 Z Z Z Z Z (sn0 Z Z Z Z Z (Al (aA Z Z) (Am Z (sn0 Z Z Z Z Z (sn0 Z Z Z Z Z (sn0 Z Z Z Z Z (sn0 Z Z Z Z Z (sn0 Z Z Z Z Z ?_)))))))))
     refine sn0 Z Z Z Z Z (Al (aA Z Z) (Am Z (sn0 Z Z Z Z Z (sn0 Z Z Z Z Z (sn0 Z Z Z Z Z (sn0 Z Z Z Z Z (sn0 Z Z Z Z Z (Al (aA Z Z) (Ap ?_)))))))))
     refine Ap (ab (aB Z (ah (aj (An Z (Ap (ab (aH (aE ?_)))))))))
     refine aJ Tryz.results17 (.tmp Z W)
    ·by_cases h2:(ra:Int)<row
     ·refine ah (aj ?_)
      refine aR Z Z (ltN Z) (fun b1 => ?_)
      refine An Z (Ap (ab (ah (aj (Al (aa Z) (Al (ak 0 Z Z Z) ?_))))))
      refine Al (am (hva) Z ⟨W,Aq⟩) ?_
      refine An Z (Ap (ab (ah (ah (aj (Am Z (Al (aX Z) (Ap (ab ?_)))))))))
      refine ay Z (av (ab (ah (aj (Al (aa Z) (Al (aa Z) (Al (au 0 0 0 Z Z Z Z Z) (An Z (Ap ?_)))))))))
      refine ab (ah (aj (Al (aa Z) (Al (ak 0 Z Z Z) (Am Z (Al (aa Z) (Al (aa Z) (Al (au 0 0 1 Z Z Z Z Z) ?_))))))))
      refine Al (am (hs1) Z ⟨W,W,W,Aq⟩) ?_
      refine An Z (Ap (ab (ah (aj (Al (aa Z) (Al (ak 0 Z Z Z) (Am Z (Am Z ?_))))))))
      refine Al (am (hs2) Z ⟨W,W,W,Aq⟩) ?_
      refine An Z (Ap (ab (ah (aj (Al (aa Z) (Al (ak 0 Z Z Z) (Am Z (Am Z ?_))))))))
      refine Al (am (hs3) Z ⟨W,W,W,Aq⟩) ?_
      refine An Z (Ap (ab (ah (ah (aN 43 aK X Y (Am Z (Al (aX Z) (Am Z (Ao (ae Z) ?_)))))))))
      refine Ao (aX Z) (Al (aw Z Z) (Am Z (Ao (ae Z) (Ao (aX Z) (Al (aw Z Z) (Am Z (Ao (aa Z) (Ao (ak 0 Z Z Z) (Ao (sF (by assumption) (aO Z Z)) ?_)))))))))
      refine Al (aw Z Z) (Am Z (Ao (aa Z) (Ao (ak 0 Z Z Z) (Ao (ae Z) (Ao (sT (by assumption) (cK Z Z)) (Al (aw Z Z) (Am Z (sn0 Z Z Z Z Z (sn0 Z Z Z Z Z ?_)))))))))
      refine sn0 Z Z Z Z Z (sn0 Z Z Z Z Z (sn0 Z Z Z Z Z (Al (aA Z Z) (Am Z (sn0 Z Z Z Z Z (sn0 Z Z Z Z Z (sn0 Z Z Z Z Z (sn0 Z Z Z Z Z (sn0 Z Z Z Z Z ?_)))))))))
      refine sn0 Z Z Z Z Z (Al (aA Z Z) (Am Z (sn0 Z Z Z Z Z (sn0 Z Z Z Z Z (sn0 Z Z Z Z Z (sn0 Z Z Z Z Z (sn0 Z Z Z Z Z (Al (aA Z Z) (Ap ?_)))))))))
      refine Ap (ab (aB Z (ah (aj (An Z (Ap (ab (aH (aE ?_)))))))))
      refine aJ Tryz.results17 (.tmp Z W)
     ·by_cases h3:col<row
      ·refine ah (aj ?_)
       refine aR Z Z (ltN Z) (fun b1 => ?_)
       refine An Z (Ap (ab (ah (aj (Al (aa Z) (Al (ak 0 Z Z Z) ?_))))))
       refine Al (am (hva) Z ⟨W,Aq⟩) ?_
       refine An Z (Ap (ab (ah (ah (aj (Am Z (Al (aX Z) (Ap (ab ?_)))))))))
       refine ay Z (av (ab (ah (aj (Al (aa Z) (Al (aa Z) (Al (au 0 0 0 Z Z Z Z Z) (An Z (Ap ?_)))))))))
       refine ab (ah (aj (Al (aa Z) (Al (ak 0 Z Z Z) (Am Z (Al (aa Z) (Al (aa Z) (Al (au 0 0 1 Z Z Z Z Z) ?_))))))))
       refine Al (am (hs1) Z ⟨W,W,W,Aq⟩) ?_
       refine An Z (Ap (ab (ah (aj (Al (aa Z) (Al (ak 0 Z Z Z) (Am Z (Am Z ?_))))))))
       refine Al (am (hs2) Z ⟨W,W,W,Aq⟩) ?_
       refine An Z (Ap (ab (ah (aj (Al (aa Z) (Al (ak 0 Z Z Z) (Am Z (Am Z ?_))))))))
       refine Al (am (hs3) Z ⟨W,W,W,Aq⟩) ?_
       refine An Z (Ap (ab (ah (ah (aN 43 aK X Y (Am Z (Al (aX Z) (Am Z (Ao (ae Z) ?_)))))))))
       refine Ao (aX Z) (Al (aw Z Z) (Am Z (Ao (ae Z) (Ao (aX Z) (Al (aw Z Z) (Am Z (Ao (aa Z) (Ao (ak 0 Z Z Z) (Ao (sF (by assumption) (aO Z Z)) ?_)))))))))
       refine Al (aw Z Z) (Am Z (Ao (aa Z) (Ao (ak 0 Z Z Z) (Ao (ae Z) (Ao (sF (by assumption) (cK Z Z)) (Al (aw Z Z) (Am Z (Ao (aa Z) (Ao (ak 0 Z Z Z) ?_)))))))))
       refine Ao (aa Z) (Ao (ak 0 Z Z Z) (Ao (sT (by assumption) (aO Z Z)) (Al (aw Z Z) (Am Z (sn0 Z Z Z Z Z (sn0 Z Z Z Z Z (sn0 Z Z Z Z Z (sn0 Z Z Z Z Z (sn0 Z Z Z Z Z ?_)))))))))
       refine sn0 Z Z Z Z Z (Al (aA Z Z) (Am Z (sn0 Z Z Z Z Z (sn0 Z Z Z Z Z (sn0 Z Z Z Z Z (sn0 Z Z Z Z Z (sn0 Z Z Z Z Z (Al (aA Z Z) (Ap ?_)))))))))
       refine Ap (ab (aB Z (ah (aj (An Z (Ap (ab (aH (aE ?_)))))))))
       refine aJ Tryz.results17 (.tmp Z W)
      ·refine ah (aj ?_)
       refine aR Z Z (ltN Z) (fun b1 => ?_)
       refine An Z (Ap (ab (ah (aj (Al (aa Z) (Al (ak 0 Z Z Z) ?_))))))
       refine Al (am (hva) Z ⟨W,Aq⟩) ?_
       refine An Z (Ap (ab (ah (ah (aj (Am Z (Al (aX Z) (Ap (ab ?_)))))))))
       refine ay Z (av (ab (ah (aj (Al (aa Z) (Al (aa Z) (Al (au 0 0 0 Z Z Z Z Z) (An Z (Ap ?_)))))))))
       refine ab (ah (aj (Al (aa Z) (Al (ak 0 Z Z Z) (Am Z (Al (aa Z) (Al (aa Z) (Al (au 0 0 1 Z Z Z Z Z) ?_))))))))
       refine Al (am (hs1) Z ⟨W,W,W,Aq⟩) ?_
       refine An Z (Ap (ab (ah (aj (Al (aa Z) (Al (ak 0 Z Z Z) (Am Z (Am Z ?_))))))))
       refine Al (am (hs2) Z ⟨W,W,W,Aq⟩) ?_
       refine An Z (Ap (ab (ah (aj (Al (aa Z) (Al (ak 0 Z Z Z) (Am Z (Am Z ?_))))))))
       refine Al (am (hs3) Z ⟨W,W,W,Aq⟩) ?_
       refine An Z (Ap (ab (ah (ah (aN 43 aK X Y (Am Z (Al (aX Z) (Am Z (Ao (ae Z) ?_)))))))))
       refine Ao (aX Z) (Al (aw Z Z) (Am Z (Ao (ae Z) (Ao (aX Z) (Al (aw Z Z) (Am Z (Ao (aa Z) (Ao (ak 0 Z Z Z) (Ao (sF (by assumption) (aO Z Z)) ?_)))))))))
       refine Al (aw Z Z) (Am Z (Ao (aa Z) (Ao (ak 0 Z Z Z) (Ao (ae Z) (Ao (sF (by assumption) (cK Z Z)) (Al (aw Z Z) (Am Z (Ao (aa Z) (Ao (ak 0 Z Z Z) ?_)))))))))
       refine Ao (aa Z) (Ao (ak 0 Z Z Z) (Ao (sF (by assumption) (aO Z Z)) (Al (aw Z Z) (Am Z (Ao (aa Z) (Ao (ak 0 Z Z Z) (Ao (aa Z) (Ao (aa Z) (Ao (au 0 0 1 Z Z Z Z Z) ?_)))))))))
       refine Ao (sT S (cK Z Z)) (Al (aw Z Z) (Am Z (sn0 Z Z Z Z Z (sn0 Z Z Z Z Z (sn0 Z Z Z Z Z (sn0 Z Z Z Z Z (sn0 Z Z Z Z Z (Al (aA Z Z) (Ap ?_)))))))))
       refine Ap (ab (aB Z (ah (aj (An Z (Ap (ab (aH (aE ?_)))))))))
       refine aJ Tryz.results17 (.tmp Z W)
   ·rw [decide_eq_false g3] at hs3
    refine ah (aj ?_)
    refine aR Z Z (ltN Z) (fun b1 => ?_)
    refine An Z (Ap (ab (ah (aj (Al (aa Z) (Al (ak 0 Z Z Z) ?_))))))
    refine Al (am (hva) Z ⟨W,Aq⟩) ?_
    refine An Z (Ap (ab (ah (ah (aj (Am Z (Al (aX Z) (Ap (ab ?_)))))))))
    refine ay Z (av (ab (ah (aj (Al (aa Z) (Al (aa Z) (Al (au 0 0 0 Z Z Z Z Z) (An Z (Ap ?_)))))))))
    refine ab (ah (aj (Al (aa Z) (Al (ak 0 Z Z Z) (Am Z (Al (aa Z) (Al (aa Z) (Al (au 0 0 1 Z Z Z Z Z) ?_))))))))
    refine Al (am (hs1) Z ⟨W,W,W,Aq⟩) ?_
    refine An Z (Ap (ab (ah (aj (Al (aa Z) (Al (ak 0 Z Z Z) (Am Z (Am Z ?_))))))))
    refine Al (am (hs2) Z ⟨W,W,W,Aq⟩) ?_
    refine An Z (Ap (ab (ah (aj (Al (aa Z) (Al (ak 0 Z Z Z) (Am Z (Am Z ?_))))))))
    refine Al (am (hs3) Z ⟨W,W,W,Aq⟩) ?_
    refine An Z (Ap (ab (ah (ah (aN 43 aK X Y (Am Z (Al (aX Z) (Am Z (Ao (ae Z) ?_)))))))))
    refine Ao (aX Z) (Al (aw Z Z) (Am Z (Ao (ae Z) (Ao (aX Z) (Al (aw Z Z) (Am Z (sn0 Z Z Z Z Z (sn0 Z Z Z Z Z (sn0 Z Z Z Z Z ?_)))))))))
    refine Al (aA Z Z) (Am Z (sn0 Z Z Z Z Z (sn0 Z Z Z Z Z (sn0 Z Z Z Z Z (sn0 Z Z Z Z Z (Al (aA Z Z) (Am Z (sn0 Z Z Z Z Z (sn0 Z Z Z Z Z ?_)))))))))
    refine sn0 Z Z Z Z Z (sn0 Z Z Z Z Z (sn0 Z Z Z Z Z (Al (aA Z Z) (Am Z (sn0 Z Z Z Z Z (sn0 Z Z Z Z Z (sn0 Z Z Z Z Z (sn0 Z Z Z Z Z (sn0 Z Z Z Z Z ?_)))))))))
    refine sn0 Z Z Z Z Z (Al (aA Z Z) (Am Z (sn0 Z Z Z Z Z (sn0 Z Z Z Z Z (sn0 Z Z Z Z Z (sn0 Z Z Z Z Z (sn0 Z Z Z Z Z (Al (aA Z Z) (Ap ?_)))))))))
    refine Ap (ab (aB Z (ah (aj (An Z (Ap (ab (aH (aE ?_)))))))))
    refine aJ Tryz.results17 (.tmp Z W)
  ·rw [decide_eq_false g2] at hs2
   refine ah (aj ?_)
   refine aR Z Z (ltN Z) (fun b1 => ?_)
   refine An Z (Ap (ab (ah (aj (Al (aa Z) (Al (ak 0 Z Z Z) ?_))))))
   refine Al (am (hva) Z ⟨W,Aq⟩) ?_
   refine An Z (Ap (ab (ah (ah (aj (Am Z (Al (aX Z) (Ap (ab ?_)))))))))
   refine ay Z (av (ab (ah (aj (Al (aa Z) (Al (aa Z) (Al (au 0 0 0 Z Z Z Z Z) (An Z (Ap ?_)))))))))
   refine ab (ah (aj (Al (aa Z) (Al (ak 0 Z Z Z) (Am Z (Al (aa Z) (Al (aa Z) (Al (au 0 0 1 Z Z Z Z Z) ?_))))))))
   refine Al (am (hs1) Z ⟨W,W,W,Aq⟩) ?_
   refine An Z (Ap (ab (ah (aj (Al (aa Z) (Al (ak 0 Z Z Z) (Am Z (Am Z ?_))))))))
   refine Al (am (hs2) Z ⟨W,W,W,Aq⟩) ?_
   refine An Z (Ap (ab (ah (aj (Al (aa Z) (Al (ak 0 Z Z Z) (Am Z (Am Z ?_))))))))
   refine Al (am (hs3) Z ⟨W,W,W,Aq⟩) ?_
   refine An Z (Ap (ab (ah (ah (aN 43 aK X Y (Am Z (Al (aX Z) (Am Z (Ao (ae Z) ?_)))))))))
   refine Ao (aX Z) (Al (aw Z Z) (Am Z (sn0 Z Z Z Z Z (sn0 Z Z Z Z Z (Al (aA Z Z) (Am Z (sn0 Z Z Z Z Z (sn0 Z Z Z Z Z (sn0 Z Z Z Z Z ?_)))))))))
   refine Al (aA Z Z) (Am Z (sn0 Z Z Z Z Z (sn0 Z Z Z Z Z (sn0 Z Z Z Z Z (sn0 Z Z Z Z Z (Al (aA Z Z) (Am Z (sn0 Z Z Z Z Z (sn0 Z Z Z Z Z ?_)))))))))
   refine sn0 Z Z Z Z Z (sn0 Z Z Z Z Z (sn0 Z Z Z Z Z (Al (aA Z Z) (Am Z (sn0 Z Z Z Z Z (sn0 Z Z Z Z Z (sn0 Z Z Z Z Z (sn0 Z Z Z Z Z (sn0 Z Z Z Z Z ?_)))))))))
   refine sn0 Z Z Z Z Z (Al (aA Z Z) (Am Z (sn0 Z Z Z Z Z (sn0 Z Z Z Z Z (sn0 Z Z Z Z Z (sn0 Z Z Z Z Z (sn0 Z Z Z Z Z (Al (aA Z Z) (Ap ?_)))))))))
   refine Ap (ab (aB Z (ah (aj (An Z (Ap (ab (aH (aE ?_)))))))))
   refine aJ Tryz.results17 (.tmp Z W)
 ·rw [decide_eq_false g1] at hs1
  refine ah (aj ?_)
  refine aR Z Z (ltN Z) (fun b1 => ?_)
  refine An Z (Ap (ab (ah (aj (Al (aa Z) (Al (ak 0 Z Z Z) ?_))))))
  refine Al (am (hva) Z ⟨W,Aq⟩) ?_
  refine An Z (Ap (ab (ah (ah (aj (Am Z (Al (aX Z) (Ap (ab ?_)))))))))
  refine ay Z (av (ab (ah (aj (Al (aa Z) (Al (aa Z) (Al (au 0 0 0 Z Z Z Z Z) (An Z (Ap ?_)))))))))
  refine ab (ah (aj (Al (aa Z) (Al (ak 0 Z Z Z) (Am Z (Al (aa Z) (Al (aa Z) (Al (au 0 0 1 Z Z Z Z Z) ?_))))))))
  refine Al (am (hs1) Z ⟨W,W,W,Aq⟩) ?_
  refine An Z (Ap (ab (ah (aj (Al (aa Z) (Al (ak 0 Z Z Z) (Am Z (Am Z ?_))))))))
  refine Al (am (hs2) Z ⟨W,W,W,Aq⟩) ?_
  refine An Z (Ap (ab (ah (aj (Al (aa Z) (Al (ak 0 Z Z Z) (Am Z (Am Z ?_))))))))
  refine Al (am (hs3) Z ⟨W,W,W,Aq⟩) ?_
  refine An Z (Ap (ab (ah (ah (aN 43 aK X Y (Am Z (Al (aX Z) (Am Z (sn0 Z Z Z Z Z ?_)))))))))
  refine sn0 Z Z Z Z Z (Al (aA Z Z) (Am Z (sn0 Z Z Z Z Z (sn0 Z Z Z Z Z (Al (aA Z Z) (Am Z (sn0 Z Z Z Z Z (sn0 Z Z Z Z Z (sn0 Z Z Z Z Z ?_)))))))))
  refine Al (aA Z Z) (Am Z (sn0 Z Z Z Z Z (sn0 Z Z Z Z Z (sn0 Z Z Z Z Z (sn0 Z Z Z Z Z (Al (aA Z Z) (Am Z (sn0 Z Z Z Z Z (sn0 Z Z Z Z Z ?_)))))))))
  refine sn0 Z Z Z Z Z (sn0 Z Z Z Z Z (sn0 Z Z Z Z Z (Al (aA Z Z) (Am Z (sn0 Z Z Z Z Z (sn0 Z Z Z Z Z (sn0 Z Z Z Z Z (sn0 Z Z Z Z Z (sn0 Z Z Z Z Z ?_)))))))))
  refine sn0 Z Z Z Z Z (Al (aA Z Z) (Am Z (sn0 Z Z Z Z Z (sn0 Z Z Z Z Z (sn0 Z Z Z Z Z (sn0 Z Z Z Z Z (sn0 Z Z Z Z Z (Al (aA Z Z) (Ap ?_)))))))))
  refine Ap (ab (aB Z (ah (aj (An Z (Ap (ab (aH (aE ?_)))))))))
  refine aJ Tryz.results17 (.tmp Z W)
theorem dg (ra ca rm cm ru cu rv cv:Nat) (A M U V:Nat→Nat→Int) (row col:Int) (done:Bool) (hr:ra≤1048576) (hrr:rm≤1048576∧ru≤1048576∧rv≤1048576) (hc:ca≤1048576) (hmA : ∀ i j,bV (A i j)) (hmM : ∀ i j,bV (M i j)) (hmU : ∀ i j,bV (U i j)) (hmV : ∀ i j,bV (V i j)) :
  Ok Tryz.prog 17 [fW (be ra ca A) (be rm cm M) (be ru cu U) (be rv cv V) row col (one (.bool done))] (one (.bool (g8 ra ca rm cm ru cu rv cv A M U V row col done))):=by
 cases hf:i6 ra ca rm cm ru cu rv cv row col with
 | false =>
  rw [iU (fun e=>by have:=e.1;rw [hf] at this;cases this)]
  exact rD ra ca rm cm ru cu rv cv A M U V row col done ⟨hr,hrr⟩ hmA hmM hmU hmV (.inl hf)
 | true =>
  obtain ⟨rfl,rfl,rfl,rfl,rfl,rfl,h1,h2,h3,h4⟩:=of_decide_eq_true hf
  obtain ⟨r0,rfl⟩:=Int.eq_ofNat_of_zero_le h1
  obtain ⟨c0,rfl⟩:=Int.eq_ofNat_of_zero_le h3
  rw [show g8 _ _ _ _ _ _ _ _ A M U V (r0:Int) (c0:Int) done=m9 _ _ A M U V r0 c0 done from qA hf]
  exact ni _ _ A M U V r0 c0 done hr hc S S hmA hmM hmU hmV
end Tor
end
section
namespace Tor
theorem vI {r c:Nat} {F G:Nat→Nat→Int} (h : ∀ i j,i<r→j<c→F i j=G i j):tab r c F=tab r c G:=by
 unfold tab
 refine List.map_congr_left fun i hi=>List.map_congr_left fun j hj=>h i j (List.mem_range.1 hi) (List.mem_range.1 hj)
theorem AllS.stL {r c:Nat} {A:Nat→Nat→Int} {s:SS} (h:AllS r c A s) (hc:c≤4):StL r c s:=by
 have hm:=h.modM hc
 exact ⟨h.eqs.hr,h.eqs.hc,fun i j=>by have:=(hm i j).1;unfold bV;omega,fun i j=>by have:=(hm i j).2.1;unfold bV;omega,fun i j=>by have:=(hm i j).2.2;unfold bV;omega⟩
theorem xa {n:Nat} {s:SS} {pv:Nat→Nat} (h:FrmS n s pv) : ∀ i,i<s.row→i≤pv i
 | 0, _ => Nat.zero_le _
 | i + 1, hi => by
  have h1:=xa h i S
  have h2:=(h.ord (i+1) i hi S).1
  omega
theorem AllS.valI {r c:Nat} {A:Nat→Nat→Int} {s:SS} (h:AllS r c A s):ValI r c A s.M s.U s.V s.row s.col (cz r c s):=by
 obtain ⟨pv,hp⟩:=h.frm
 refine ⟨?_,rfl,vI fun i j hi hj=>(h.eqs.ua i j hi hj).symm,vI fun i j hi hj=>h.eqs.uv i j hi hj,hp.low,hp.isH,?_⟩
 ·rcases Nat.eq_zero_or_pos s.row with h0 | h0
  ·omega
  ·have h1:=xa hp (s.row - 1) S
   have h2:=hp.lt (s.row - 1) S
   omega
 ·rcases Nat.eq_zero_or_pos s.row with h0 | h0
  ·exact .inl h0
  ·refine .inr ?_
   rw [hp.lead S]
   exact hp.lt _ S
theorem AllS.endH {r c:Nat} {A:Nat→Nat→Int} {s:SS} (h:AllS r c A s) (hf:cz r c s=true):IsH r c s.M:=by
 obtain ⟨pv,hp⟩:=h.frm
 have hfo:s.row=r∨s.col=c:=of_decide_eq_true hf
 have hc:=h.eqs.hc
 have hr:=h.eqs.hr
 have hl : ∀ i,i<s.row→cU c (s.M i)=pv i:=fun i hi=>sk (by have:=hp.lt i hi;omega) (fun k hk=>hp.zero i k hi hk) (by have:=hp.pos i hi;omega)
 intro i hi hlt
 rcases Nat.lt_or_ge i s.row with h1 | h1
 ·rw [hl i h1]
  refine ⟨hp.pos i h1,fun k hk => ?_⟩
  rw [hl k S]
  exact hp.ord i k h1 hk
 ·have hce:s.col=c:=by omega
  rw [oU (fun k hk=>hp.low i k h1 hi S)] at hlt
  exact absurd hlt (Nat.lt_irrefl c)
theorem sK {r c:Nat} {A:Nat→Nat→Int} {s:SS} (h:AllS r c A s):Tor.m9 r c A s.M s.U s.V s.row s.col (cz r c s)=true:=jJ h.valI
end Tor
end
section
namespace Tor
open Go Go.RowKit Go.Proofs
def t6W:Nat→S3→VT→VT→VT
 | 2, s, φ, ψ => φ
 | 5, s, φ, ψ => φ
 | _, s, φ, ψ => ψ
attribute [local irreducible] J PJ aU one slT cC bJ ci exT cH eP aY bf slV VT.le Ret bW
attribute [local irreducible] ce
set_option maxRecDepth 100000 in
theorem lJ (r c:Nat) (A M U V:Nat→Nat→Int) (row col:Int) (d:Bool) (hr:r≤1048576) (hc:c≤1048576) (hmA : ∀ i j,bV (A i j)) (hmM : ∀ i j,bV (M i j)) (hmU : ∀ i j,bV (U i j)) (hmV : ∀ i j,bV (V i j)) :
  OkM (σ:=S3 × S3 × S3 × S3) Tryz.prog 18 [fW (be r c A) (be r c M) (be r r U) (be r r V) row col (one (.bool d))]
   (fun s=>fW (bh r c s.1) (bh r c s.2.1) (bh r r s.2.2.1) (bh r r s.2.2.2) row col (one (.bool d))) (fun s=>fX r c s.1 A ++ (fX r c s.2.1 M ++ (fX r r s.2.2.1 U ++ fX r r s.2.2.2 V))):=by
 have hca:=gD r c A hr hc hmA
 have hcm:=gD r c M hr hc hmM
 have hcu:=gD r r U hr hr hmU
 have hcv:=gD r r V hr hr hmV
 refine OkM.enter Tryz.func18 Z Tryz.ntmps18 Z (fun w O => ?_)
 refine ah (aj ?_)
 refine aR Z Z (ltN Z) (fun b1 => ?_)
 refine aW (T:=32) Z Z Z (fun b2 => ?_)
 refine Ap (ab (ah ?_))
 refine m4 6 19 [2,5,8,11] ([],none,0) (fun j s=>t6W j s (bh r c s) (bh r r s)) (fun j s=>t4N j s (fX r c s A) (fX r c s M) (fX r r s U) (fX r r s V)) aK X Y Z Y ?_
 refine kx Z (fun s B=>aa Z) Z ?_
 refine kx Z (fun s B=>ak 1 Z Z Z) Z ?_
 refine kc Z (fun s B=>dN hca Z ⟨W,Aq⟩) Z ?_
 refine kx Z (fun s B=>aa Z) Z ?_
 refine kx Z (fun s B=>ak 1 Z Z Z) Z ?_
 refine kc Z (fun s B=>dN hcm Z ⟨W,Aq⟩) Z ?_
 refine kx Z (fun s B=>aa Z) Z ?_
 refine kx Z (fun s B=>ak 1 Z Z Z) Z ?_
 refine kc Z (fun s B=>dN hcu Z ⟨W,Aq⟩) Z ?_
 refine kx Z (fun s B=>aa Z) Z ?_
 refine kx Z (fun s B=>ak 1 Z Z Z) Z ?_
 refine kc Z (fun s B=>dN hcv Z ⟨W,Aq⟩) Z ?_
 refine kx Z (fun s B=>aa Z) Z ?_
 refine kx Z (fun s B=>ak 1 Z Z Z) Z ?_
 refine kx Z (fun s B=>aa Z) Z ?_
 refine kx Z (fun s B=>ak 1 Z Z Z) Z ?_
 refine kx Z (fun s B=>aa Z) Z ?_
 refine kx Z (fun s B=>ak 1 Z Z Z) Z ?_
 refine kd [2,5,8,11] (ψ:=fun s=>fW (bh r c (s 2)) (bh r c (s 5)) (bh r r (s 8)) (bh r r (s 11)) row col (one (.bool d))) Z H (fun s s' h=>by rw [h 2 Y,h 5 Y,h 8 Y,h 11 Y]) (fun s B=>iC (.cons (φ:=bh r c (s 2)) Z Z Z (.cons (φ:=bh r c (s 5)) Z Z Z (.cons (φ:=bh r r (s 8)) Z Z Z (.cons (φ:=bh r r (s 11)) Z Z Z (.cons Z Z Z (.cons Z Z Z (.cons Z Z Z .nil))))))) Z Z) Z ?_
 refine .nil fun s => ?_
 refine kv (Γ' := [(21,fW (bh r c (s 2)) (bh r c (s 5)) (bh r r (s 8)) (bh r r (s 11)) row col (one (.bool d))),(2,_)]) (M' := [ed (ok3 r (s 2)),bn (s 2).2.1 (s 2).2.2 r c (s 2).1,aZ c (s 2).1 A,ed (ok3 r (s 5)),bn (s 5).2.1 (s 5).2.2 r c (s 5).1,aZ c (s 5).1 M,ed (ok3 r (s 8)),bn (s 8).2.1 (s 8).2.2 r r (s 8).1,aZ r (s 8).1 U,ed (ok3 r (s 11)),bn (s 11).2.1 (s 11).2.2 r r (s 11).1,aZ r (s 11).1 V,_,_]) Aj (SubM.refl _) ?_
 generalize s 2=sA
 generalize s 5=sM
 generalize s 8=sU
 generalize s 11=sV
 refine aL 12 Z Z Z Z (Ap (ab (aH (jg (sA,sM,sU,sV) Tryz.results18 (.cellW 12 Z Z W) ?_))))
 exact .keep Ak (.keep Ak (.keep Ak (.keep Ak (.keep Ak (.keep Ak (.keep Ak (.keep Ak (.keep Ak (.keep Ak (.keep Ak (.keep Ak (SubM.nilR _))))))))))))
end Tor
end
section
namespace Tor
open Go Go.RowKit Go.Proofs
def eG (r c:Nat) (l:List Int):VT:=bJ 3 [(0, .one,one (.int .u8 r)),(1, .one,one (.int .u8 c)),(2, .one,iL .i8 l)]
def kQ (c:Nat) (l:List Int):Nat→Nat→Int:=fun i j=>dig l (i*(c % 5)+j)
theorem xb (n:Nat):(n:Int).tmod 5=((n % 5:Nat):Int):=by
 rw [Int.tmod_eq_emod_of_nonneg S]; omega
attribute [local irreducible] J PJ aU one slT cC bJ ci exT cH eP aY bf slV VT.le Ret bW
attribute [local irreducible] bq ce
theorem tZ (r c:Nat) (l:List Int):OkM Tryz.prog 9 [eG r c l] (iJ (r % 5) (c % 5)) (fun s => [bn s.1.2.1 s.1.2.2 (r % 5) (c % 5) s.1.1,aZ (c % 5) s.1.1 (kQ c l)]):=by
 unfold eG iL
 refine OkM.enter Tryz.func9 Z Tryz.ntmps9 Z (fun w O => ?_)
 have h5:=xb r
 have h6:=xb c
 have hr:r % 5<5:=Nat.mod_lt _ Y
 have hc:c % 5<5:=Nat.mod_lt _ Y
 refine ah (aj ?_)
 refine aR Z Z (ltN Z) (fun b => ?_)
 refine aW (T:=29) Z Z Z (fun b => ?_)
 refine Ap (ab (ah (aj (Al (aa Z) (Al (ak 1 Z Z Z) (Al (nC Z Z Y Z) ?_))))))
 (refine Al (cY Z ?_ ?_) ?_;omega;omega)
 refine Al (aa Z) (Al (ak 1 Z Z Z) (Al (nC Z Z Y Z) ?_))
 (refine Al (cY Z ?_ ?_) ?_;omega;omega)
 refine Al (aa Z) (Al (ak 1 Z Z Z) ?_)
 rw [h5]
 skip
 rw [h6]
 skip
 refine eO (p6 (r % 5) (c % 5) l S S) Z ⟨W,W,W,Aq⟩ Z Z (fun s => ?_)
 unfold iJ
 refine aL 2 Z Z Z Z (Ap (ab (aH ?_)))
 refine jg s Tryz.results9 (.cellW 2 Z Z ?_) ?_
 ·exact VT.le_refl _
 ·exact .keep Ak (.keep Ak (SubM.nilR _))
end Tor
end
section
namespace Tor
open Go Go.RowKit Go.Proofs
attribute [local irreducible] J PJ aU one slT cC bJ ci exT cH eP aY bf slV VT.le Ret bW
attribute [local irreducible] ce bq
theorem t0 (r c:Nat) (A Ae U V:Nat→Nat→Int) (hr:r≤1048576) (hc:c≤1048576) (hmA : ∀ i j,bV (A i j)) (hmH : ∀ i j,bV (Ae i j)) (hmU : ∀ i j,bV (U i j)) (hmV : ∀ i j,bV (V i j)) (hH:IsH r c Ae) (hua:tab r c (eD r U A)=tab r c Ae) (huv:tab r r (eD r U V)=tab r r idF) :
  Ok Tryz.prog 21 [be r c A,qC (be r c Ae) (be r r U) (be r r V)] (one (.bool true)):=by
 have hsm : ∀ F:Nat→Nat→Int,(∀ i j,bV (F i j)) → ∀ i j,cg (F i j):=fun F h i j=>bv (h i j)
 have hva:=gB r c A hr (hsm A hmA)
 have hf:=sy r c Ae hr hc hmH
 rw [ip hH] at hf
 have hs2:=ey r r r r U hr (hsm U hmU)
 have hs3:=ey r r r r V hr (hsm V hmV)
 rw [decide_eq_true (⟨rfl,rfl⟩:r=r∧r=r)] at hs2 hs3
 have hm1:=gb r r U c A hr hr hc hmU hmA
 have hm2:=gb r r U r V hr hr hr hmU hmV
 have he1:=fc r c r c (eD r U A) Ae hr
 have he2:=fc r r r r (eD r U V) idF hr
 rw [decide_eq_true (⟨rfl,rfl,hua⟩:(r:Int)=r∧(c:Int)=c∧tab r c (eD r U A)=tab r c Ae)] at he1
 rw [decide_eq_true (⟨rfl,rfl,huv⟩:(r:Int)=r∧(r:Int)=r∧tab r r (eD r U V)=tab r r idF)] at he2
 have hid:=iK r hr
 rw [show (fun i j=>if i=j then (1:Int) else 0)=idF from rfl] at hid
 refine Ok.enter Tryz.func21 Z Tryz.ntmps21 Z (fun w O => ?_)
 refine ah (aj ?_)
 refine aR Z Z (ltN Z) (fun b2 => ?_)
 refine aR Z Z (ltN Z) (fun b3 => ?_)
 refine An Z (Ap (ab (ah (aj (Al (aC 1 Z Z) ?_)))))
 refine Al (am (hva) Z ⟨W,Aq⟩) ?_
 refine An Z (Ap (ab (ah (aj (Al (aa Z) (Al (ak 0 Z Z Z) ?_))))))
 refine Al (am (hf) Z ⟨W,Aq⟩) ?_
 refine An Z (Ap (ab (ah (ah (aj (Am Z (Al (aX Z) (Am Z (Ao (ae Z) ?_)))))))))
 refine Ao (aX Z) (Al (aw Z Z) (Am Z (Ao (aa Z) (Ao (aa Z) (Ao (au 0 0 0 Z Z Z Z Z) (Ao (aa Z) (Ao (ak 1 Z Z Z) (Ao (sF S (dq Z Z)) (Al (aw Z Z) ?_)))))))))
 refine Am Z (Ao (aa Z) (Ao (aa Z) (Ao (au 0 0 1 Z Z Z Z Z) (Ao (aa Z) (Ao (ak 1 Z Z Z) (Ao (sF S (dq Z Z)) (Al (aw Z Z) (Ap (ab ?_)))))))))
 refine ay Z (av (ab (ah (aj (Al (aa Z) (Al (ak 0 Z Z Z) (Al (aa Z) (Al (ak 1 Z Z Z) (Al (aa Z) ?_)))))))))
 refine Al (ak 1 Z Z Z) ?_
 refine Al (am (hs2) Z ⟨W,W,W,Aq⟩) ?_
 refine An Z (Ap (ab (ah (aj (Al (aa Z) (Al (ak 0 Z Z Z) (Al (aa Z) (Al (ak 1 Z Z Z) (Al (aa Z) ?_)))))))))
 refine Al (ak 1 Z Z Z) ?_
 refine Al (am (hs3) Z ⟨W,W,W,Aq⟩) ?_
 refine An Z (Ap (ab (ah (aN 24 aK X Y (Am Z (Am Z (Ao (ae Z) (Al (aA Z Z) (Am Z ?_)))))))))
 refine Ao (aa Z) (Ao (ak 0 Z Z Z) (Ao (aC 1 Z Z) ?_))
 refine Ao (am (hm1) Z ⟨W,W,Aq⟩) ?_
 refine Ao (aa Z) (Ao (ak 0 Z Z Z) ?_)
 refine Ao (am (he1) Z ⟨W,W,Aq⟩) ?_
 refine Al (aA Z Z) (Am Z (Ao (aa Z) (Ao (ak 0 Z Z Z) (Ao (aa Z) (Ao (ak 0 Z Z Z) ?_)))))
 refine Ao (am (hm2) Z ⟨W,W,Aq⟩) ?_
 refine Ao (aa Z) (Ao (ak 1 Z Z Z) ?_)
 refine Ao (am (hid) Z ⟨W,Aq⟩) ?_
 refine Ao (am (he2) Z ⟨W,W,Aq⟩) ?_
 refine Al (aA Z Z) (Ap (An Z (Ap (ab (aH ?_)))))
 refine aJ Tryz.results21 (.tmp Z W)
/-! ### States from the start -/
theorem iu (r c:Nat) (F:Nat→Nat→Int) (hr:r≤1048576) (hc:c≤1048576):Ok Tryz.prog 10 [be r c F] (stT r c F (bA F) (one (.bool (cz r c (bA F))))):=by
 have h:=qr r c F hr hc
 rw [show decide ((0:Int)=r∨(0:Int)=c)=cz r c (bA F) from decide_eq_decide.2 (by show _↔((0:Nat)=r∨(0:Nat)=c);omega)] at h
 exact h.ok fun s g h0 h' v ho hp=>by
  have hM:ok3 r s.1:=ho.mem _ (a8 0 Z)
  have hU:ok3 r s.2.1:=ho.mem _ (a8 3 Z)
  have hV:ok3 r s.2.2:=ho.mem _ (a8 6 Z)
  exact Ent.agg (gC (Ent.refl _) (cn hM.1 (a8 1 Z) (a8 2 Z)) (cn hU.1 (a8 4 Z) (a8 5 Z)) (cn hV.1 (a8 7 Z) (a8 8 Z))) g h0 h' v ho hp
theorem l9 {r c:Nat} {A:Nat→Nat→Int} {s:SS} (h:AllS r c A s) (hr:r≤4) (hc:c≤4) (hmA : ∀ i j,bV (A i j)):Ok Tryz.prog 19 [stT r c A s (one (.bool (cz r c s)))] (one (.bool true)):=by
 have l:=h.stL hc
 have v:=ob r c A s.M s.U s.V s.row s.col (cz r c s) S S l.row l.col hmA l.m l.u l.v
 rw [sK h] at v
 exact v
theorem vJ {r c:Nat} {A:Nat→Nat→Int} {s:SS} (h:AllS r c A s) (hr:r≤4) (hc:c≤4) (hmA : ∀ i j,bV (A i j)) (hf:cz r c s=false):Ok Tryz.prog 20 [stT r c A s (one (.bool false))] (ci [bJ 9 [],one (.int .i64 210)]):=by
 have v:=l9 h hr hc hmA
 rw [hf] at v
 exact ry r c _ _ _ _ s.row s.col _ v (of_decide_eq_false hf)
theorem wR {r c:Nat} {A:Nat→Nat→Int} {s:SS} (h:AllS r c A s) (hr:r≤4) (hc:c≤4) (hmA : ∀ i j,bV (A i j)) (hf:cz r c s=true):Ok Tryz.prog 20 [stT r c A s (one (.bool true))] (ci [qC (be r c s.M) (be r r s.U) (be r r s.V),one (.int .i64 0)]):=by
 have v:=l9 h hr hc hmA
 rw [hf] at v
 exact tU r c _ s.M s.U s.V s.row s.col _ S S v (of_decide_eq_true hf)
theorem wS {r c:Nat} {A:Nat→Nat→Int} {s:SS} (h:AllS r c A s) (hr:r≤4) (hc:c≤4) (hmA : ∀ i j,bV (A i j)) (hf:cz r c s=true):Ok Tryz.prog 21 [be r c A,qC (be r c s.M) (be r r s.U) (be r r s.V)] (one (.bool true)):=by
 have l:=h.stL hc
 exact t0 r c A s.M s.U s.V S S hmA l.m l.u l.v (h.endH hf) h.valI.ua h.valI.uv
end Tor
end
section
namespace Tor
open Go Go.RowKit Go.Proofs
abbrev exA:Nat→Nat→Int:=jq 1 [4,6]
theorem yb : ∀ i j,(exA i j).natAbs≤9:=fun i j=>by
 show ([4,6].getD (i*1+j) 0:Int).natAbs≤9
 rcases (show i*1+j=0∨i*1+j=1∨2≤i*1+j by omega) with h | h | h
 ·rw [h]; decide
 ·rw [h]; decide
 ·rw [List.getD_eq_getElem?_getD,List.getElem?_eq_none (by simpa using h)]; decide
theorem yc:cz 2 1 (bA exA)=false:=by decide +kernel
theorem yd:cz 2 1 (bD 2 1 1 (bA exA))=false:=by decide +kernel
theorem ye:cz 2 1 (bD 2 1 1 (bD 2 1 1 (bA exA)))=false:=by decide +kernel
theorem yf:cz 2 1 (bD 2 1 100 (bD 2 1 1 (bD 2 1 1 (bA exA))))=true:=by decide +kernel
theorem yg:tab 2 1 (bD 2 1 1 (bA exA)).M=tab 2 1 (jq 1 [4,2]):=by decide +kernel
theorem yh:tab 2 1 (bD 2 1 1 (bD 2 1 1 (bA exA))).M=tab 2 1 (jq 1 [2,4]):=by decide +kernel
theorem yi:tab 2 1 (bD 2 1 100 (bD 2 1 1 (bD 2 1 1 (bA exA)))).M=tab 2 1 (jq 1 [2,0]):=by decide +kernel
theorem yq:cz 2 1 (bD 2 1 4 (bA exA))=true ∧ ∀ j,j<4→cz 2 1 (bD 2 1 j (bA exA))=false:=by decide +kernel
theorem rE (t:Nat):AllS 2 1 exA (bD 2 1 t (bA exA)):=AllS.run Y yb t
theorem eE {n m a b:Nat} {s:SS} : bD n m a (bD n m b s)=bD n m (b+a) s:=(ig b a s).symm
theorem ma {x y:Int} : VT.le (slT .one 2 (fun q => [one (.int .i64 y),one (.int .i64 x)].reverse.getD q bW)) (iL .i64 [x,y]):=fx fun i hi=>by
 rcases (show i=0∨i=1 by omega) with rfl | rfl
 ·exact VT.le_refl _
 ·exact VT.le_refl _
theorem sL {r c:Nat} {cs:cw} {F:Nat→Nat→Int} (h:r=0) (h0:(0, .one,one (.int .i64 r))∈cs) (h1:(1, .one,one (.int .i64 c))∈cs) (h2:(2, .one,one (.slice none 0 0))∈cs):VT.le (bJ 3 cs) (be r c F):=by
 subst h
 unfold be
 refine eC fun q hq => ?_
 simp only [List.mem_cons,List.not_mem_nil,or_false] at hq
 rcases hq with rfl | rfl | rfl
 ·exact ⟨_,h0,W⟩
 ·exact ⟨_,h1,W⟩
 ·exact ⟨_,h2,gJ⟩
theorem wT {r c:Nat} {cs:cw} {F:Nat→Nat→Int} {φ:Nat→VT} (hr:r=1) (hc:c=0) (h0:(0, .one,one (.int .i64 r))∈cs) (h1:(1, .one,one (.int .i64 c))∈cs) (h2:(2, .one,slT .one 1 fun q => [slT (.agg 2) 0 φ].reverse.getD q bW)∈cs):VT.le (bJ 3 cs) (be r c F):=by
 subst hr hc
 unfold be
 refine eC fun q hq => ?_
 simp only [List.mem_cons,List.not_mem_nil,or_false] at hq
 rcases hq with rfl | rfl | rfl
 ·exact ⟨_,h0,W⟩
 ·exact ⟨_,h1,W⟩
 ·exact ⟨_,h2,fx fun i hi=>by
   obtain rfl:i=0:=by omega
   exact cR Z fun q hq=>absurd hq (Nat.not_lt_zero q)⟩
theorem kR {F:Nat→Nat→Int} : VT.le (one (.agg #[.int .i64 0, .int .i64 0, .slice none 0 0])) (be 0 0 F):=fun v h e=>by
 have e:v=_:=e
 subst e
 exact ⟨_,rfl,rfl,by kernel_rfl,fun q hq=>by
  simp only [List.mem_cons,List.not_mem_nil,or_false] at hq
  rcases hq with rfl | rfl | rfl
  ·exact ⟨_,rfl,rfl⟩
  ·exact ⟨_,rfl,rfl⟩
  ·exact ⟨_,rfl,gJ _ _ Z⟩⟩
theorem sN {cs:cw} {F G Ae K:Nat→Nat→Int} {row:Int} (h0:(0, .agg 3,one (.agg #[.int .i64 0, .int .i64 0, .slice none 0 0]))∈cs) (h1:(3, .agg 3,one (.agg #[.int .i64 0, .int .i64 0, .slice none 0 0]))∈cs) (h2:(6, .agg 3,one (.agg #[.int .i64 0, .int .i64 0, .slice none 0 0]))∈cs) (h3:(9, .agg 3,one (.agg #[.int .i64 0, .int .i64 0, .slice none 0 0]))∈cs)
  (h4:(12, .one,one (.int .i64 row))∈cs) (h5:(13, .one,one (.int .i64 0))∈cs) (h6:(14, .one,one (.bool false))∈cs):VT.le (bJ 15 cs) (fW (be 0 0 F) (be 0 0 G) (be 0 0 Ae) (be 0 0 K) row 0 (one (.bool false))):=eC fun q hq=>by
 simp only [List.mem_cons,List.not_mem_nil,or_false] at hq
 rcases hq with rfl | rfl | rfl | rfl | rfl | rfl | rfl
 ·exact ⟨_,h0,kR⟩
 ·exact ⟨_,h1,kR⟩
 ·exact ⟨_,h2,kR⟩
 ·exact ⟨_,h3,kR⟩
 ·exact ⟨_,h4,W⟩
 ·exact ⟨_,h5,W⟩
 ·exact ⟨_,h6,W⟩
attribute [local irreducible] J PJ aU one slT cC bJ ci exT cH eP aY bf slV VT.le Ret bW
attribute [local irreducible] ce bq be
set_option maxRecDepth 100000 in
theorem gS:Ok Tryz.prog 8 [] (one (.bool true)):=by
 have i1:Ok Tryz.prog 26 [one (.int .i64 (2:Nat)),one (.int .i64 (1:Nat)),iL .i64 [4,6]] (be 2 1 exA):=l8 2 1 [4,6] Y Y Y
 have i2:Ok Tryz.prog 26 [one (.int .i64 (2:Nat)),one (.int .i64 (1:Nat)),iL .i64 [4,2]] (be 2 1 (jq 1 [4,2])):=l8 2 1 [4,2] Y Y Y
 have i3:Ok Tryz.prog 26 [one (.int .i64 (2:Nat)),one (.int .i64 (1:Nat)),iL .i64 [2,4]] (be 2 1 (jq 1 [2,4])):=l8 2 1 [2,4] Y Y Y
 have i4:Ok Tryz.prog 26 [one (.int .i64 (2:Nat)),one (.int .i64 (1:Nat)),iL .i64 [2,0]] (be 2 1 (jq 1 [2,0])):=l8 2 1 [2,0] Y Y Y
 have hS : ∀ t,StL 2 1 (bD 2 1 t (bA exA)):=fun t=>(rE t).stL Y
 have p1:=iu 2 1 exA Y Y
 have p2:=iV 2 1 exA Y Y
 have p3:=jL 2 1 exA (bA exA) (cz 2 1 (bA exA)) Y
 have k1:=gR 2 1 exA (bA exA) 1 Y Y Y hS
 have k2:=gR 2 1 exA (bD 2 1 1 (bA exA)) 1 Y Y Y (fun t=>by rw [eE]; exact hS _)
 have k3:=gR 2 1 exA (bD 2 1 1 (bD 2 1 1 (bA exA))) 100 Y Y Y (fun t=>by rw [eE,eE]; exact hS _)
 rw [show (1:Int).toNat=1 from rfl] at k1 k2
 rw [show (100:Int).toNat=100 from rfl] at k3
 have a2:AllS 2 1 exA (bD 2 1 1 (bD 2 1 1 (bA exA))):=by rw [eE]; exact rE _
 have a3:AllS 2 1 exA (bD 2 1 100 (bD 2 1 1 (bD 2 1 1 (bA exA)))):=by rw [eE,eE]; exact rE _
 have f3:=yf
 have f2:=ye
 have m1:=yg
 have m2:=yh
 have m3:=yi
 have c1:=po 2 1 exA Y Y 4 Y yq.1 yq.2 hS
 have hz : ∀ i j:Nat,bV ((fun _ _=>0:Nat→Nat→Int) i j):=fun i j=>Nat.zero_le _
 have hzs : ∀ (r c t:Nat),c≤4→r≤4→StL r c (bD r c t (bA fun _ _=>0)):=fun r c t hc hr=>(AllS.run hr (fun _ _=>Nat.zero_le _) t).stL hc
 have c2:=po 1 0 (fun _ _=>0) Y Y 0 Y Y (fun j hj=>absurd hj (Nat.not_lt_zero j)) (fun t=>hzs 1 0 t Y Y)
 have p4:=iu 0 3 (fun _ _=>0) Y Y
 rw [show cz 0 3 (bA fun _ _=>0)=true by decide] at p4
 rw [yc] at p1 p2 p3 k1
 rw [yd] at k1 k2
 generalize bD 2 1 1 (bA exA)=s1 at *
 generalize bD 2 1 1 s1=s2 at *
 generalize bD 2 1 100 s2=s3 at *
 rw [f2] at k2 k3
 rw [f3] at k3
 have e1:=fc 2 1 2 1 s1.M (jq 1 [4,2]) Y
 have e2:=fc 2 1 2 1 s2.M (jq 1 [2,4]) Y
 have e3:=fc 2 1 2 1 s3.M (jq 1 [2,0]) Y
 rw [decide_eq_true ⟨rfl,rfl,m1⟩] at e1
 rw [decide_eq_true ⟨rfl,rfl,m2⟩] at e2
 rw [decide_eq_true ⟨rfl,rfl,m3⟩] at e3
 have hmA : ∀ i j,bV (exA i j):=fun i j=>(hS 0).m i j
 have v2:=l9 a2 Y Y hmA
 rw [f2] at v2
 have r2:=vJ a2 Y Y hmA f2
 have r3:=wR a3 Y Y hmA f3
 have ck:=wS a3 Y Y hmA f3
 have v4:=dh 0 0 0 0 0 0 0 0 (fun _ _=>0) (fun _ _=>0) (fun _ _=>0) (fun _ _=>0) 1 0 false Y Y hz hz hz hz
 rw [iU (fun e=>by have:=e.1;revert this;decide)] at v4
 have v5:=dh 0 0 0 0 0 0 0 0 (fun _ _=>0) (fun _ _=>0) (fun _ _=>0) (fun _ _=>0) 0 0 false Y Y hz hz hz hz
 rw [iU (fun e=>by have:=e.2.dn;revert this;decide)] at v5
 clear f3 f2 m1 m2 m3 a2 a3 hS hzs hz hmA
 refine Ok.enter Tryz.func8 Z Tryz.ntmps8 Z (fun w O => ?_)
 refine ah (aj (An Z (Ap (ab (ah (aj (stS Z Z Z Z (PartsK.cons Z (PartsK.cons Z ?_)))))))))
 refine PartsK.nil ?_
 refine Al (am (i1) Z ⟨W,W,(ma),Aq⟩) ?_
 refine aW (T:=29) Z Z Z (fun b1 => ?_)
 refine ia 0 Z Z Z Z (Ap (ab (ah (aj (Al (ak 0 Z Z Z) ?_)))))
 refine Al (am (p1) Z ⟨W,Aq⟩) ?_
 refine aW (T:=32) Z Z Z (fun b2 => ?_)
 refine aL 0 Z Z Z Z (Ap (ab (ah (aj (Al (aC 0 Z Z) ?_)))))
 refine Al (am (k1) Z ⟨W,W,Aq⟩) ?_
 refine aW (T:=32) Z Z Z (fun b3 => ?_)
 refine aL 0 Z Z Z Z (Ap (ab (ah (aj (Al (aC 0 Z Z) ?_)))))
 refine Al (am (k2) Z ⟨W,W,Aq⟩) ?_
 refine aW (T:=32) Z Z Z (fun b4 => ?_)
 refine aL 0 Z Z Z Z (Ap (ab (ah (aj (Al (aC 0 Z Z) ?_)))))
 refine Al (am (k3) Z ⟨W,W,Aq⟩) ?_
 refine aW (T:=32) Z Z Z (fun b5 => ?_)
 refine aL 0 Z Z Z Z (Ap (ab (ah (aj (Al (aC 1 Z Z) ?_)))))
 refine Al (am (r2) Z ⟨W,Aq⟩) ?_
 refine Am Z (Al (a6 Z Z) (Al (a6 Z Z) ?_))
 refine aW (T:=43) Z Z Z (fun b6 => ?_)
 refine aL 0 Z Z Z Z (An Z (Ap (ab (ah (aj (Al (aC 1 Z Z) ?_))))))
 refine Al (am (r3) Z ⟨W,Aq⟩) ?_
 refine Am Z (Al (a6 Z Z) (Al (a6 Z Z) ?_))
 refine aW (T:=43) Z Z Z (fun b8 => ?_)
 refine aL 0 Z Z Z Z (An Z (Ap (ab (ah (aj (stB Z Z Z (BuildK.cons Z Z Z (BuildK.nil ?_))))))))
 refine Al (am (p4) Z ⟨(sL Z (a8 0 Z) (a8 1 Z) (a8 2 Z)),Aq⟩) ?_
 refine aW (T:=32) Z Z Z (fun b10 => ?_)
 refine aL 0 Z Z Z Z (Ap (ab (ah (aN 77 aK X Y (Al (aC 6 Z Z) (Al (ak 7 Z Z Z) ?_))))))
 refine Al (am (p2) Z ⟨W,Aq⟩) ?_
 refine Al (am (p3) Z ⟨W,W,Aq⟩) ?_
 refine Am Z (Ao (aa Z) (Ao (ak 6 Z Z Z) (Ao (aX Z) (Al (aA Z Z) (Am Z (Ao (aa Z) (Ao (ak 5 Z Z Z) (ou Z Z Z Z Z Z (PartsK.cons Z ?_)))))))))
 refine PartsK.cons Z (PartsK.nil ?_)
 refine Ao (am (i2) Z ⟨W,W,(ma),Aq⟩) ?_
 refine Ao (am (e1) Z ⟨W,W,Aq⟩) ?_
 refine Al (aA Z Z) (Am Z (Ao (aa Z) (Ao (ak 4 Z Z Z) (ou Z Z Z Z Z Z (PartsK.cons Z (PartsK.cons Z (PartsK.nil ?_)))))))
 refine Ao (am (i3) Z ⟨W,W,(ma),Aq⟩) ?_
 refine Ao (am (e2) Z ⟨W,W,Aq⟩) ?_
 refine Al (aA Z Z) (Am Z (Ao (aa Z) (Ao (ak 3 Z Z Z) (ou Z Z Z Z Z Z (PartsK.cons Z (PartsK.cons Z (PartsK.nil ?_)))))))
 refine Ao (am (i4) Z ⟨W,W,(ma),Aq⟩) ?_
 refine Ao (am (e3) Z ⟨W,W,Aq⟩) ?_
 refine Al (aA Z Z) (Am Z (Ao (aa Z) (Ao (ak 3 Z Z Z) (Al (aA Z Z) (Am Z (Ao (ae Z) (Ao (sT S (bI Z Z)) (Al (aA Z Z) (Am Z ?_)))))))))
 refine Ao (ae Z) (Ao (sT S (bI Z Z)) (Al (aA Z Z) (Am Z (Ao (ak 7 Z Z Z) (Ao (aC 1 Z Z) ?_)))))
 refine Ao (am (ck) Z ⟨W,W,Aq⟩) ?_
 refine Al (aA Z Z) (Am Z (Ao (aa Z) (Ao (ak 0 Z Z Z) (Al (aA Z Z) (Am Z (Ao (ak 7 Z Z Z) ?_))))))
 refine Ao (am (c1) Z ⟨W,Aq⟩) ?_
 refine Ao (sT S (bI Z Z)) (Al (aA Z Z) (Am Z (ou Z Z Z Z Z Z (PartsK.nil (ou Z Z Z Z Z Z (PartsK.cons Z (PartsK.nil (xr Z Z Z Z Z (BuildK.cons Z Z Z ?_)))))))))
 refine BuildK.cons Z Z Z (BuildK.nil ?_)
 refine Ao (am (c2) Z ⟨(wT Z Z (a8 0 Z) (a8 1 Z) (a8 2 Z)),Aq⟩) ?_
 refine Ao (sT S (bI Z Z)) (Al (aA Z Z) (Am Z (Ao (aC 4 Z Z) ?_)))
 refine Ao (am (v2) Z ⟨W,Aq⟩) ?_
 refine Al (aA Z Z) (Am Z (xr Z Z Z Z Z (BuildK.cons Z Z Z (BuildK.nil ?_))))
 refine Ao (am (v4) Z ⟨(sN (a8 0 Z) (a8 1 Z) (a8 2 Z) (a8 3 Z) (a8 4 Z) (a8 5 Z) (a8 6 Z)),Aq⟩) ?_
 refine Ao (aX Z) (Al (aA Z Z) (Am Z (xr Z Z Z Z Z (BuildK.nil ?_))))
 refine Ao (am (v5) Z ⟨(sN (a8 0 Z) (a8 1 Z) (a8 2 Z) (a8 3 Z) (a8 4 Z) (a8 5 Z) (a8 6 Z)),Aq⟩) ?_
 refine Ao (aX Z) (Al (aA Z Z) (Ap (An Z (Ap (ab (aH ?_))))))
 refine aJ Tryz.results8 (.tmp Z W)
end Tor
end
section
namespace Tor
open Go Go.RowKit Go.Proofs
theorem nj (c:Nat) (l:List Int) : ∀ i j,(kQ c l i j).natAbs≤9:=fun i j=>by
 show ((l.getD (i*(c % 5)+j) 0).tmod 10).natAbs≤9
 generalize l.getD (i*(c % 5)+j) 0=x
 rw [Int.natAbs_tmod]
 have:=Nat.mod_lt x.natAbs (show 0<10 by decide)
 show x.natAbs % 10≤9
 omega
theorem t3 {r c:Nat} {F:Nat→Nat→Int} (s : { s:S3 // s.1.length=r∧(s.2.1=none→r=0) }):Ent [bn s.1.2.1 s.1.2.2 r c s.1.1,aZ c s.1.1 F] (iJ r c s) (be r c F):=cn s.2.1 (a8 0 Z) (a8 1 Z)
theorem jM (r c:Nat) (l:List Int):Ok Tryz.prog 9 [eG r c l] (be (r % 5) (c % 5) (kQ c l)):=(tZ r c l).ok fun s=>t3 s
theorem kS (r c:Nat) (l:List Int) (t:Nat):AllS (r % 5) (c % 5) (kQ c l) (bD (r % 5) (c % 5) t (bA (kQ c l))):=AllS.run S (nj c l) t
theorem xP {r c:Nat} {A:Nat→Nat→Int} (hr:r≤4) (hc:c≤4) (hb : ∀ i j,(A i j).natAbs≤9) : ∃ T,T≤4000∧cz r c (bD r c T (bA A))=true ∧ ∀ j,j<T→cz r c (bD r c j (bA A))=false:=by
 obtain ⟨j,hj,hf⟩:=tv (s:=bA A) hr hc Z Z hb
 obtain ⟨T,h1,h2⟩:=tw (bA A) ⟨j,hf⟩
 refine ⟨T,?_,h1,h2⟩
 rcases Nat.lt_or_ge j T with h | h
 ·have:=h2 j h;rw [hf] at this;cases this
 ·omega
theorem pq {n:Int} {m:Int} (hm:0<m) (hm2:m≤1048576):n.tmod m≤1048576:=by
 have:=Int.tmod_lt_of_pos n hm;omega
attribute [local irreducible] J PJ aU one slT cC bJ ci exT cH eP aY bf slV VT.le Ret bW
attribute [local irreducible] ce bq be
set_option maxRecDepth 100000 in
theorem rF (r c:Nat) (l:List Int) (n:Int) (hn : -128≤n∧n≤127):Ok Tryz.prog 3 [eG r c l,one (.int .i8 n)] (one (.bool true)):=by
 have hr:r % 5≤4:=by omega
 have hc:c % 5≤4:=by omega
 have hm:=jM r c l
 have hall:=kS r c l
 have hb:=nj c l
 unfold eG at hm ⊢
 generalize r % 5=R at *
 generalize c % 5=C at *
 generalize kQ c l=A at *
 have hS : ∀ t,StL R C (bD R C t (bA A)):=fun t=>(hall t).stL hc
 have hs:=gS
 obtain ⟨T,hT,hT1,hT2⟩:=xP hr hc hb
 have c1:=po R C A S S T S hT1 hT2 hS
 have c2:=tY R C A S S T S hT1 hT2 hS
 have k1:=gR R C A (bA A) (n.tmod 60) (pq Y Y) S S hS
 have k2:=od R C A (bA A) (n.tmod 60) (pq Y Y) S S hS
 have p1:=iu R C A S S
 have p2:=iV R C A S S
 have p3:=fun s=>jL R C A s (cz R C s) S
 refine Ok.enter Tryz.func3 Z Tryz.ntmps3 Z (fun w O => ?_)
 refine ah (aj ?_)
 refine aR Z Z (ltN Z) (fun b2 => ?_)
 refine An Z (Ap (ab (ah (aj (Al (am (hs) Z trivial) (An Z (Ap (ab (ah ?_)))))))))
 refine aj (Al (aC 0 Z Z) ?_)
 refine Al (am (hm) Z ⟨W,Aq⟩) ?_
 refine aW (T:=29) Z Z Z (fun b6 => ?_)
 refine ia 0 Z Z Z Z (Ap (ab (ah (aj (Am Z (Al (cY Z S S) (Al (nC Z Z Y Z) (An Z (Ap ?_)))))))))
 refine ab (ah (aj (Al (ak 0 Z Z Z) ?_)))
 refine Al (am (p1) Z ⟨W,Aq⟩) ?_
 refine aW (T:=32) Z Z Z (fun b8 => ?_)
 refine aL 0 Z Z Z Z (Ap (ab (ah (ah (aN 5 aK X Y (Al (aC 0 Z Z) (Al (ak 1 Z Z Z) ?_)))))))
 refine Al (am (p2) Z ⟨W,Aq⟩) ?_
 refine Al (am (p3 _) Z ⟨W,W,Aq⟩) ?_
 refine Al (aX Z) (Ap (Ap (ab (ay Z (av (ab (ah (aN 18 aK X Y (Am Z ?_)))))))))
 refine Am Z (Ao (aC 0 Z Z) (Ao (ae Z) ?_))
 refine Ao (am (k1) Z ⟨W,W,Aq⟩) ?_
 refine Ao (ak 1 Z Z Z) ?_
 refine Ao (am (p2) Z ⟨W,Aq⟩) ?_
 refine Ao (ae Z) ?_
 refine Ao (am (k2) Z ⟨W,W,Aq⟩) ?_
 refine Ao (am (p3 _) Z ⟨W,W,Aq⟩) ?_
 refine Al (aA Z Z) (Am Z (Ao (ak 1 Z Z Z) ?_))
 refine Ao (am (c1) Z ⟨W,Aq⟩) ?_
 refine Ao (ak 1 Z Z Z) ?_
 refine Ao (am (c2) Z ⟨W,Aq⟩) ?_
 refine Ao (sT S (bI Z Z)) (Al (aA Z Z) (Ap (An Z (Ap (ab (aH ?_))))))
 refine aJ Tryz.results3 (.tmp Z W)
theorem qH {r c:Nat} {A:Nat→Nat→Int} {s:SS} (h:AllS r c A s) (hr:r≤4) (hc:c≤4) (hmA : ∀ i j,bV (A i j)):Ok Tryz.prog 17 [stT r c A s (one (.bool (cz r c s)))] (one (.bool true)):=by
 have l:=h.stL hc
 have v:=ni r c A s.M s.U s.V s.row s.col (cz r c s) S S l.row l.col hmA l.m l.u l.v
 rw [sK h] at v
 exact v
theorem sO {r c n:Nat} {s:SS} : bD r c 1 (bD r c n s)=bD r c (n+1) s:=(ig n 1 s).symm
theorem xQ {r c:Nat} (n:Nat) (s:SS):(bD r c n s).row≤(bD r c (n+1) s).row∧(bD r c n s).col≤(bD r c (n+1) s).col:=by
 rw [← sO]
 generalize bD r c n s=t
 rw [bD]
 split
 ·exact ⟨Nat.le_refl _,Nat.le_refl _⟩
 ·exact xC r t
theorem rG (r c:Nat) (l:List Int):Ok Tryz.prog 5 [eG r c l] (one (.bool true)):=by
 have hr:r % 5≤4:=by omega
 have hc:c % 5≤4:=by omega
 have hm:=jM r c l
 have hall:=kS r c l
 have hb:=nj c l
 unfold eG at hm ⊢
 generalize r % 5=R at *
 generalize c % 5=C at *
 generalize kQ c l=A at *
 have hS : ∀ t,StL R C (bD R C t (bA A)):=fun t=>(hall t).stL hc
 have hmA : ∀ i j,bV (A i j):=fun i j=>(hS 0).m i j
 have hs:=gS
 have p1:=iu R C A S S
 refine Ok.enter Tryz.func5 Z Tryz.ntmps5 Z (fun w O => ?_)
 refine ah (aj ?_)
 refine aR Z Z (ltN Z) (fun b1 => ?_)
 refine An Z (Ap (ab (ah (aj (Al (am (hs) Z trivial) (An Z (Ap (ab (ah ?_)))))))))
 refine aj (Al (aC 0 Z Z) ?_)
 refine Al (am (hm) Z ⟨W,Aq⟩) ?_
 refine aW (T:=29) Z Z Z (fun b4 => ?_)
 refine ia 0 Z Z Z Z (Ap (ab (ah (aj (Al (ak 0 Z Z Z) ?_)))))
 refine Al (am (p1) Z ⟨W,Aq⟩) ?_
 refine aW (T:=32) Z Z Z (fun b5 => ?_)
 refine aL 0 Z Z Z Z (Ap (ab (ah (ah (aj (An Z (Ap (ab (ao ?_)))))))))
 refine bL (Γ' := [(2,_),(3,_),(5,_),(6,_)]) Ag (SubM.refl _) ?_
 refine bE (σ:=Nat) (Γk := [(3,_),(5,_)]) Ag (fun n => [(6,one (.int .i64 (n:Nat)))]) (fun n M0=>(M0.set 0 (aY b5 32 15 (stC R C A (bD R C n (bA A)) (one (.bool (cz R C (bD R C n (bA A))))))))) (fun n=>n≤40) (fun n=>40 - n) (0) (Nat.zero_le _) Ah (.keep Ak (.keep Ak (.keep Ak (.nil)))) (fun n hn => ?_)
 refine bN (Γ' := [(6,_),(3,_),(5,_)]) (M' := [_,_,_]) Z Z ?_
 by_cases hn40:n<40
 ·have v1:=l9 (hall n) hr hc hmA
  have v2:=qH (hall n) hr hc hmA
  have k1:=gR R C A (bD R C n (bA A)) 1 Y S S (fun t=>by rw [eE]; exact hS _)
  rw [show (1:Int).toNat=1 from rfl,sO] at k1
  obtain ⟨u1,u2⟩:=xQ (r:=R) (c:=C) n (bA A)
  cases hf:cz R C (bD R C n (bA A)) with
  | true =>
   have e:bD R C (n+1) (bA A)=bD R C n (bA A):=lm hf S
   have p3:=jL R C A (bD R C n (bA A)) true S
   rw [hf] at v1 v2 k1
   rw [e,hf] at k1
   rw [e] at u1 u2
   refine ah (ah (aj (Am Z (Al (sT S (aO Z Z)) (Ap (ab (aB Z (av (ab ?_)))))))))
   refine ah (ao (ah (aj (Al (aC 0 Z Z) ?_))))
   refine Al (am (v2) Z ⟨W,Aq⟩) ?_
   refine An Z (Ap (ab (ah (ah (aj (Am Z (Al (aX Z) (Am Z (Ao (aC 0 Z Z) ?_)))))))))
   refine Ao (am (v1) Z ⟨W,Aq⟩) ?_
   refine Ao (aX Z) (Al (aw Z Z) (Ap (ab (ay Z (av (ab (ah (aj (Al (aC 0 Z Z) ?_)))))))))
   refine Al (am (k1) Z ⟨W,W,Aq⟩) ?_
   refine aW (T:=32) Z Z Z (fun b8 => ?_)
   refine aL 0 Z Z Z Z (Ap (ab (ah (ah (aj (Al (aa Z) (Al (ak 0 Z Z Z) (Al (aa Z) (Al (ak 1 Z Z Z) ?_)))))))))
   refine Al (sF S (aO Z Z)) (Am Z (Ao (aa Z) (Ao (ak 0 Z Z Z) (Ao (aa Z) (Ao (ak 1 Z Z Z) (Ao (sF S (aO Z Z)) (Al (aw Z Z) (Am Z (Ao (aa Z) ?_)))))))))
   refine Ao (ak 1 Z Z Z) (Ao (ae Z) (Ao (aC 1 Z Z) (Ao (aC 0 Z Z) ?_)))
   refine Ao (am (p3) Z ⟨W,W,Aq⟩) ?_
   refine Ao (aX Z) (Ao (aA Z Z) (Al (aw Z Z) (Ap (ab (ay Z (av (ab (aj (Al (aC 0 Z Z) ?_)))))))))
   refine aL 1 Z Z Z Z (Ap (aD (ab (aj (Am Z (Al (bj _ 1 Z Z S) (An Z (Ap ?_))))))))
   refine aM (n+1) (hn40) S Ah (.drop (.keep (by (rw [e,hf]; exact Own.le_refl _)) (.keep Ak (.keep Ak (.nil)))))
  | false =>
   rw [hf] at v1 v2 k1
   refine ah (ah (aj (Am Z (Al (sT S (aO Z Z)) (Ap (ab (aB Z (av (ab ?_)))))))))
   refine ah (ao (ah (aj (Al (aC 0 Z Z) ?_))))
   refine Al (am (v2) Z ⟨W,Aq⟩) ?_
   refine An Z (Ap (ab (ah (ah (aj (Am Z (Al (aX Z) (Am Z (Ao (aC 0 Z Z) ?_)))))))))
   refine Ao (am (v1) Z ⟨W,Aq⟩) ?_
   refine Ao (aX Z) (Al (aw Z Z) (Ap (ab (ay Z (av (ab (ah (aj (Al (aC 0 Z Z) ?_)))))))))
   refine Al (am (k1) Z ⟨W,W,Aq⟩) ?_
   refine aW (T:=32) Z Z Z (fun b8 => ?_)
   refine aL 0 Z Z Z Z (Ap (ab (ah (ah (aj (Al (aa Z) (Al (ak 0 Z Z Z) (Al (aa Z) (Al (ak 1 Z Z Z) ?_)))))))))
   refine Al (sF S (aO Z Z)) (Am Z (Ao (aa Z) (Ao (ak 0 Z Z Z) (Ao (aa Z) (Ao (ak 1 Z Z Z) (Ao (sF S (aO Z Z)) (Al (aw Z Z) (Am Z (Ao (aa Z) ?_)))))))))
   refine Ao (ak 1 Z Z Z) (Ao (ae Z) (sn0 Z Z Z Z Z (sn0 Z Z Z Z Z (sn0 Z Z Z Z Z (sn0 Z Z Z Z Z (Ao (aw Z Z) (Al (aw Z Z) (Ap (ab ?_)))))))))
   refine ay Z (av (ab (aj (Al (aC 0 Z Z) (aL 1 Z Z Z Z (Ap (aD (ab (aj ?_)))))))))
   refine Am Z (Al (bj _ 1 Z Z S) (An Z (Ap ?_)))
   refine aM (n+1) (hn40) S Ah (.drop (.keep Ak (.keep Ak (.keep Ak (.nil)))))
 ·refine ah (ah (aj (Am Z (Al (sF S (aO Z Z)) (Ap (ab (ay Z (a4 (az ?_)))))))))
  refine az (aI (ab (ah (aj (Am Z (An Z (Ap (ab (aH ?_)))))))))
  refine aJ Tryz.results5 (.tmp Z W)
end Tor
end
