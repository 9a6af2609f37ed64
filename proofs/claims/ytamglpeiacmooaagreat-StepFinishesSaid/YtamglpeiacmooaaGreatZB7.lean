/-
  Theorems that the proofs of laws of this seat rest on.
  No condition.
-/
import Derived.Test.YtamglpeiacmooaaGreatZB6
set_option maxHeartbeats 20000000
set_option linter.unusedVariables false
set_option linter.unusedSimpArgs false
section
namespace Tor
open Go Go.RowKit Go.Proofs
def lz (c:Nat) (f:Nat→Int):Int:=if bH c f<c then (bH c f:Int) else -1
theorem mG {c j:Nat} {f:Nat→Int} (hj:j<c) (h0 : ∀ k,k<j→f k=0) (h:f j≠0):lz c f=(j:Int):=by
 unfold lz;rw [sd hj h0 h,if_pos hj]
theorem mH {c:Nat} {f:Nat→Int} (h0 : ∀ k,k<c→f k=0):lz c f = -1:=by
 unfold lz;rw [oI h0,if_neg (Nat.lt_irrefl c)]
theorem qi {c:Nat} {f:Nat→Int} (h:bH c f<c):lz c f=(bH c f:Int):=if_pos h
theorem qj {c:Nat} {f:Nat→Int} (h : ¬ bH c f<c):lz c f = -1:=if_neg h
noncomputable def tA (r c:Nat) (F:Nat→Nat→Int):Bool := @decide (IsH r c F) (Classical.propDecidable _)
theorem jh {r c:Nat} {F:Nat→Nat→Int} (h:IsH r c F):tA r c F=true := @decide_eq_true _ (Classical.propDecidable _) h
theorem jK {r c:Nat} {F:Nat→Nat→Int} (h : ¬ IsH r c F):tA r c F=false := @decide_eq_false _ (Classical.propDecidable _) h
instance flatRowF {c:Nat} {f:Nat→Int} : Flat (cX c f) .one:=by unfold cX;infer_instance
attribute [local irreducible] J PJ aQ one slT cA bG bZ exT cE eP aX a8 slV VT.le Ret bS
theorem re (c:Nat) (f:Nat→Int) (hc:c≤1048576):Ok Tryz.prog 89 [cX c f] (one (.int .i64 (lz c f))):=by
 unfold cX
 refine Ok.enter Tryz.func89 Z Tryz.ntmps89 Z (fun w O => ?_)
 refine ah (aj (An Z (Ap (aa (rF (ah (aj (An Z (Ap ?_)))))))))
 refine aa (ah (rE (aa (ah (ah (aj (Am Z (Al (be Z) (Am Z ?_)))))))))
 refine Ap (aa (ar (bV (Γ' := [(2,_),(3,_),(6,_),(7,_),(8,_)]) Ag (SubM.refl _) ?_)))
 refine bv (σ:=Nat) (Γk := [(2,_),(6,_),(7,_)]) Ag (fun i => [(8,one (.int .i64 (i:Nat))),(3,one (.int .i64 (-1)))]) (fun i M0=>M0) (fun i=>i≤c ∧ ∀ k,k<i→f k=0) (fun i=>c - i) (0) (⟨Nat.zero_le _,fun k hk=>absurd hk (Nat.not_lt_zero k)⟩) Ah (.nil) (fun i hi => ?_)
 refine bK (Γ' := [(8,_),(3,_),(2,_),(6,_),(7,_)]) (M' := []) Z Z ?_
 obtain ⟨hi1,hi2⟩:=hi
 have hsg:=cI (f i)
 by_cases hi':i<c
 ·by_cases h0:f i=0
  ·have h1:=hsg.2 h0
   refine ah (aj (Al (sT S (aS Z Z)) (Ap (aa (ah (az Z (au (aa (ah ?_)))))))))
   refine ar (ah (aj (Am Z (Al (ax Z Z S) (Al (aH Z) ?_)))))
   refine aT (T:=55) Z (ltN Z) (fun b5 => ?_)
   refine An Z (aF 0 Z Z Z Z Z (leN Z) Z (Ap (aa (ah (aj (Al (ak 0 Z Z Z) ?_))))))
   refine Al (am (cw _) Z ⟨W,Aq⟩) ?_
   refine Ap (aa (ar (ah (aj (Al (sT (by assumption) (cj Z Z)) (An Z (Ap (aa (az Z ?_)))))))))
   refine au (aD (aD (aa (aj (Al (bn _ 1 Z Z S) (Am Z (Ap ?_)))))))
   refine aJ (i+1) (⟨hi',fun k hk=>by rcases Nat.lt_or_eq_of_le (Nat.lt_succ_iff.1 hk) with h | h;exact hi2 k h;exact h▸h0⟩) S Ah (SubM.nilR _)
  ·have h1 : ¬ de (f i)=0:=fun e=>h0 (hsg.1 e)
   rw [mG hi' hi2 h0]
   refine ah (aj (Al (sT S (aS Z Z)) (Ap (aa (ah (az Z (au (aa (ah ?_)))))))))
   refine ar (ah (aj (Am Z (Al (ax Z Z S) (Al (aH Z) ?_)))))
   refine aT (T:=55) Z (ltN Z) (fun b5 => ?_)
   refine An Z (aF 0 Z Z Z Z Z (leN Z) Z (Ap (aa (ah (aj (Al (ak 0 Z Z Z) ?_))))))
   refine Al (am (cw _) Z ⟨W,Aq⟩) ?_
   refine Ap (aa (ar (ah (aj (Al (sF (by assumption) (cj Z Z)) (An Z (Ap (aa (aA Z ?_)))))))))
   refine ah (aj (Am Z (An Z (Ap (aa (aU (dg Z (dg Z (av ?_)))))))))
   refine av (aC (aa (ah (aj (Am Z (An Z (Ap (aa (aG ?_)))))))))
   refine jM ?_
   refine aP Tryz.results89 (.tmp Z W)
 ·rw [mH (fun k hk=>hi2 k S)]
  refine ah (aj (Al (sF S (aS Z Z)) (Ap (aa (ah (aA Z (aU (av (av ?_)))))))))
  refine aC (aa (ah (aj (Am Z (An Z (Ap (aa (aG (jM ?_)))))))))
  refine aP Tryz.results89 (.tmp Z W)
theorem tC (c:Nat) (f:Nat→Int) (hc:c≤1048576):Ok Tryz.prog 75 [cX c f] (one (.int .i64 (lz c f))):=by
 unfold cX
 refine Ok.enter Tryz.func75 Z Tryz.ntmps75 Z (fun w O => ?_)
 refine ah (aj (An Z (Ap (aa (ah (ah (aj (An Z (Ap ?_)))))))))
 refine aa (ar (bV (Γ' := [(0,_),(2,_),(3,_)]) Ag (SubM.refl _) ?_))
 refine bv (σ:=Nat) (Γk := [(0,_)]) Ag (fun i => [(3,one (.int .i64 (i:Nat)))]) (fun i M0=>M0) (fun i=>i≤c ∧ ∀ k,k<i→f k=0) (fun i=>c - i) (0) (⟨Nat.zero_le _,fun k hk=>absurd hk (Nat.not_lt_zero k)⟩) Ah (.nil) (fun i hi => ?_)
 refine bK (Γ' := [(3,_),(0,_)]) (M' := []) Z Z ?_
 obtain ⟨hi1,hi2⟩:=hi
 have hsg:=cI (f i)
 by_cases hi':i<c
 ·by_cases h0:f i=0
  ·have h1:=hsg.2 h0
   refine ah (ah (aj (Am Z (Am Z (Al (be Z) (Al (sT S (aS Z Z)) (Ap (aa (az Z ?_)))))))))
   refine au (aa (ah (ar (ah (aj (Am Z (Am Z (Al (ax Z Z S) (Al (aH Z) ?_)))))))))
   refine Al (am (cn _) Z ⟨W,Aq⟩) ?_
   refine Al (sF S (dy Z Z)) (Ap (aa (aA Z (au (aD (aa (aj (Am Z (Al (bn _ 1 Z Z S) ?_)))))))))
   refine An Z (Ap ?_)
   refine aJ (i+1) (⟨hi',fun k hk=>by rcases Nat.lt_or_eq_of_le (Nat.lt_succ_iff.1 hk) with h | h;exact hi2 k h;exact h▸h0⟩) S Ah (.nil)
  ·have h1 : ¬ de (f i)=0:=fun e=>h0 (hsg.1 e)
   rw [mG hi' hi2 h0]
   refine ah (ah (aj (Am Z (Am Z (Al (be Z) (Al (sT S (aS Z Z)) (Ap (aa (az Z ?_)))))))))
   refine au (aa (ah (ar (ah (aj (Am Z (Am Z (Al (ax Z Z S) (Al (aH Z) ?_)))))))))
   refine Al (am (cn _) Z ⟨W,Aq⟩) ?_
   refine Al (sT (by assumption) (dy Z Z)) (Ap (aa (az Z (ah (aj (Am Z (An Z (Ap (aa ?_)))))))))
   refine aG (a6 (aB (aB (a6 (aB ?_)))))
   refine aP Tryz.results75 (.tmp Z W)
 ·rw [mH (fun k hk=>hi2 k S)]
  refine ah (ah (aj (Am Z (Am Z (Al (be Z) (Al (sF S (aS Z Z)) (Ap (aa (aA Z ?_)))))))))
  refine aU (av (av (aC (aa (ah (aj (An Z (Ap (aa ?_)))))))))
  refine aG ?_
  refine aP Tryz.results75 (.tmp Z W)
theorem Ent.clo2 {Ms:Mem} {f:FuncId} {φ ψ φ2 ψ2:VT} (h:Ent Ms φ ψ) (h2:Ent Ms φ2 ψ2):Ent Ms (mW f [φ, φ2]) (mW f [ψ, ψ2]):=Ent.clo fun g h0 h' vs ho hc=>by
 match vs,hc with
 | [v, v2], ⟨h1, h3, h4⟩ => exact ⟨h _ _ _ _ ho h1, h2 _ _ _ _ ho h3, h4⟩
theorem uW {c i:Nat} {F:Nat→Nat→Int} : VT.le (slT .one ((i:Int) - 0).toNat fun j=>cX c (F (Int.toNat 0+j))) (slT .one i fun k=>cX c (F k)):=cL S fun q hq=>by
 rw [show Int.toNat 0+q=q from Nat.zero_add q]
theorem xz {x:Int} (h:0<x) : ¬ de x≤0:=by unfold de;split <;> (try split) <;> omega
theorem wk {x:Int} (h : ¬ 0<x):de x≤0:=by unfold de;split <;> (try split) <;> omega
theorem oR {x:Int} (h:0≤x) : ¬ de x<0:=by unfold de;split <;> (try split) <;> omega
theorem oS {x:Int} (h:x<0):de x<0:=by unfold de;split <;> (try split) <;> omega
theorem uX {x y:Int} (h:x<y) : ¬ 0≤ev x y:=by unfold ev;rw [if_pos h]; omega
theorem sk {x y:Int} (h : ¬ x<y):0≤ev x y:=by unfold ev;rw [if_neg h]; split <;> omega
theorem wl (r c:Nat) (F:Nat→Nat→Int) (hr:r≤1048576) (hc:c≤1048576) (hm : ∀ i j,cx (F i j)):Ok Tryz.prog 41 [bp r c F] (one (.bool (tA r c F))):=by
 have hval:=jJ r c F hr (fun i j=>bA (hm i j))
 refine Ok.enter Tryz.func41 Z Tryz.ntmps41 Z (fun w O => ?_)
 refine ah (aj ?_)
 refine aY Z Z (ltN Z) (fun b1 => ?_)
 refine An Z (Ap (aa (ah (aj (Al (aL 0 Z Z) ?_)))))
 refine Al (am (hval) Z ⟨W,Aq⟩) ?_
 refine An Z (Ap (aa (ah (ah (aj (Am Z (Al (bx Z) (Ap (aa ?_)))))))))
 refine aA Z (au (aa (ah (aj (An Z (Ap (aa (ah (ah ?_)))))))))
 refine aj (An Z (Ap (aa (ar (bV (Γ' := [(1,_),(2,_),(4,_),(5,_)]) Ag (SubM.refl _) ?_)))))
 refine bv (σ:=Nat × Int) (Γk := [(1,_)]) Ag (fun x => [(5,one (.int .i64 (x.1:Nat))),(4,one (.int .i64 x.2))]) (fun x M0=>M0) (fun x=>x.1≤r∧IsH x.1 c F ∧ -1≤x.2∧x.2≤c∧oJ c F x.1 x.2 false) (fun x=>r - x.1) ((0, -1)) (⟨Nat.zero_le _,IsH.zero,by omega,by omega,oJ.start⟩) Ah (.keep Ak (.nil)) (fun x hx => ?_)
 refine bK (Γ' := [(5,_),(4,_),(1,_)]) (M' := [_]) Z Z ?_
 obtain ⟨i,last⟩:=x
 obtain ⟨hi1,hi2,hi3,hi4,hi5⟩:=hx
 dsimp only at hi1 hi2 hi3 hi4 hi5 ⊢
 by_cases hi':i<r
 ·have hp:=tC c (F i) hc
  by_cases h0:bH c (F i)<c
  ·rw [qi h0] at hp
   have hR:=p9.of hi5 h0
   have hno : ¬ p9 c F i→tA r c F=false:=fun h=>jK fun e=>h (e.at hi')
   generalize hL:bH c (F i)=L at *
   by_cases h1:last<(L:Int)
   ·by_cases h2:0<F i L
    ·have h2':=xz h2
     refine ah (ah (aj (Am Z (Al (ab Z) (Al (ak 0 Z Z Z) (Al (sT S (aS Z Z)) (Ap (aa (az Z ?_)))))))))
     refine au (aa (ah (ar (ah (aj (Al (ab Z) (Al (ak 0 Z Z Z) (Am Z (Al (ax Z Z S) ?_)))))))))
     refine Al (aH Z) ?_
     refine Al (am (hp) Z ⟨W,Aq⟩) ?_
     refine An Z (Ap (aa (ah (ah (aj (Am Z (Al (sF S (aS Z Z)) (Ap (aa ?_)))))))))
     refine aA Z (au (aa (ah (ah (aj (Am Z (Am Z (Al (sF S (eR Z Z)) (Am Z ?_)))))))))
     refine Ao (ab Z) (Ao (ak 0 Z Z Z) (Ao (ae Z) (Ao (ax Z Z S) (Ao (aH Z) (Ao (ae Z) (Ao (ax Z Z S) (Ao (aH Z) ?_)))))))
     refine Ao (am (cn _) Z ⟨W,Aq⟩) ?_
     refine Ao (sF (by assumption) (eR Z Z)) (Al (ay Z Z) (Ap (aa (aA Z (au (aa (ah (ah (aj ?_)))))))))
     refine An Z (Ap (aa (ar (bV (Γ' := [(1,_),(4,_),(5,_),(6,_),(7,_)]) Ag (SubM.refl _) ?_))))
     refine bv (σ:=Nat) (Γk := [(1,_),(4,_),(5,_),(6,_)]) Ag (fun k => [(7,one (.int .i64 (k:Nat)))]) (fun k M0=>M0) (fun k=>k≤i ∧ ∀ q,q<k→0≤F q L∧F q L<F i L) (fun k=>i - k) (0) (⟨Nat.zero_le _,fun q hq=>absurd hq (Nat.not_lt_zero q)⟩) Ah (.keep Ak (.nil)) (fun k hk => ?_)
     refine bK (Γ' := [(7,_),(1,_),(4,_),(5,_),(6,_)]) (M' := [_]) Z Z ?_
     obtain ⟨hk1,hk2⟩:=hk
     by_cases hk':k<i
     ·by_cases h3:F k L<0
      ·rw [hno (fun e=>(hR.1 e).2.2.2 ⟨k,hk', .inl h3⟩)]
       have h3':=oS h3
       refine ah (ah (aj (Am Z (Am Z (Al (sT S (aS Z Z)) (Ap (aa (az Z (au ?_)))))))))
       refine aa (ah (ar (ah (aZ 30 aV X Y (Al (ab Z) (Al (ak 0 Z Z Z) (Am Z (Al (ax Z Z S) (Al (aH Z) ?_)))))))))
       refine Am Z (Al (ax Z Z S) (Al (aH Z) ?_))
       refine Al (am (cn _) Z ⟨W,Aq⟩) ?_
       refine Al (sT (by assumption) (aS Z Z)) (Am Z (sn0 Z Z Z Z Z (sn0 Z Z Z Z Z (sn0 Z Z Z Z Z (sn0 Z Z Z Z Z (sn0 Z Z Z Z Z (sn0 Z Z Z Z Z (sn0 Z Z Z Z Z (sn0 Z Z Z Z Z ?_)))))))))
       refine sn0 Z Z Z Z Z (sn0 Z Z Z Z Z (sn0 Z Z Z Z Z (sn0 Z Z Z Z Z (sn0 Z Z Z Z Z (sn0 Z Z Z Z Z (sn0 Z Z Z Z Z (sn0 Z Z Z Z Z (sn0 Z Z Z Z Z (sn0 Z Z Z Z Z ?_)))))))))
       refine Al (aE Z Z) (Ap (Ap (aa (az Z (ah (aj (An Z (Ap (aa ?_)))))))))
       refine aG (a6 (aB (aB (a6 (aB (a6 (aB (aB (a6 ?_)))))))))
       refine aB ?_
       refine aP Tryz.results41 (.tmp Z W)
      ·by_cases h4:F k L<F i L
       ·have h3':=oR (Int.not_lt.1 h3)
        have h4':=uX h4
        refine ah (ah (aj (Am Z (Am Z (Al (sT S (aS Z Z)) (Ap (aa (az Z (au ?_)))))))))
        refine aa (ah (ar (ah (aZ 30 aV X Y (Al (ab Z) (Al (ak 0 Z Z Z) (Am Z (Al (ax Z Z S) (Al (aH Z) ?_)))))))))
        refine Am Z (Al (ax Z Z S) (Al (aH Z) ?_))
        refine Al (am (cn _) Z ⟨W,Aq⟩) ?_
        refine Al (sF (by assumption) (aS Z Z)) (Am Z (Ao (ab Z) (Ao (ak 0 Z Z Z) (Ao (ae Z) (Ao (ax Z Z S) (Ao (aH Z) (Ao (ae Z) (Ao (ax Z Z S) (Ao (aH Z) ?_)))))))))
        refine Ao (ab Z) (Ao (ak 0 Z Z Z) (Ao (ae Z) (Ao (ax Z Z S) (Ao (aH Z) (Ao (ae Z) (Ao (ax Z Z S) (Ao (aH Z) ?_)))))))
        refine Ao (am (pY _ _ (bA (hm _ _)) (bA (hm _ _))) Z ⟨W,W,Aq⟩) ?_
        refine Ao (sF (by assumption) (fd Z Z)) (Al (ay Z Z) (Ap (Ap (aa (aA Z (au (aD (aa (aj ?_)))))))))
        refine Am Z (Al (bn _ 1 Z Z S) (An Z (Ap ?_)))
        refine aJ (k+1) (⟨hk',fun q hq=>by rcases Nat.lt_or_eq_of_le (Nat.lt_succ_iff.1 hq) with h | h;exact hk2 q h;exact h▸⟨Int.not_lt.1 h3,h4⟩⟩) S Ah (.keep Ak (.nil))
       ·rw [hno (fun e=>(hR.1 e).2.2.2 ⟨k,hk', .inr (Int.not_lt.1 h4)⟩)]
        have h3':=oR (Int.not_lt.1 h3)
        have h4':=sk h4
        refine ah (ah (aj (Am Z (Am Z (Al (sT S (aS Z Z)) (Ap (aa (az Z (au ?_)))))))))
        refine aa (ah (ar (ah (aZ 30 aV X Y (Al (ab Z) (Al (ak 0 Z Z Z) (Am Z (Al (ax Z Z S) (Al (aH Z) ?_)))))))))
        refine Am Z (Al (ax Z Z S) (Al (aH Z) ?_))
        refine Al (am (cn _) Z ⟨W,Aq⟩) ?_
        refine Al (sF (by assumption) (aS Z Z)) (Am Z (Ao (ab Z) (Ao (ak 0 Z Z Z) (Ao (ae Z) (Ao (ax Z Z S) (Ao (aH Z) (Ao (ae Z) (Ao (ax Z Z S) (Ao (aH Z) ?_)))))))))
        refine Ao (ab Z) (Ao (ak 0 Z Z Z) (Ao (ae Z) (Ao (ax Z Z S) (Ao (aH Z) (Ao (ae Z) (Ao (ax Z Z S) (Ao (aH Z) ?_)))))))
        refine Ao (am (pY _ _ (bA (hm _ _)) (bA (hm _ _))) Z ⟨W,W,Aq⟩) ?_
        refine Ao (sT (by assumption) (fd Z Z)) (Al (ay Z Z) (Ap (Ap (aa (az Z (ah (aj (An Z (Ap ?_)))))))))
        refine aa (aG (a6 (aB (aB (a6 (aB (a6 (aB (aB ?_)))))))))
        refine a6 (aB ?_)
        refine aP Tryz.results41 (.tmp Z W)
     ·have hke:k=i:=by omega
      subst hke
      have hrow:=hR.2 ⟨rfl,h1,h2,fun ⟨q,hq,h⟩=>by have:=hk2 q hq;omega⟩
      have hab:=oJ.some hi5 (by rw [hL]; exact h0) hrow
      rw [hL] at hab
      refine ah (ah (aj (Am Z (Am Z (Al (sF S (aS Z Z)) (Ap (aa (aA Z (aU ?_)))))))))
      refine av (av (aC (aa (aj (Am Z (An Z (Ap (aD (aa ?_)))))))))
      refine aj (Am Z (Al (bn _ 1 Z Z S) (An Z (Ap ?_))))
      refine aJ ((k+1,(L:Int))) (⟨hi',hi2.succ hrow,by show (-1:Int)≤(L:Int);omega,by show (L:Int)≤(c:Int);omega,hab⟩) S Ah (.keep Ak (.nil))
    ·rw [hno (fun e=>h2 (hR.1 e).2.2.1)]
     have h2':=wk h2
     refine ah (ah (aj (Am Z (Al (ab Z) (Al (ak 0 Z Z Z) (Al (sT S (aS Z Z)) (Ap (aa (az Z ?_)))))))))
     refine au (aa (ah (ar (ah (aj (Al (ab Z) (Al (ak 0 Z Z Z) (Am Z (Al (ax Z Z S) ?_)))))))))
     refine Al (aH Z) ?_
     refine Al (am (hp) Z ⟨W,Aq⟩) ?_
     refine An Z (Ap (aa (ah (ah (aj (Am Z (Al (sF S (aS Z Z)) (Ap (aa ?_)))))))))
     refine aA Z (au (aa (ah (ah (aj (Am Z (Am Z (Al (sF S (eR Z Z)) (Am Z ?_)))))))))
     refine Ao (ab Z) (Ao (ak 0 Z Z Z) (Ao (ae Z) (Ao (ax Z Z S) (Ao (aH Z) (Ao (ae Z) (Ao (ax Z Z S) (Ao (aH Z) ?_)))))))
     refine Ao (am (cn _) Z ⟨W,Aq⟩) ?_
     refine Ao (sT (by assumption) (eR Z Z)) (Al (ay Z Z) (Ap (aa (az Z (ah (aj (An Z (Ap (aa ?_)))))))))
     refine aG (aB (a6 (aB (aB (a6 (aB ?_))))))
     refine aP Tryz.results41 (.tmp Z W)
   ·rw [hno (fun e=>h1 (hR.1 e).2.1)]
    refine ah (ah (aj (Am Z (Al (ab Z) (Al (ak 0 Z Z Z) (Al (sT S (aS Z Z)) (Ap (aa (az Z ?_)))))))))
    refine au (aa (ah (ar (ah (aj (Al (ab Z) (Al (ak 0 Z Z Z) (Am Z (Al (ax Z Z S) ?_)))))))))
    refine Al (aH Z) ?_
    refine Al (am (hp) Z ⟨W,Aq⟩) ?_
    refine An Z (Ap (aa (ah (ah (aj (Am Z (Al (sF S (aS Z Z)) (Ap (aa ?_)))))))))
    refine aA Z (au (aa (ah (ah (aj (Am Z (Am Z (Al (sT S (eR Z Z)) (Am Z ?_)))))))))
    refine sn0 Z Z Z Z Z (sn0 Z Z Z Z Z (sn0 Z Z Z Z Z (sn0 Z Z Z Z Z (sn0 Z Z Z Z Z (sn0 Z Z Z Z Z (sn0 Z Z Z Z Z (sn0 Z Z Z Z Z (sn0 Z Z Z Z Z (sn0 Z Z Z Z Z ?_)))))))))
    refine Al (aE Z Z) (Ap (aa (az Z (ah (aj (An Z (Ap (aa (aG ?_)))))))))
    refine aB (a6 (aB (aB (a6 (aB ?_)))))
    refine aP Tryz.results41 (.tmp Z W)
  ·rw [qj h0] at hp
   have hrow:p9 c F i:=fun h=>absurd h h0
   have hab:oJ c F (i+1) (c:Int) false:=oJ.none h0 (.inr (Int.le_refl _))
   refine ah (ah (aj (Am Z (Al (ab Z) (Al (ak 0 Z Z Z) (Al (sT S (aS Z Z)) (Ap (aa (az Z ?_)))))))))
   refine au (aa (ah (ar (ah (aj (Al (ab Z) (Al (ak 0 Z Z Z) (Am Z (Al (ax Z Z S) ?_)))))))))
   refine Al (aH Z) ?_
   refine Al (am (hp) Z ⟨W,Aq⟩) ?_
   refine An Z (Ap (aa (ah (ah (aj (Am Z (Al (sT S (aS Z Z)) (Ap (aa ?_)))))))))
   refine az Z (ah (aj (Al (ab Z) (Al (ak 0 Z Z Z) (An Z (Ap (aa (aU (av ?_)))))))))
   refine aC (aa (aj (Am Z (Al (bn _ 1 Z Z S) (An Z (Ap ?_))))))
   refine aJ ((i+1,(c:Int))) (⟨hi',hi2.succ hrow,by show (-1:Int)≤(c:Int);omega,Int.le_refl _,hab⟩) S Ah (.keep Ak (.nil))
 ·have he:i=r:=by omega
  subst he
  rw [jh hi2]
  refine ah (ah (aj (Am Z (Al (ab Z) (Al (ak 0 Z Z Z) (Al (sF S (aS Z Z)) (Ap (aa (aA Z ?_)))))))))
  refine aU (av (av (aC (aa (ah (aj (An Z (Ap (aa ?_)))))))))
  refine aG ?_
  refine aP Tryz.results41 (.tmp Z W)
def m8 (F:Nat→Nat→Int) (i L k:Nat):Bool:=decide (F k L<0∨F i L≤F k L)
theorem xU {F:Nat→Nat→Int} {i L:Nat} : cQ (m8 F i L) i<i↔xS F i L:=by
 constructor
 ·intro h
  exact ⟨_,h,of_decide_eq_true (e6 (m8 F i L) i h)⟩
 ·rintro ⟨k,hk,h⟩
  rcases Nat.lt_or_ge (cQ (m8 F i L) i) i with h1 | h1
  ·exact h1
  ·have:=ij (m8 F i L) i k S
   exact absurd h (of_decide_eq_false this)
theorem rf (c:Nat) (F:Nat→Nat→Int) (i L k:Nat) (hc:c≤1048576) (hL:L<c) (hm : ∀ i j,cx (F i j)):Ok Tryz.prog 90 [cX c (F k),cA .one (one (.int .i64 (L:Nat))),cA .one (cX c (F i))] (one (.bool (m8 F i L k))):=by
 unfold cX
 refine Ok.enter Tryz.func90 Z Tryz.ntmps90 Z (fun w O => ?_)
 by_cases h1:F k L<0
 ·have h1':=oS h1
  rw [show m8 F i L k=true from decide_eq_true (.inl h1)]
  refine ah (aj (An Z (Ap (aa (ah (aZ 18 aV X Y (Am Z (Al (aH Z) (Al (ax Z Z S) ?_)))))))))
  refine Al (aH Z) ?_
  refine Al (am (cw _) Z ⟨W,Aq⟩) ?_
  refine Al (sT (by assumption) (aS Z Z)) (Am Z (sn0 Z Z Z Z Z (sn0 Z Z Z Z Z (sn0 Z Z Z Z Z (sn0 Z Z Z Z Z (sn0 Z Z Z Z Z (sn0 Z Z Z Z Z (sn0 Z Z Z Z Z (sn0 Z Z Z Z Z ?_)))))))))
  refine sn0 Z Z Z Z Z (sn0 Z Z Z Z Z (Al (aE Z Z) (Ap (An Z (Ap (aa (aG ?_)))))))
  refine aP Tryz.results90 (.tmp Z W)
 ·have h1':=oR (Int.not_lt.1 h1)
  by_cases h2:F k L<F i L
  ·have h2':=uX h2
   rw [show m8 F i L k=false from decide_eq_false (fun e=>by omega)]
   refine ah (aj (An Z (Ap (aa (ah (aZ 18 aV X Y (Am Z (Al (aH Z) (Al (ax Z Z S) ?_)))))))))
   refine Al (aH Z) ?_
   refine Al (am (cw _) Z ⟨W,Aq⟩) ?_
   refine Al (sF (by assumption) (aS Z Z)) (Am Z (Ao (ae Z) (Ao (aH Z) (Ao (ax Z Z S) (Ao (aH Z) (Ao (aH Z) (Ao (aH Z) (Ao (ax Z Z S) (Ao (aH Z) ?_)))))))))
   refine Ao (am (iq _ _) Z ⟨W,W,Aq⟩) ?_
   refine Ao (sF (by assumption) (fd Z Z)) (Al (ay Z Z) (Ap (An Z (Ap (aa (aG ?_))))))
   refine aP Tryz.results90 (.tmp Z W)
  ·have h2':=sk h2
   rw [show m8 F i L k=true from decide_eq_true (.inr S)]
   refine ah (aj (An Z (Ap (aa (ah (aZ 18 aV X Y (Am Z (Al (aH Z) (Al (ax Z Z S) ?_)))))))))
   refine Al (aH Z) ?_
   refine Al (am (cw _) Z ⟨W,Aq⟩) ?_
   refine Al (sF (by assumption) (aS Z Z)) (Am Z (Ao (ae Z) (Ao (aH Z) (Ao (ax Z Z S) (Ao (aH Z) (Ao (aH Z) (Ao (aH Z) (Ao (ax Z Z S) (Ao (aH Z) ?_)))))))))
   refine Ao (am (iq _ _) Z ⟨W,W,Aq⟩) ?_
   refine Ao (sT (by assumption) (fd Z Z)) (Al (ay Z Z) (Ap (An Z (Ap (aa (aG ?_))))))
   refine aP Tryz.results90 (.tmp Z W)
theorem tD (n c:Nat) (F:Nat→Nat→Int) (p:Nat→Bool) (cl:VT) (hn:n≤1048576) (hC : ∀ k,k<n→gM Tryz.prog cl [cX c (F k)] (one (.bool (p k)))):Ok Tryz.prog 111 [slT .one n (fun k=>cX c (F k)),cl] (one (.int .i64 (if cQ p n<n then (cQ p n:Int) else -1))):=by
 refine Ok.enter Tryz.func111 Z Tryz.ntmps111 Z (fun w O => ?_)
 refine ah (aj (An Z (Ap (aa (ah (ah (aj (Am Z (Al (be Z) ?_)))))))))
 refine Am Z (Ap (aa (ar (bV (Γ' := [(0,_),(1,_),(4,_),(7,_),(8,_)]) Ag (SubM.refl _) ?_))))
 refine bv (σ:=Nat) (Γk := [(0,_),(1,_),(7,_)]) Ag (fun i => [(8,one (.int .i64 (i:Nat)))]) (fun i M0=>M0) (fun i=>i≤n ∧ ∀ q,q<i→p q=false) (fun i=>n - i) (0) (⟨Nat.zero_le _,fun q hq=>absurd hq (Nat.not_lt_zero q)⟩) Ah (.nil) (fun i hi => ?_)
 refine bK (Γ' := [(8,_),(0,_),(1,_),(7,_)]) (M' := []) Z Z ?_
 obtain ⟨hi1,hi2⟩:=hi
 by_cases hi':i<n
 ·have h1:=hC i hi'
  refine ah (aj (Al (sT S (aS Z Z)) (Ap (aa (ah (az Z (au (aa (ah ?_)))))))))
  refine ar (ah (aj (Am Z (An Z (Ap (aa (ah (aj (Am Z ?_)))))))))
  refine Am Z (Am Z (Al (ax Z Z S) (Al (aH Z) ?_)))
  refine Al (d6 h1 Z Z ⟨W,Aq⟩) ?_
  by_cases h2:p i=true
  ·rw [show (if cQ p n<n then (cQ p n:Int) else -1)=(i:Int) by rw [ol hi' hi2 h2,if_pos hi'],h2]
   refine Ap (aa (az Z (ah (aj (Am Z (An Z (Ap (aa (aG ?_)))))))))
   refine a6 (aB (aB (a6 (aB ?_))))
   refine aP Tryz.results111 (.tmp Z W)
  ·have h3:p i=false:=by simpa using h2
   rw [h3]
   refine Ap (aa (aA Z (au (aD (aa (aj (Al (bn _ 1 Z Z S) (Am Z (Ap ?_)))))))))
   refine aJ (i+1) (⟨hi',fun q hq=>by rcases Nat.lt_or_eq_of_le (Nat.lt_succ_iff.1 hq) with h | h;exact hi2 q h;subst h;exact h3⟩) S Ah (.nil)
 ·rw [show (if cQ p n<n then (cQ p n:Int) else -1) = -1 by rw [rS (fun q hq=>hi2 q S),if_neg (Nat.lt_irrefl n)]]
  refine ah (aj (Al (sF S (aS Z Z)) (Ap (aa (ah (aA Z (aU (av (av ?_)))))))))
  refine aC (aa (ah (aj (An Z (Ap (aa (aG ?_)))))))
  refine aP Tryz.results111 (.tmp Z W)
theorem oT (n c:Nat) (F:Nat→Nat→Int) (p:Nat→Bool) (cl:VT) (hn:n≤1048576) (hC : ∀ k,k<n→gM Tryz.prog cl [cX c (F k)] (one (.bool (p k)))):Ok Tryz.prog 91 [slT .one n (fun k=>cX c (F k)),cl] (one (.bool (decide (cQ p n<n)))):=by
 have hi:=tD n c F p cl hn hC
 refine Ok.enter Tryz.func91 Z Tryz.ntmps91 Z (fun w O => ?_)
 by_cases h:cQ p n<n
 ·rw [if_pos h] at hi
  rw [decide_eq_true h]
  refine ah (aj (An Z (Ap (aa (ah (aj (Am Z (Am Z ?_))))))))
  refine Al (am (hi) Z ⟨W,W,Aq⟩) ?_
  refine Al (sT S (fd Z Z)) (An Z (Ap (aa (aG ?_))))
  refine aP Tryz.results91 (.tmp Z W)
 ·rw [if_neg h] at hi
  rw [decide_eq_false h]
  refine ah (aj (An Z (Ap (aa (ah (aj (Am Z (Am Z ?_))))))))
  refine Al (am (hi) Z ⟨W,W,Aq⟩) ?_
  refine Al (sF S (fd Z Z)) (An Z (Ap (aa (aG ?_))))
  refine aP Tryz.results91 (.tmp Z W)
theorem wm (r c:Nat) (F:Nat→Nat→Int) (hr:r≤1048576) (hc:c≤1048576) (hm : ∀ i j,cx (F i j)):Ok Tryz.prog 49 [bp r c F] (one (.bool (tA r c F))):=by
 have hva:=a4 r c F
 refine Ok.enter Tryz.func49 Z Tryz.ntmps49 Z (fun w O => ?_)
 refine ah (aj ?_)
 refine aY Z Z (ltN Z) (fun b1 => ?_)
 refine An Z (Ap (aa (ah (ah (aj (Al (aL 0 Z Z) ?_))))))
 refine Al (am (hva) Z ⟨W,Aq⟩) ?_
 refine Al (bx Z) (Ap (aa (aA Z (au (aa (ah (aj (An Z (An Z ?_)))))))))
 refine Ap (aa (ah (ah (aj (Al (ab Z) (Al (ak 0 Z Z Z) (Al (be Z) (Am Z (Ap ?_)))))))))
 refine aa (ar (bV (Γ' := [(1,_),(2,_),(3,_),(4,_),(13,_),(14,_),(15,_)]) Ag (SubM.refl _) ?_))
 refine bv (σ:=Nat × Int × Bool) (Γk := [(1,_),(13,_),(14,_)]) Ag (fun x => [(15,one (.int .i64 (x.1:Nat))),(3,one (.int .i64 x.2.1)),(4,one (.bool x.2.2))]) (fun x M0=>M0) (fun x=>x.1≤r∧IsH x.1 c F ∧ -1≤x.2.1∧x.2.1≤c∧oJ c F x.1 x.2.1 x.2.2) (fun x=>r - x.1) ((0, -1,false)) (⟨Nat.zero_le _,IsH.zero,Int.le_refl (-1),(by show (-1:Int)≤(c:Int);omega),oJ.start⟩) Ah (.keep Ak (.nil)) (fun x hx => ?_)
 refine bK (Γ' := [(15,_),(3,_),(4,_),(1,_),(13,_),(14,_)]) (M' := [_]) Z Z ?_
 obtain ⟨i,last,ended⟩:=x
 obtain ⟨hi1,hi2,hi3,hi4,hi5⟩:=hx
 dsimp only at hi1 hi2 hi3 hi4 hi5 ⊢
 by_cases hi':i<r
 ·have hp:=re c (F i) hc
  by_cases h0:bH c (F i)<c
  ·rw [qi h0] at hp
   have hR:=p9.of hi5 h0
   have hno : ¬ p9 c F i→tA r c F=false:=fun h=>jK fun e=>h (e.at hi')
   have hne:=kp h0
   generalize hL:bH c (F i)=L at *
   have hcl:=fun k=>(gM.clo (cs := [cA .one (one (.int .i64 (L:Nat))),cA .one (cX c (F i))]) (φs := [cX c (F k)]) (rf c F i L k hc h0 hm))
   have hco:=oT i c F (m8 F i L) _ S (fun k _=>hcl k)
   cases ended with
   | true =>
    rw [hno (fun e=>by have:=(hR.1 e).1;cases this)]
    refine ah (aj (Al (sT S (aS Z Z)) (Ap (aa (ah (az Z (au (aa (ah ?_)))))))))
    refine ar (ah (aj (Am Z (Al (ax Z Z S) (Al (aH Z) ?_)))))
    refine aT (T:=57) Z (ltN Z) (fun b6 => ?_)
    refine An Z (aF 0 Z Z Z Z Z (leN Z) Z (Ap (aa (ah (aj (Al (ak 0 Z Z Z) ?_))))))
    refine Al (am (hp) Z ⟨W,Aq⟩) ?_
    refine aT (T:=3) Z (ltN Z) (fun b7 => ?_)
    refine aF 0 Z Z Z Z Z (leN Z) Z (Ap (aa (ah (ah (aj (Al (ak 0 Z Z Z) (Al (sF S (aS Z Z)) (Ap (aa ?_)))))))))
    refine aA Z (au (aa (ah (aj (Al (c6 Z) (An Z (Ap (aa (ah ?_)))))))))
    refine ah (aj (Am Z (Am Z (sn0 Z Z Z Z Z (sn0 Z Z Z Z Z (sn0 Z Z Z Z Z (Al (aE Z Z) (Am Z (sn0 Z Z Z Z Z ?_)))))))))
    refine sn0 Z Z Z Z Z (sn0 Z Z Z Z Z (sn0 Z Z Z Z Z (sn0 Z Z Z Z Z (sn0 Z Z Z Z Z (Al (aE Z Z) (Am Z (sn0 Z Z Z Z Z (sn0 Z Z Z Z Z (sn0 Z Z Z Z Z ?_)))))))))
    refine sn0 Z Z Z Z Z (sn0 Z Z Z Z Z (sn0 Z Z Z Z Z (Al (aE Z Z) (Ap (aa (az Z (ah (aj (An Z ?_)))))))))
    refine Ap (aa (aG (aB (a6 (aB (aB (a6 (aB ?_))))))))
    refine aP Tryz.results49 (.tmp Z W)
   | false =>
    by_cases h1:last<(L:Int)
    ·by_cases h2:F i L<0
     ·have h2':=oS h2
      rw [hno (fun e=>by have:=(hR.1 e).2.2.1;omega)]
      refine ah (aj (Al (sT S (aS Z Z)) (Ap (aa (ah (az Z (au (aa (ah ?_)))))))))
      refine ar (ah (aj (Am Z (Al (ax Z Z S) (Al (aH Z) ?_)))))
      refine aT (T:=57) Z (ltN Z) (fun b6 => ?_)
      refine An Z (aF 0 Z Z Z Z Z (leN Z) Z (Ap (aa (ah (aj (Al (ak 0 Z Z Z) ?_))))))
      refine Al (am (hp) Z ⟨W,Aq⟩) ?_
      refine aT (T:=3) Z (ltN Z) (fun b7 => ?_)
      refine aF 0 Z Z Z Z Z (leN Z) Z (Ap (aa (ah (ah (aj (Al (ak 0 Z Z Z) (Al (sF S (aS Z Z)) (Ap (aa ?_)))))))))
      refine aA Z (au (aa (ah (aj (Al (c6 Z) (An Z (Ap (aa (ah ?_)))))))))
      refine ah (aj (Am Z (Am Z (Ao (ak 0 Z Z Z) (Ao (ae Z) (Ao (sF S (eR Z Z)) (Al (ay Z Z) (Am Z (Ao (ak 1 Z Z Z) ?_)))))))))
      refine Ao (ak 0 Z Z Z) (Ao (ax Z Z S) (Ao (aH Z) ?_))
      refine Ao (am (cw _) Z ⟨W,Aq⟩) ?_
      refine Ao (sT (by assumption) (aS Z Z)) (Al (ay Z Z) (Am Z (sn0 Z Z Z Z Z (sn0 Z Z Z Z Z (sn0 Z Z Z Z Z (sn0 Z Z Z Z Z (sn0 Z Z Z Z Z (sn0 Z Z Z Z Z (Al (aE Z Z) ?_)))))))))
      refine Ap (aa (az Z (ah (aj (An Z (Ap (aa (aG (aB ?_)))))))))
      refine a6 (aB (aB (a6 (aB ?_))))
      refine aP Tryz.results49 (.tmp Z W)
     ·have h2':=oR (Int.not_lt.1 h2)
      have h2p:0<F i L:=by omega
      by_cases h3:cQ (m8 F i L) i<i
      ·rw [decide_eq_true h3] at hco
       rw [hno (fun e=>(hR.1 e).2.2.2 (xU.1 h3))]
       refine ah (aj (Al (sT S (aS Z Z)) (Ap (aa (ah (az Z (au (aa (ah ?_)))))))))
       refine ar (ah (aj (Am Z (Al (ax Z Z S) (Al (aH Z) ?_)))))
       refine aT (T:=57) Z (ltN Z) (fun b6 => ?_)
       refine An Z (aF 0 Z Z Z Z Z (leN Z) Z (Ap (aa (ah (aj (Al (ak 0 Z Z Z) ?_))))))
       refine Al (am (hp) Z ⟨W,Aq⟩) ?_
       refine aT (T:=3) Z (ltN Z) (fun b7 => ?_)
       refine aF 0 Z Z Z Z Z (leN Z) Z (Ap (aa (ah (ah (aj (Al (ak 0 Z Z Z) (Al (sF S (aS Z Z)) (Ap (aa ?_)))))))))
       refine aA Z (au (aa (ah (aj (Al (c6 Z) (An Z (Ap (aa (ah ?_)))))))))
       refine ah (aj (Am Z (Am Z (Ao (ak 0 Z Z Z) (Ao (ae Z) (Ao (sF S (eR Z Z)) (Al (ay Z Z) (Am Z (Ao (ak 1 Z Z Z) ?_)))))))))
       refine Ao (ak 0 Z Z Z) (Ao (ax Z Z S) (Ao (aH Z) ?_))
       refine Ao (am (cw _) Z ⟨W,Aq⟩) ?_
       refine Ao (sF (by assumption) (aS Z Z)) (Al (ay Z Z) (Am Z (Ao (ab Z) (Ao (ak 2 Z Z Z) (Ao (ae Z) ?_)))))
       refine Ao (fx Z Z Z Z (fun _=>rfl) S S S S) ?_
       refine Ao (ae Z) (eX [aX b7 _ 1 [(0, .one,one (.int .i64 (L:Nat)))],aX b6 _ 1 [(0, .one,cX c (F i))]] (Kp := [_]) (Kp' := [_]) (List.Perm.refl _) (EntM.refl _) (.add 7 Z (Ent.ptr List.mem_cons_self List.mem_cons_self) (.add 44 Z (Ent.clo2 (Ent.ptr List.mem_cons_self List.mem_cons_self) (Ent.ptr (List.mem_cons_of_mem _ List.mem_cons_self) List.mem_cons_self)) (.refl _))) ?_)
       refine Ao (am (hco) Z ⟨(uW),W,Aq⟩) ?_
       refine Al (ay Z Z) (Ap (aa (az Z (ah (aj (An Z (Ap (aa (aG ?_)))))))))
       refine aB (a6 (aB (aB (a6 (aB ?_)))))
       refine aP Tryz.results49 (.tmp Z W)
      ·rw [decide_eq_false h3] at hco
       have hrow:=hR.2 ⟨rfl,h1,h2p,fun e=>h3 (xU.2 e)⟩
       have hab:=oJ.some hi5 (by rw [hL]; exact h0) hrow
       rw [hL] at hab
       refine ah (aj (Al (sT S (aS Z Z)) (Ap (aa (ah (az Z (au (aa (ah ?_)))))))))
       refine ar (ah (aj (Am Z (Al (ax Z Z S) (Al (aH Z) ?_)))))
       refine aT (T:=57) Z (ltN Z) (fun b6 => ?_)
       refine An Z (aF 0 Z Z Z Z Z (leN Z) Z (Ap (aa (ah (aj (Al (ak 0 Z Z Z) ?_))))))
       refine Al (am (hp) Z ⟨W,Aq⟩) ?_
       refine aT (T:=3) Z (ltN Z) (fun b7 => ?_)
       refine aF 0 Z Z Z Z Z (leN Z) Z (Ap (aa (ah (ah (aj (Al (ak 0 Z Z Z) (Al (sF S (aS Z Z)) (Ap (aa ?_)))))))))
       refine aA Z (au (aa (ah (aj (Al (c6 Z) (An Z (Ap (aa (ah ?_)))))))))
       refine ah (aj (Am Z (Am Z (Ao (ak 0 Z Z Z) (Ao (ae Z) (Ao (sF S (eR Z Z)) (Al (ay Z Z) (Am Z (Ao (ak 1 Z Z Z) ?_)))))))))
       refine Ao (ak 0 Z Z Z) (Ao (ax Z Z S) (Ao (aH Z) ?_))
       refine Ao (am (cw _) Z ⟨W,Aq⟩) ?_
       refine Ao (sF (by assumption) (aS Z Z)) (Al (ay Z Z) (Am Z (Ao (ab Z) (Ao (ak 2 Z Z Z) (Ao (ae Z) ?_)))))
       refine Ao (fx Z Z Z Z (fun _=>rfl) S S S S) ?_
       refine Ao (ae Z) (eX [aX b7 _ 1 [(0, .one,one (.int .i64 (L:Nat)))],aX b6 _ 1 [(0, .one,cX c (F i))]] (Kp := [_]) (Kp' := [_]) (List.Perm.refl _) (EntM.refl _) (.add 7 Z (Ent.ptr List.mem_cons_self List.mem_cons_self) (.add 44 Z (Ent.clo2 (Ent.ptr List.mem_cons_self List.mem_cons_self) (Ent.ptr (List.mem_cons_of_mem _ List.mem_cons_self) List.mem_cons_self)) (.refl _))) ?_)
       refine Ao (am (hco) Z ⟨(uW),W,Aq⟩) ?_
       refine Al (ay Z Z) (Ap (aa (aA Z (au (aa (aj (Al (aH Z) (An Z (Ap ?_)))))))))
       refine aD (aa (aj (Al (bn _ 1 Z Z S) (Am Z (Ap ?_)))))
       refine aJ ((i+1,(L:Int),false)) (⟨hi',hi2.succ hrow,by show (-1:Int)≤(L:Int);omega,by show (L:Int)≤(c:Int);omega,hab⟩) S Ah (.keep Ak (.nil))
    ·rw [hno (fun e=>h1 (hR.1 e).2.1)]
     refine ah (aj (Al (sT S (aS Z Z)) (Ap (aa (ah (az Z (au (aa (ah ?_)))))))))
     refine ar (ah (aj (Am Z (Al (ax Z Z S) (Al (aH Z) ?_)))))
     refine aT (T:=57) Z (ltN Z) (fun b6 => ?_)
     refine An Z (aF 0 Z Z Z Z Z (leN Z) Z (Ap (aa (ah (aj (Al (ak 0 Z Z Z) ?_))))))
     refine Al (am (hp) Z ⟨W,Aq⟩) ?_
     refine aT (T:=3) Z (ltN Z) (fun b7 => ?_)
     refine aF 0 Z Z Z Z Z (leN Z) Z (Ap (aa (ah (ah (aj (Al (ak 0 Z Z Z) (Al (sF S (aS Z Z)) (Ap (aa ?_)))))))))
     refine aA Z (au (aa (ah (aj (Al (c6 Z) (An Z (Ap (aa (ah ?_)))))))))
     refine ah (aj (Am Z (Am Z (Ao (ak 0 Z Z Z) (Ao (ae Z) (Ao (sT S (eR Z Z)) (Al (ay Z Z) (Am Z (sn0 Z Z Z Z Z ?_)))))))))
     refine sn0 Z Z Z Z Z (sn0 Z Z Z Z Z (sn0 Z Z Z Z Z (sn0 Z Z Z Z Z (sn0 Z Z Z Z Z (Al (aE Z Z) (Am Z (sn0 Z Z Z Z Z (sn0 Z Z Z Z Z (sn0 Z Z Z Z Z ?_)))))))))
     refine sn0 Z Z Z Z Z (sn0 Z Z Z Z Z (sn0 Z Z Z Z Z (Al (aE Z Z) (Ap (aa (az Z (ah (aj (An Z ?_)))))))))
     refine Ap (aa (aG (aB (a6 (aB (aB (a6 (aB ?_))))))))
     refine aP Tryz.results49 (.tmp Z W)
  ·rw [qj h0] at hp
   have hrow:p9 c F i:=fun h=>absurd h h0
   have hab:oJ c F (i+1) last true:=oJ.none h0 (.inl Z)
   refine ah (aj (Al (sT S (aS Z Z)) (Ap (aa (ah (az Z (au (aa (ah ?_)))))))))
   refine ar (ah (aj (Am Z (Al (ax Z Z S) (Al (aH Z) ?_)))))
   refine aT (T:=57) Z (ltN Z) (fun b6 => ?_)
   refine An Z (aF 0 Z Z Z Z Z (leN Z) Z (Ap (aa (ah (aj (Al (ak 0 Z Z Z) ?_))))))
   refine Al (am (hp) Z ⟨W,Aq⟩) ?_
   refine aT (T:=3) Z (ltN Z) (fun b7 => ?_)
   refine aF 0 Z Z Z Z Z (leN Z) Z (Ap (aa (ah (ah (aj (Al (ak 0 Z Z Z) (Al (sT S (aS Z Z)) (Ap (aa ?_)))))))))
   refine az Z (ah (aj (An Z (Ap (aa (aU (av (aC (aa ?_)))))))))
   refine aj (Al (bn _ 1 Z Z S) (Am Z (Ap ?_)))
   refine aJ ((i+1,last,true)) (⟨hi',hi2.succ hrow,hi3,hi4,hab⟩) S Ah (.drop (.drop (.keep Ak (.nil))))
 ·have he:i=r:=by omega
  subst he
  rw [jh hi2]
  refine ah (aj (Al (sF S (aS Z Z)) (Ap (aa (ah (aA Z (aU (av (av ?_)))))))))
  refine aC (aa (ah (aj (An Z (Ap (aa (aG ?_)))))))
  refine aP Tryz.results49 (.tmp Z W)
end Tor
end
section
set_option linter.unusedSectionVars false
namespace Tor
open Go Go.RowKit
section
variable {P:Program} {E:Env} {D:List Deferred} {Γ:Ctx} {M:Mem}
variable {ops:Array Oper} {i:Nat} {ty:TypeId} {pos:String} {af:Array Edge} {os:List Oper} {K:List Deferred→Ctx→Mem→Prop}
theorem wn {T T' T2 e:TypeId} {L:Lay} [hS:SliceOf P T e] [hL:LayOf P e L] {x y:Operand} {b n cap d:Nat} {φ ψ:Nat→VT} [hF : ∀ q,Flat (ψ q) L] (j:Nat)
  (hx:aO Γ x=some (one (slV (some b) n cap))) (hM:M[j]? = some (a8 (some b) T' L cap n φ)) (hy:aO Γ y=some (slT L n ψ)) (hsz:0<L.sz)
  (hi:ops[i]? = some ⟨some d, .call ⟨.builtin .copy, #[x,y], #[T,T2]⟩,ty,pos,af,none⟩) (hd:d<E.N)
  (h:Run P E ops false (i+1) D ((d,one (.int .i64 (n:Nat))) :: Γ) (M.set j (a8 (some b) T' L cap n ψ)) os K) :
  Run P E ops false i D Γ M (⟨some d, .call ⟨.builtin .copy, #[x,y], #[T,T2]⟩,ty,pos,af,none⟩ :: os) K:=by
 refine Run.one (K':=fun D' Γ' M'=>D'=D∧Γ'=(d,one (.int .i64 (n:Nat))) :: Γ∧M'=M.set j (a8 (some b) T' L cap n ψ)) Z (fun a w hSt => ?_) (fun D' Γ' M' ⟨h1,h2,h3⟩=>by subst h1 h2 h3;exact h) hi
 have h1:a.eval x=slV (some b) n cap:=cS hSt hx
 obtain ⟨ad,cap2,h2,h3,h4,he⟩:=cS hSt hy
 obtain ⟨g1,g2,g3,g4⟩:=dZ hSt.base hM
 obtain ⟨c,hc,hcs,hce⟩:=g4 b Z
 obtain ⟨new,hn1,hn2,hn3,hn4⟩:=iK (P:=P) (cap:=cap2) (qG (E.O ++ bf M) (cC w)) hsz he
 have hrm:0+new.size≤c.size:=by
  rw [hn2,hcs,Nat.zero_add]; exact Nat.mul_le_mul_right _ g1
 have hst:=run_storeCells_at (P:=P) b 0 T' new.toList 0 c w (fb hc) (by simpa using hrm) (fun x hx=>(Array.all_eq_true_iff_forall_mem.1 hn3) x (by simpa using hx))
 simp only [Nat.add_zero,Array.length_toList] at hst
 have hund:(underlying T).run P w = .ok (.slice e) w:=bj hS.und w
 have hsize:=cJ (P:=P) (T:=e) (L:=L) w
 have hrun:(Builtin.copy_ #[T,T2] ty #[slV (some b) n cap, .slice ad n cap2]).run P w = .ok (goInt n) (w.setRow b (cD c 0 new)):=by
  simp [Builtin.copy_,slV,hund,hsize,Builtin.lenOf,hn1,hst,cD]
 refine ⟨.ok (.value (goInt n)) (w.setRow b (cD c 0 new)),?_,D,_,_,⟨rfl,rfl,rfl⟩,?_⟩
 ·simp only [execOp,resolve,invoke,builtin,Sem.run_bind,Sem.run_pure,Result.andThen_ok,List.map_toArray,List.map_cons,List.map_nil,h1,h2,hrun]
 ·show St E D _ _ (a.put (some d) _) _
  have hSt2:St E D Γ (M.set j (a8 (some b) T' L cap n ψ)) a (w.setRow b (cD c 0 new)):=by
   refine hSt.own hM Z (fun k hk=>db _ _ _ _ (by intro e';apply hk;simp [a8,e'])) (dK _ _ _) Z Z Z ?_
   refine ⟨g1,g2,g3,fun b' hb' => ?_⟩
   cases hb'
   refine ⟨_,dJ hc,by rw [cT hrm]; exact hcs,fun q hq => ?_⟩
   obtain ⟨v,hv,hp⟩:=hn4 q hq
   refine ⟨v,?_,hp⟩
   rw [← hv]
   have e2:q*L.sz+L.sz≤n*L.sz:=by
    have:=Nat.mul_le_mul_right L.sz (show q+1≤n by omega);rwa [Nat.succ_mul] at this
   refine eJ (by rw [cT hrm]; omega) S fun k hk => ?_
   rw [dT hrm,if_pos S]; congr 1
  exact hSt2.put (Ext.refl _) hd Z
end
end Tor
end
section
set_option linter.unusedSectionVars false
namespace Tor
open Go Go.RowKit
section
variable {P:Program} {E:Env} {ops:Array Oper}
abbrev kY (d:Nat→Nat) (V:Nat→Value) (l:List Nat):Ctx:=l.map fun j=>(d j,one (V j))
theorem nJ {d:Nat→Nat} {V:Nat→Value} {Γ:Ctx} {t:Nat} {φ:VT} : ∀ {l:List Nat},bJ (kY d V l ++ Γ) t=some φ→(∃ j∈l,d j=t∧φ=one (V j))∨bJ Γ t=some φ
 | [], h => .inr h
 | j :: l, h => by
  have h:bJ ((d j,one (V j)) :: (kY d V l ++ Γ)) t=some φ:=h
  rw [bq] at h
  split at h
  ·rename_i e;cases h;exact .inl ⟨j,List.mem_cons_self,e,rfl⟩
  ·rcases nJ h with ⟨k,h1,h2⟩ | h2
   ·exact .inl ⟨k,List.mem_cons_of_mem _ h1,h2⟩
   ·exact .inr h2
theorem sn {D:List Deferred} {Γ:Ctx} {M:Mem} {a:Act} {w:World} {d:Nat→Nat} {V:Nat→Value} {l:List Nat} (hS:St E D Γ M a w) (h : ∀ j∈l,a.tmps.getD (d j) undef=V j):St E D (kY d V l ++ Γ) M a w :=
 ⟨hS.base,hS.sz,hS.df,fun t φ ht=>by
  rcases nJ ht with ⟨j,h1,rfl,rfl⟩ | h2
  ·exact h j h1
  ·exact hS.tm t φ h2⟩
def uY (E:Env) (D:List Deferred) (Γ:Ctx) (M:Mem) (row:Nat→Own) (n m:Nat) (d:Nat→Nat) (V:Nat→Value) (Af:Nat→Value) (l:Array Bool) (a:Act) (w:World):Prop :=
 ∃ M',(l.getD m false=false∧M'=M∨l.getD m false=true ∧ ∃ b,M'=row b :: M∧a.tmps.getD (d m) undef=Af b)∧St E D Γ M' a w ∧ ∀ j,j<n→j≠m→l.getD j false=true→a.tmps.getD (d j) undef=V j
theorem uZ {T e:TypeId} {z:Value} {by':Nat} {L:Lay} [hS:SliceOf P T e] [hL:LayOf P e L] [hZ:ZeroOf P e z by'] [hF:Flat (one z) L] {D:List Deferred} {Γ:Ctx} {M:Mem} {id:Nat} {Q:Exit→Act→World→Prop} (n m c:Nat) (d:Nat→Nat) (V:Nat→Value) (pre:Nat→List Nat) (Γ0:Ctx) {x y:Operand} {ty:TypeId} {pos:String} {af:Array Edge}
  (hm:P.follows .mixedOrders=true) (hok:eH n ops=true) (hmn:m<n)
  (hd:((List.range n).all fun i=>(List.range n).all fun j => !Nat.beq (d i) (d j) || Nat.beq i j)=true)
  (hpre:((List.range n).all fun i=>(pre i).all fun j => !Nat.beq j m && Nat.blt j n && iz ops j i)=true)
  (h0:((List.range n).all fun j=>(bJ Γ0 (d j)).isNone)=true) (hs0:eS Γ Γ0)
  (hA : ∀ i,i<n→i≠m → ∃ o,ops[i]? = some o ∧ ∀ M',(M'=M ∨ ∃ b,M'=a8 (some b) e L c c (fun _=>one z) :: M)→StepG P E (kY d V (pre i) ++ Γ0) M' ops o ((d i,one (V i)) :: (kY d V (pre i) ++ Γ0)))
  (hmk:ops[m]? = some ⟨some (d m), .makeSlice T x y,ty,pos,af,none⟩) (hx:aO (kY d V (pre m) ++ Γ0) x=some (one (.int .i64 (c:Nat)))) (hy:aO (kY d V (pre m) ++ Γ0) y=some (one (.int .i64 (c:Nat))))
  (hb0:Nat.ble 1 by'=true) (hz0:Nat.ble 1 L.sz=true) (hc:by'*c≤2^48) (hdm:Nat.ble (d m+1) E.N=true)
  (hT : ∀ b,Run P E ops false n D ((d m,one (slV (some b) c c)) :: (kY d V ((List.range n).filter fun j => !Nat.beq j m) ++ Γ0)) (a8 (some b) e L c c (fun _=>one z) :: M) (ops.toList.drop n) (fun D' Γ' M'=>PJ E D' Γ' M' .normal Q)):J P E D Γ M (.region id ops true) Q:=by
 intro a w hSt
 have hn:n≤ops.size:=by simp only [eH,Bool.and_eq_true] at hok;exact of_decide_eq_true hok.1
 have hd' : ∀ i j,i<n→j<n→d i=d j→i=j:=fun i j hi hj e=>by
  have h1:=List.all_eq_true.1 (List.all_eq_true.1 hd i (List.mem_range.2 hi)) j (List.mem_range.2 hj)
  rw [e] at h1
  simpa using h1
 have hpre' : ∀ i j,i<n→j∈pre i→j≠m∧j<n∧iz ops j i=true:=fun i j hi hj=>by
  have h1:=List.all_eq_true.1 (List.all_eq_true.1 hpre i (List.mem_range.2 hi)) j hj
  simp only [Bool.and_eq_true,Bool.not_eq_true'] at h1
  exact ⟨fun e=>(by rw [e,Nat.beq_refl] at h1;exact absurd h1.1.1 Y),Nat.le_of_ble_eq_true h1.1.2,h1.2⟩
 have h0' : ∀ j,j<n→bJ Γ0 (d j)=none:=fun j hj=>by
  have h1:=List.all_eq_true.1 h0 j (List.mem_range.2 hj)
  simpa using h1
 refine dX hm ?_
 have k0:Ext w { w with drawn:=w.drawn+1 } := ⟨rfl,rfl,rfl,Nat.le_refl _,fun _ _=>rfl⟩
 have hl0 : ∀ j,(Array.replicate ops.size false).getD j false=false:=fun j=>by
  simp [Array.getD_eq_getD_getElem?,Array.getElem?_replicate]; split <;> rfl
 have hS1:St E D Γ M a { w with drawn:=w.drawn+1 } := ⟨hSt.base.ext k0,hSt.sz,hSt.df,fun t φ ht=>φ.mono (Base.hv_ext k0) (hSt.tm t φ ht)⟩
 refine gO (n:=n) hok (fun l a w=>((∃ j,j<n∧l.getD j false=false)∧(∀ j,n≤j→l.getD j false=false)∧uY E D Γ0 M (fun b=>a8 (some b) e L c c (fun _=>one z)) n m d V (fun b=>slV (some b) c c) l a w) ∨
  ∃ k,n≤k∧k≤ops.size∧(∀ j,j<ops.size→(l.getD j false=true↔j<k))∧wpOps P ops (nrm Q) (List.range' k (ops.size - k)) a w) ?_ ?_ ops.size _ a _ ⟨by simp,fun j hj => ?_⟩ ?_ (.inl ⟨⟨m,hmn,hl0 m⟩,fun j _=>hl0 j,M, .inl ⟨hl0 m,rfl⟩,hS1.sub hs0 (SubM.refl _),fun j _ _ hj => ?_⟩)
 ·rintro l a w (⟨⟨j,hj,hlj⟩,_⟩ | ⟨k,h1,h2,h3,h4⟩) hall
  ·rw [hall j S] at hlj;cases hlj
  ·have hk:k=ops.size:=by
    rcases Nat.lt_or_ge k ops.size with h | h
    ·exact absurd ((h3 k h).1 (hall k h)) (Nat.lt_irrefl k)
    ·omega
   subst hk
   simpa [wpOps] using h4
 ·rintro l a w i (⟨⟨j0,hj0,hlj0⟩,hlate,M',hM',hS',hV⟩ | ⟨k,h1,h2,h3,h4⟩) hl hi1 hi2 hi
  ·have hin:i<n:=by
    rcases Nat.lt_or_ge i n with h | h
    ·exact h
    ·rcases cV hok (i:=j0) (j:=i) S hi1 with hp | ⟨h',_⟩
     ·have:=cr hi hp;rw [hlj0] at this;cases this
     ·omega
   have hls:=hl.size
   have hself:(l.setIfInBounds i true).getD i false=true:=by rw [bw S,if_pos Z]
   have hsame : ∀ j,j≠i→(l.setIfInBounds i true).getD j false=l.getD j false:=fun j hj=>by rw [bw S,if_neg (fun e=>hj e.symm)]
   have hSp:St E D (kY d V (pre i) ++ Γ0) M' a w:=sn hS' fun j hj=>by
    obtain ⟨g1,g2,g3⟩:=hpre' i j hin hj
    exact hV j g2 g1 (cr hi g3)
   -- what holds behind it
   have fin : ∀ a' w',uY E D Γ0 M (fun b=>a8 (some b) e L c c (fun _=>one z)) n m d V (fun b=>slV (some b) c c) (l.setIfInBounds i true) a' w'→(((∃ j,j<n∧(l.setIfInBounds i true).getD j false=false)∧(∀ j,n≤j→(l.setIfInBounds i true).getD j false=false)∧uY E D Γ0 M (fun b=>a8 (some b) e L c c (fun _=>one z)) n m d V (fun b=>slV (some b) c c) (l.setIfInBounds i true) a' w') ∨
     ∃ k,n≤k∧k≤ops.size∧(∀ j,j<ops.size→((l.setIfInBounds i true).getD j false=true↔j<k))∧wpOps P ops (nrm Q) (List.range' k (ops.size - k)) a' w'):=fun a' w' hH=>by
    by_cases hmore : ∃ j,j<n∧(l.setIfInBounds i true).getD j false=false
    ·exact .inl ⟨hmore,fun j hj=>by rw [hsame j S]; exact hlate j hj,hH⟩
    ·have hall : ∀ j,j<n→(l.setIfInBounds i true).getD j false=true:=fun j hj=>by
      rw [← Bool.not_eq_false]; intro h;exact hmore ⟨j,hj,h⟩
     refine .inr ⟨n,Nat.le_refl _,hn,fun j hj=>⟨fun h => ?_,hall j⟩,?_⟩
     ·rcases Nat.lt_or_ge j n with h' | h'
      ·exact h'
      ·rw [hsame j S,hlate j h'] at h;cases h
     ·obtain ⟨M2,hM2,hS2,hV2⟩:=hH
      rcases hM2 with ⟨h1,_⟩ | ⟨_,b,rfl,hb⟩
      ·rw [hall m hmn] at h1;cases h1
      ·have hS3:=sn (l:=(List.range n).filter fun j => !Nat.beq j m) hS2 fun j hj=>by
        obtain ⟨g1,g2⟩:=List.mem_filter.1 hj
        exact hV2 j (List.mem_range.1 g1) (fun e=>by subst e;simp at g2) (hall j (List.mem_range.1 g1))
       have hS4:St E D ((d m,one (slV (some b) c c)) :: (kY d V ((List.range n).filter fun j => !Nat.beq j m) ++ Γ0)) (a8 (some b) e L c c (fun _=>one z) :: M) a' w':=⟨hS3.base,hS3.sz,hS3.df,fun t φ ht=>by
        rw [bq] at ht
        split at ht
        ·rename_i e;cases ht;subst e;exact hb
        ·exact hS3.tm t φ ht⟩
       have:=(hT b).seq (nrm Q) [] (fun j _=>by simp [List.getElem?_drop]) (fun D' Γ' M' a w hK hS=>by simpa [wpOps] using hK a w hS) a' w' hS4
       simpa using this
   by_cases him:i=m
   ·subst him
    rcases hM' with ⟨_,rfl⟩ | ⟨hc1,_⟩
    ·have hx':a.eval x = .int .i64 c:=cS hSp hx
     have hy':a.eval y = .int .i64 c:=cS hSp hy
     have hb1:=Nat.le_of_ble_eq_true hb0
     have hz1:=Nat.le_of_ble_eq_true hz0
     obtain ⟨f1,f2,f3⟩:=hF.ok z (fun _=>none) Z
     have hc48:c≤2^48:=by
      have:c≤by'*c:=Nat.le_mul_of_pos_left c hb1
      omega
     have hr:(execOp a.eval ⟨some (d i), .makeSlice T x y,ty,pos,af,none⟩).run P w = .ok (.value (slV (some w.heap.size) c c)) (w.alloc (.cells (dR z.cells (c*L.sz)) e)):=by
      simp only [execOp,hx',hy',Sem.run_bind,gE hb1 (Nat.le_refl c) hc,Result.andThen_ok,Sem.run_pure]
     have hS2:St E D ((d i,one (slV (some w.heap.size) c c)) :: (kY d V (pre i) ++ Γ0)) (a8 (some w.heap.size) e L c c (fun _=>one z) :: M') (a.put (some (d i)) (slV (some w.heap.size) c c)) (w.alloc (.cells (dR z.cells (c*L.sz)) e)):=by
      refine hSp.alloc (o:=a8 (some w.heap.size) e L c c (fun _=>one z)) Z ⟨Nat.le_refl _,by omega,(fun h=>by cases h),fun b hb => ?_⟩ (Nat.le_of_ble_eq_true hdm) Z
      cases hb
      exact ⟨_,cz w _ _ _,eI _ _,fun q hq=>⟨z,jy f1 f3 S hz1,rfl⟩⟩
     simp only [wpOp,hmk,c7 (o:=⟨some (d i), .makeSlice T x y,ty,pos,af,none⟩) Z,if_true]
     refine .inl ?_
     unfold Oper.wp
     rw [hr]
     refine fin _ _ ⟨_, .inr ⟨hself,w.heap.size,rfl,?_⟩,?_,fun j hj hne hlj => ?_⟩
     ·exact ce (by rw [hS'.sz]; exact Nat.le_of_ble_eq_true hdm)
     ·refine hS2.sub (fun t φ ht=>⟨φ,?_,W⟩) (SubM.refl _)
      have htd:d i≠t:=fun e=>by subst e;rw [h0' i hin] at ht;cases ht
      rw [bq,if_neg htd]
      have : ∀ l:List Nat,(∀ j∈l,j<n)→bJ (kY d V l ++ Γ0) t=some φ:=fun l=>by
       induction l with
       | nil => exact fun _ => ht
       | cons j l ih =>
        intro hl
        show bJ ((d j,one (V j)) :: (kY d V l ++ Γ0)) t=some φ
        rw [bq,if_neg (fun e=>by subst e;rw [h0' j (hl j List.mem_cons_self)] at ht;cases ht)]
        exact ih fun j hj=>hl j (List.mem_cons_of_mem _ hj)
      exact this _ fun j hj=>(hpre' i j hin hj).2.1
     ·rw [hsame j hne] at hlj
      show (a.put (some (d i)) _).tmps.getD (d j) undef=_
      rw [cd (fun e=>hne (hd' i j hin hj e).symm)]
      exact hV j hj hne hlj
    ·rw [hc1] at hi2;cases hi2
   ·obtain ⟨o,ho,hst⟩:=hA i hin him
    obtain ⟨d', ψ',hdd,hN,heq,hrun⟩:=(hst M' (by rcases hM' with ⟨_,h⟩ | ⟨_,b,h,_⟩;exact .inl h;exact .inr ⟨b,h⟩)).run ho
    cases heq
    refine hrun a w hSp.base (hSp.names _) _ (nrm Q) fun v w' k hv'=>fin _ _ ?_
    have hv':v=V i:=hv'
    subst hv'
    refine ⟨M',?_,?_,fun j hj hne hlj => ?_⟩
    ·rw [hsame m (fun e=>him e.symm),cd (fun e=>him (hd' i m hin hmn e))]; exact hM'
    ·refine (hS'.put k hN (ψ:=one (V i)) Z).sub (fun t φ ht=>⟨φ,?_,W⟩) (SubM.refl _)
     rw [bq,if_neg (fun e=>by subst e;rw [h0' i hin] at ht;cases ht)]
     exact ht
    ·by_cases hji:j=i
     ·subst hji;exact ce (by rw [hS'.sz]; exact hN)
     ·rw [hsame j hji] at hlj
      rw [cd (fun e=>hji (hd' i j hin hj e).symm)]
      exact hV j hj hne hlj
  ·have hik:i=k:=by
    rcases Nat.lt_trichotomy i k with h | h | h
    ·rw [(h3 i hi1).2 h] at hi2;cases hi2
    ·exact h
    ·rcases cV hok h hi1 with hp | ⟨h',_⟩
     ·have:=(h3 k S).1 (cr hi hp);omega
     ·omega
   subst hik
   rw [show ops.size - i=(ops.size - (i+1))+1 by omega,List.range'_succ,wpOps_cons] at h4
   refine wpOp_mono (fun a' w' h' => .inr ⟨i+1,by omega,hi1,fun j hj => ?_,h'⟩) h4
   have hls:=hl.size
   rw [bw S]
   by_cases e:i=j
   ·subst e;simp
   ·rw [if_neg e,h3 j hj]; omega
 ·rw [hl0] at hj;cases hj
 ·unfold left;refine Nat.le_trans (List.length_filter_le _ _) (by simp)
 ·rw [hl0] at hj;cases hj
end
end Tor
end
section
namespace Tor
open Go Go.RowKit Go.Proofs
def wo (v:Value) (φ:VT):VT where
 p x h:=x=v∧φ.p x h
 mono:=fun Ae ⟨h1,h2⟩=>⟨h1, φ.mono Ae h2⟩
theorem u0 {v:Value} {φ:VT} : VT.le (wo v φ) (one v):=fun _ _ h=>h.1
theorem wq {v:Value} {φ:VT} : VT.le (wo v φ) φ:=fun _ _ h=>h.2
theorem xV {P:Program} {E:Env} {D:List Deferred} {Γ:Ctx} {M:Mem} {c:Code} {Q:Exit→Act→World→Prop} {t n:Nat} {L:Lay} {ψ:Nat→VT} (h:bJ Γ t=some (slT L n ψ)) (k : ∀ ad cap,J P E D ((t,wo (.slice ad n cap) (slT L n ψ)) :: Γ) M c Q):J P E D Γ M c Q:=fun a w hS=>by
 obtain ⟨ad,cap,h1,h2⟩:=hS.tm t _ h
 refine k ad cap a w ⟨hS.base,hS.sz,hS.df,fun s χ hs => ?_⟩
 rw [bq] at hs
 split at hs
 ·rename_i e;subst e;cases hs;exact ⟨h1,ad,cap,h1,h2⟩
 ·exact hS.tm s χ hs
theorem qk {bo r c br:Nat} {bs:List Nat} : Own.le (a8 (some bo) 57 .one r r (upd (fun q=>if q<bs.length then one (slV (some (bs.getD q 0)) c c) else bS) bs.length (one (slV (some br) c c)))) (a8 (some bo) 57 .one r r (fun q=>if q<(bs ++ [br]).length then one (slV (some ((bs ++ [br]).getD q 0)) c c) else bS)):=cy fun q _=>by
 unfold upd
 rw [List.length_append,List.length_singleton]
 by_cases h:q=bs.length
 ·subst h;rw [if_pos Z,if_pos S]; simp [List.getD]
 ·rw [if_neg h]
  dsimp only
  by_cases h2:q<bs.length
  ·rw [if_pos h2,if_pos S]; simp [List.getD,List.getElem?_append_left h2]
  ·rw [if_neg h2,if_neg S]
theorem tE {c br:Nat} {bs:List Nat} {F:Nat→Nat→Int} : Own.le (bX 55 (.agg 2) c (bs ++ [br]) (fun q=>if q<bs.length then (fun k=>bm (F q k)) else (fun k=>bm (F bs.length k)))) (bg c (bs ++ [br]) F):=dM fun i j hi hj=>by
 rw [List.length_append,List.length_singleton] at hi
 by_cases h:i<bs.length
 ·rw [if_pos h]
 ·rw [if_neg h,show i=bs.length by omega]
attribute [local irreducible] J PJ aQ one slT cA bG bZ exT cE eP aX a8 slV VT.le Ret bS
attribute [local irreducible] bX
theorem eM (r c:Nat) (F:Nat→Nat→Int) (hr:r≤1048576) (hc:c≤1048576):OkM Tryz.prog 29 [bp r c F] (gS r c) (fun s => [bO s.1.2.1 s.1.2.2 r c s.1.1,bg c s.1.1 F]):=by
 refine OkM.enter Tryz.func29 Z Tryz.ntmps29 Z (fun w O => ?_)
 unfold bp
 refine ah (aj ?_)
 refine aY Z Z (ltN Z) (fun b1 => ?_)
 refine a7 (T:=29) Z Z Z (fun b2 => ?_)
 refine Ap (aa (ah ?_))
 refine qS aV X X (fun a1 w1 hS1 => ?_)
 refine ux (fun B=>ab Z) Z Z ?_
 refine ux (fun B=>ak 1 Z Z Z) Z Z ?_
 refine ux (fun B=>ab Z) Z Z ?_
 refine ux (fun B=>ak 1 Z Z Z) Z Z ?_
 refine ux (fun B=>ab Z) Z Z ?_
 refine ux (fun B=>ak 1 Z Z Z) Z Z ?_
 refine ux (fun B=>ig w1.heap.size r Z Z Z Z Z Z Z ?_) Z Z ?_
 ·omega
 refine uB Z Z Z (BuildK.cons Z Z Z (BuildK.cons Z Z Z (BuildK.cons Z Z Z (BuildK.nil (ua Z (us Z ?_))))))
 refine RunU.nil (fun γ a2 w2 hS2 hx hk2 => ?_)
 obtain ⟨bo,hS3⟩:=jB (t:=3) (b:=γ 3) (T:=29) (m:=3) (k:=2) (n:=r) (cs1 := [(0, .one,one (.int .i64 r)),(1, .one,one (.int .i64 c))])
  (Γk := [(1,one (.pointer (some ⟨b1,0,none⟩))),(2,one (.pointer (some ⟨b2,0,none⟩)))])
  hS1 Z hS2 hx hk2 (.cons Z X (.cons Z X .nil)) Z Z (fun q hq=>by
   rcases List.mem_cons.1 hq with rfl | hq
   ·exact ⟨_,rfl,rfl⟩
   rcases List.mem_cons.1 hq with rfl | hq
   ·exact ⟨_,rfl,rfl⟩
   cases hq)
 generalize γ 3=b3 at hS3
 refine qT ?_ hS3
 clear hS3 hS2 hx hk2 hS1
 refine aa (ah (ah (aj (Al (ab Z) (Al (ak 3 Z Z Z) (Al (be Z) (Am Z (Ap (aa ?_)))))))))
 refine ar ?_
 refine iM (ConvM.rows0 (T:=55) (L := .agg 2) (c:=c) (φ:=fun q k=>bm (F q k)) _) ?_
 refine bV (Γ' := [(2,_),(3,_),(15,_),(16,_),(17,_)]) Ag (SubM.refl _) ?_
 refine bv (σ:=List Nat) (Γk := [(2,_),(3,_),(15,_),(16,_)]) Ag (fun bs => [(17,one (.int .i64 (bs.length:Nat)))]) (fun bs M0=>((M0.set 1 (a8 (some bo) 57 .one r r (fun q=>if q<bs.length then one (slV (some (bs.getD q 0)) c c) else bS))).set 4 (bg c bs F))) (fun bs=>bs.length≤r) (fun bs=>r - bs.length) ([]) (Nat.zero_le _) Ah (.keep Ak (.keep (eW fun q hq=>by simp only [List.length_nil,Nat.not_lt_zero,if_false]; exact kS _) (.keep Ak (.keep Ak (.keep Ak (.nil)))))) (fun bs hbs => ?_)
 refine bK (Γ' := [(17,_),(2,_),(3,_),(15,_),(16,_)]) (M' := [_,_,_,_,_]) Z Z ?_
 by_cases hi:bs.length<r
 ·refine ah (aj (Al (sT S (aS Z Z)) (Ap (aa (ah (az Z (au (aa (ah ?_)))))))))
  refine ar (ah (aj (Am Z (Al (ax Z Z S) (Al (aH Z) (An Z (An Z (Ap (aa ?_)))))))))
  refine ah ?_
  refine xV (t:=5) Z (fun ad cp => ?_)
  refine uZ 6 5 c (fun j=>22+j) (fun j=>match j with | 0 => .pointer (some ⟨b3,0+2,none⟩) | 1=>slV (some bo) r r | 2 => .int .i64 (bs.length:Nat) | 3 => .slice ad c cp | _ => .int .i64 (c:Nat)) (fun j=>match j with | 1 => [0] | 4 => [3] | 5 => [4] | _ => [])
   [(3,one (.pointer (some ⟨b3,0,none⟩))),(2,one (.pointer (some ⟨b2,0,none⟩))),(4,one (.int .i64 (bs.length:Nat))),(5,wo (.slice ad c cp) (cX c (F bs.length))),(15,slT .one r (fun i=>cX c (F i))),(16,one (.int .i64 (r:Nat))),(17,one (.int .i64 (bs.length:Nat)))]
   aV X Y Y H Z Aj
   (fun j hj hne => ?_) Z Z Z Z Z S Z (fun br => ?_)
  ·match j,hj,hne with
   | 0, _, _ => exact ⟨_, rfl, fun M' hM' => by rcases hM' with rfl | ⟨b, rfl⟩ <;> exact .plain (ab Z) Z Z (Nat.le_of_ble_eq_true Z)⟩
   | 1, _, _ => exact ⟨_, rfl, fun M' hM' => by
     rcases hM' with rfl | ⟨b,rfl⟩
     ·exact .plain (ak 0 Z Z Z) Z Z (Nat.le_of_ble_eq_true Z)
     ·exact .plain (ak 1 Z Z Z) Z Z (Nat.le_of_ble_eq_true Z)⟩
   | 2, _, _ => exact ⟨_, rfl, fun M' hM' => by rcases hM' with rfl | ⟨b, rfl⟩ <;> exact .plain (ae Z) Z Z (Nat.le_of_ble_eq_true Z)⟩
   | 3, _, _ => exact ⟨_, rfl, fun M' hM' => by rcases hM' with rfl | ⟨b, rfl⟩ <;> exact .plain (aQ.le' (ae Z) u0) Z Z (Nat.le_of_ble_eq_true Z)⟩
   | 4, _, _ => exact ⟨_, rfl, fun M' hM' => by rcases hM' with rfl | ⟨b, rfl⟩ <;> exact .plain (w4 Z) Z Z (Nat.le_of_ble_eq_true Z)⟩
   | 5, _, h => exact absurd Z h
  refine Al (an Z Z S) ?_
  (refine bD 2 Z Z Z ?_ Z ?_;omega)
  refine Ap (aa (aj (Al (ab Z) (Al (ak 1 Z Z Z) (Am Z (Al (an Z Z S) (Al (aI 2 Z Z S) (Am Z (iu (t:=33) (ψ:=one (slV (some br) c c)) Z (jt (by unfold upd;rw [if_pos Z])) ?_)))))))))
  refine iu (t:=34) (ψ:=slT (.agg 2) c (fun j=>bm (F bs.length j))) Z wq ?_
  refine wn 0 Z Z Z Y Z (ltN Z) (Ap (aD (aa (aj (Al (bn _ 1 Z Z S) (Am Z (Ap (gv (ConvM.row (k:=4) Z) ?_))))))))
  refine aJ (bs ++ [br]) (by (rw [List.length_append,List.length_singleton]; omega)) (by (rw [List.length_append,List.length_singleton]; omega)) Ah (.keep Ak (.keep (qk) (.keep Ak (.keep Ak (.keep (tE) (.nil))))))
 ·have hrl:bs.length=r:=by omega
  refine ah (aj (Al (sF S (aS Z Z)) (Ap (aa (ah (aA Z (aU (av (av ?_)))))))))
  refine aC (aa (ah (aj (Al (aL 0 Z Z) (aW 2 Z Z Z Z (Ap (aa (aG ?_))))))))
  subst hrl
  refine iB ⟨(bs,some bo,bs.length),rfl,fun h=>by cases h⟩ Tryz.results29 (.cellW 2 Z Z (ej (cs' := [(0, .one,one (.int .i64 (bs.length:Nat))),(1, .one,one (.int .i64 (c:Nat))),(2, .one,one (slV (some bo) bs.length bs.length))]) fun q hq=>⟨q.2.2,by simp only [List.mem_cons,List.not_mem_nil,or_false] at hq ⊢; rcases hq with rfl | rfl | rfl <;> simp,W⟩)) ?_
  exact .drop (.keep (cy fun q hq=>by rw [if_pos hq]) (.drop (.drop (.keep Ak .nil))))
end Tor
end
section
namespace Tor
open Go Go.RowKit Go.Proofs
theorem ql {n br:Nat} {bs:List Nat} (h:bs.length<n):Own.le (bX 55 (.agg 2) n (bs ++ [br]) (fun q=>if q<bs.length then (fun k=>bm (idF q k)) else upd (fun _=>one (Value.agg #[Value.bool false,Value.slice none 0 0])) bs.length (bm 1))) (bg n (bs ++ [br]) idF):=jU fun i j hi hj=>by
 rw [List.length_append,List.length_singleton] at hi
 by_cases h:i<bs.length
 ·rw [if_pos h]; exact VT.le_refl _
 ·rw [if_neg h]
  have e:i=bs.length:=by omega
  subst e
  unfold upd idF
  by_cases h2:j=bs.length
  ·subst h2;rw [if_pos Z,if_pos Z]; exact VT.le_refl _
  ·rw [if_neg h2,if_neg (fun e=>h2 e.symm)]; exact iS
attribute [local irreducible] J PJ aQ one slT cA bG bZ exT cE eP aX a8 slV VT.le Ret bS
attribute [local irreducible] bX
theorem qm (n:Nat) (hn:n≤1048576):OkM Tryz.prog 30 [one (.int .i64 n)] (gS n n) (fun s => [bO s.1.2.1 s.1.2.2 n n s.1.1,bg n s.1.1 idF]):=by
 refine OkM.enter Tryz.func30 Z Tryz.ntmps30 Z (fun w O => ?_)
 refine ah (aj ?_)
 refine a7 (T:=29) Z Z Z (fun b2 => ?_)
 refine Ap (aa (ah (aj (Am Z (Am Z (Am Z ?_))))))
 refine cK n n Z Z Z Z (Nat.le_refl _) Z Z S Z Z (fun bo => ?_)
 refine stB Z Z Z (BuildK.cons Z Z Z (BuildK.cons Z Z Z (BuildK.cons Z Z Z (BuildK.nil ?_))))
 refine a7 (T:=29) Z Z Z (fun b3 => ?_)
 refine aW 0 Z Z Z Z (Ap (aa (ah (ah (aj (Am Z (Am Z (Ap (aa ?_)))))))))
 refine ar ?_
 refine iM (ConvM.rows0 (T:=55) (L := .agg 2) (c:=n) (φ:=fun q k=>bm (idF q k)) _) ?_
 refine bV (Γ' := [(0,_),(2,_),(3,_),(10,_),(11,_)]) Ag (SubM.refl _) ?_
 refine bv (σ:=List Nat) (Γk := [(0,_),(2,_),(3,_),(10,_)]) Ag (fun bs => [(11,one (.int .i64 (bs.length:Nat)))]) (fun bs M0=>((M0.set 1 (a8 (some bo) 57 .one n n (fun q=>if q<bs.length then one (slV (some (bs.getD q 0)) n n) else bS))).set 3 (bg n bs idF))) (fun bs=>bs.length≤n) (fun bs=>n - bs.length) ([]) (Nat.zero_le _) Ah (.keep Ak (.keep (eW fun q hq=>by simp only [List.length_nil,Nat.not_lt_zero,if_false]; exact kS _) (.keep Ak (.keep Ak (.nil))))) (fun bs hbs => ?_)
 refine bK (Γ' := [(11,_),(0,_),(2,_),(3,_),(10,_)]) (M' := [_,_,_,_]) Z Z ?_
 by_cases hi:bs.length<n
 ·refine ah (aj (Al (sT S (aS Z Z)) (Ap (aa (ah (az Z (au (aa (ah ?_)))))))))
  refine ar (ah (aj (Am Z (An Z (Ap (aa (ah ?_)))))))
  refine uZ 5 4 n (fun j=>14+j) (fun j=>match j with | 0 => .pointer (some ⟨b3,0+2,none⟩) | 1=>slV (some bo) n n | 2 => .int .i64 (bs.length:Nat) | _ => .int .i64 (n:Nat)) (fun j=>match j with | 1 => [0] | 4 => [3] | _ => [])
   [(0,one (.int .i64 (n:Nat))),(2,one (.pointer (some ⟨b2,0,none⟩))),(3,one (.pointer (some ⟨b3,0,none⟩))),(4,one (.int .i64 (bs.length:Nat))),(10,one (.int .i64 (n:Nat))),(11,one (.int .i64 (bs.length:Nat)))]
   aV X Y Y H Z Aj
   (fun j hj hne => ?_) Z Z Z Z Z S Z (fun br => ?_)
  ·match j,hj,hne with
   | 0, _, _ => exact ⟨_, rfl, fun M' hM' => by rcases hM' with rfl | ⟨b, rfl⟩ <;> exact .plain (ab Z) Z Z (Nat.le_of_ble_eq_true Z)⟩
   | 1, _, _ => exact ⟨_, rfl, fun M' hM' => by
     rcases hM' with rfl | ⟨b,rfl⟩
     ·exact .plain (ak 0 Z Z Z) Z Z (Nat.le_of_ble_eq_true Z)
     ·exact .plain (ak 1 Z Z Z) Z Z (Nat.le_of_ble_eq_true Z)⟩
   | 2, _, _ => exact ⟨_, rfl, fun M' hM' => by rcases hM' with rfl | ⟨b, rfl⟩ <;> exact .plain (ae Z) Z Z (Nat.le_of_ble_eq_true Z)⟩
   | 3, _, _ => exact ⟨_, rfl, fun M' hM' => by rcases hM' with rfl | ⟨b, rfl⟩ <;> exact .plain (ae Z) Z Z (Nat.le_of_ble_eq_true Z)⟩
   | 4, _, h => exact absurd Z h
  refine Al (an Z Z S) ?_
  (refine bD 2 Z Z Z ?_ Z ?_;omega)
  refine Ap (aa (aZ 7 aV X Y (Al (ab Z) (Al (ak 1 Z Z Z) (Am Z (Al (an Z Z S) (Al (aI 2 Z Z S) (Am Z ?_))))))))
  refine Al (am (wQ _ S S) Z ⟨W,Aq⟩) ?_
  refine Ap (iu (t:=24) (ψ:=one (slV (some br) n n)) Z (jt (by unfold upd;rw [if_pos Z])) (Al (an Z Z S) ?_))
  (refine bD 0 Z Z Z ?_ Z ?_;omega)
  refine Ap (aD (aa (aj (Al (bn _ 1 Z Z S) (Am Z (Ap (gv (ConvM.row (k:=3) Z) ?_)))))))
  refine aJ (bs ++ [br]) (by (rw [List.length_append,List.length_singleton]; omega)) (by (rw [List.length_append,List.length_singleton]; omega)) Ah (.keep Ak (.keep (qk) (.keep Ak (.keep (ql hi) (.nil)))))
 ·have hrl:bs.length=n:=by omega
  refine ah (aj (Al (sF S (aS Z Z)) (Ap (aa (ah (aA Z (aU (av (av ?_)))))))))
  refine aC (aa (ah (aj (Al (aL 0 Z Z) (aW 2 Z Z Z Z (Ap (aa (aG ?_))))))))
  subst hrl
  refine iB ⟨(bs,some bo,bs.length),rfl,fun h=>by cases h⟩ Tryz.results30 (.cellW 2 Z Z W) ?_
  exact .drop (.keep (cy fun q hq=>by rw [if_pos hq]) (.drop (.keep Ak .nil)))
end Tor
end
section
set_option linter.unusedSectionVars false
namespace Tor
open Go Go.RowKit
section
variable {P:Program} {E:Env} {ops:Array Oper} {σ:Type}
def MkO (P:Program) (E:Env) (Γ:Ctx) (M:Mem) (o:Oper) (ψ:σ→VT) (Ms:σ→Mem):Prop :=
 ∀ (a:Act) (w:World),Base E M w→(∀ x φ,x∈o.op.operands→aO Γ x=some φ→φ.p (a.eval x) (hv E M w)) →
  ∀ (next:Act→World→Prop) (Q:Exit→Act→World→Prop),
   (∀ s v w',Ext w w'→(∀ q∈Ms s,q.p (raw w') (hid ((E.O ++ bf M) ++ bf (Ms s)) (cC w')))→(bf (Ms s)).Nodup→(∀ b∈bf (Ms s),w.heap.size≤b∧b<w'.heap.size) →
    (ψ s).p v (hid ((E.O ++ bf M) ++ bf (Ms s)) (cC w'))→next (a.put o.dst v) w')→o.wp P a w next Q
theorem ek {Γ:Ctx} {M:Mem} {f:FuncId} [hF:Fn P f] {xs:Array Operand} {ats:Array TypeId} {φs φs':List VT} {ψ:σ→VT} {Ms:σ→Mem} {d:Option Tmp} {ty:TypeId} {pos:String} {af:Array Edge} {gd:Option (Nat × Bool)} (h:OkM P f φs' ψ Ms) (hx:f8 Γ xs.toList=some φs) (hle:gK φs φs') :
  MkO P E Γ M ⟨d, .call ⟨.value (.func f),xs,ats⟩,ty,pos,af,gd⟩ ψ Ms:=by
 intro a w hb hf next Q hn
 have hp:=fN (a:=a) (h:=hv E M w) hx (fun x φ hx' he=>hf x φ (by simp [Op.operands,Call.operands]; exact .inr (by simpa using hx')) he)
 have hcall:=h w _ _ hb.ex (fO hle hp)
 unfold Oper.wp
 have hr:(execOp a.eval ⟨d, .call ⟨.value (.func f),xs,ats⟩,ty,pos,af,gd⟩).run P w = .ok (.enter f (xs.toList.map a.eval).toArray) w:=by
  have h0:a.eval (.func f) = .func (.func f) #[] #[]:=rfl
  have h9:(xs.map a.eval)=(xs.toList.map a.eval).toArray:=by simp [← Array.toList_map]
  simp [execOp,resolve,Deferred.ofValue,invoke,h0,hF.run,h9]
 rw [hr]
 refine Calls.mono hcall ?_
 rintro e w' ⟨s,v,rfl,hv',hext,hmem,hnd,hbl⟩
 exact hn s v w' hext hmem hnd (fun b h=>⟨(hbl b h).1,(hbl b h).2.1⟩) hv'
theorem tF {Γ:Ctx} {M:Mem} {T:TypeId} {m:Nat} {z:Array Value} {pl:List (Nat × Lay)} [hB:BuildOf P T m z pl] {ψ:σ→VT} {Ms:σ→Mem} {d:Option Tmp} {ty:TypeId} {pos:String} {af:Array Edge} {gd:Option (Nat × Bool)} (g:Nat→σ)
  (h1 : ∀ b, ψ (g b)=one (.pointer (some ⟨b,0,none⟩))) (h2 : ∀ b,Ms (g b) = [aX b T m (dw z pl)]) (hz:(pl.all fun q=>(bP q.2 z q.1).isSome)=true) :
  MkO P E Γ M ⟨d, .alloc T,ty,pos,af,gd⟩ ψ Ms:=by
 intro a w hb hf next Q hn
 have hz0:=hB.zero w
 unfold Oper.wp
 have hr:(execOp a.eval ⟨d, .alloc T,ty,pos,af,gd⟩).run P w = .ok (.value (.pointer (some ⟨w.heap.size,0,none⟩))) (w.alloc (.cells z T)):=by
  simp [execOp,Instr.alloc,Sem.run_bind,hz0,newVar,newRow,newObj,Sem.run,Value.cells]
 rw [hr]
 refine hn (g w.heap.size) _ _ (Ext.alloc w _) ?_ ?_ ?_ ?_
 ·rw [h2]; intro q hq
  cases List.mem_singleton.1 hq
  exact ⟨z,cz w _ _ _,hB.zs,hB.zo,jS hz⟩
 ·rw [h2]; simp [bf,aX]
 ·rw [h2]; intro b hb'
  simp [bf,aX] at hb'
  subst hb'
  exact ⟨Nat.le_refl _,fw (cz w _ _ _)⟩
 ·rw [h1]; rfl
inductive OpW (P:Program) (E:Env) (M:Mem) (ops:Array Oper) (mk:List Nat) (ψm:Nat→σ→VT) (Ms:Nat→σ→Mem) (i:Nat) (Γ:(Nat→σ)→Ctx) (o:Oper):((Nat→σ)→Ctx)→Prop
 | pure {d : Nat} {ψ : (Nat → σ) → VT} (ds : List Nat) : mk.elem i = false → (ds.all fun j => gN 6 ops j i) = true → (∀ s s', (∀ j ∈ ds, s j = s' j) → ψ s = ψ s') → (∀ s B, StepG P (E.hide B) (Γ s) M ops o ((d, ψ s) :: Γ s)) → OpW P E M ops mk ψm Ms i Γ o (fun s => (d, ψ s) :: Γ s)
 | make {d : Nat} : mk.elem i = true → o.dst = some d → d < E.N → o.guard = none → (∀ s B, MkO P (E.hide B) (Γ s) M o (ψm i) (Ms i)) → OpW P E M ops mk ψm Ms i Γ o (fun s => (d, ψm i (s i)) :: Γ s)
inductive RunW (P:Program) (E:Env) (M:Mem) (ops:Array Oper) (mk:List Nat) (ψm:Nat→σ→VT) (Ms:Nat→σ→Mem):Nat→((Nat→σ)→Ctx)→List Oper→(((Nat→σ)→Ctx)→Prop)→Prop
 | nil {i Γ K} : K Γ → RunW P E M ops mk ψm Ms i Γ [] K
 | step {i Γ o os K Γ'} : OpW P E M ops mk ψm Ms i Γ o Γ' → RunW P E M ops mk ψm Ms (i + 1) Γ' os K → RunW P E M ops mk ψm Ms i Γ (o :: os) K
theorem RunW.chain {M:Mem} {mk:List Nat} {ψm:Nat→σ→VT} {Ms:Nat→σ→Mem} {i:Nat} {Γ:(Nat→σ)→Ctx} {os:List Oper} {K:((Nat→σ)→Ctx)→Prop} (h:RunW P E M ops mk ψm Ms i Γ os K) :
  ∃ (G:Nat→(Nat→σ)→Ctx),G i=Γ∧K (G (i+os.length)) ∧ ∀ j o,os[j]? = some o→OpW P E M ops mk ψm Ms (i+j) (G (i+j)) o (G (i+j+1)):=by
 induction h with
 | @nil i Γ K hK => exact ⟨fun _ => Γ, rfl, hK, fun j o h => by simp at h⟩
 | @step i Γ o os K Γ' hs _ ih =>
  obtain ⟨G,h0,hK,hG⟩:=ih
  refine ⟨fun j=>if j=i then Γ else G j,by simp,?_,fun j o' hj => ?_⟩
  ·have e1:i+(o :: os).length=i+1+os.length:=by simp only [List.length_cons]; omega
   have e2 : ¬ (i+(o :: os).length=i):=by simp only [List.length_cons]; omega
   simp only [if_neg e2,e1]; rw [e1] at e2;simp only [if_neg e2]; exact hK
  ·cases j with
   | zero =>
    simp only [List.getElem?_cons_zero,Option.some.injEq] at hj;subst hj
    have e : ¬ (i+0+1=i):=by omega
    simp only [Nat.add_zero,if_true] at e ⊢; rw [if_neg e,h0]; exact hs
   | succ j =>
    simp only [List.getElem?_cons_succ] at hj
    have:=hG j o' hj
    have e1 : ¬ (i+(j+1)=i):=by omega
    have e2 : ¬ (i+(j+1)+1=i):=by omega
    simp only [if_neg e1,if_neg e2]
    rw [show i+(j+1)=i+1+j by omega]; exact this
theorem OpW.dst {M:Mem} {mk:List Nat} {ψm:Nat→σ→VT} {Ms:Nat→σ→Mem} {i:Nat} {Γ Γ':(Nat→σ)→Ctx} {o:Oper} (h:OpW P E M ops mk ψm Ms i Γ o Γ') (s0:Nat→σ) : ∃ (d:Nat) (ψ:(Nat→σ)→VT),o.dst=some d∧d<E.N ∧ ∀ s, Γ' s=(d, ψ s) :: Γ s:=by
 cases h with
 | @pure d ψ ds _ _ _ hs =>
  obtain ⟨d', ψ',h1,h2,h3⟩:=(hs s0 []).dst'
  simp only [List.cons.injEq,Prod.mk.injEq,and_true] at h3
  exact ⟨d, ψ,by rw [h1,h3.1],by rw [h3.1]; exact h2,fun s=>rfl⟩
 | @make d _ h1 h2 _ _ => exact ⟨d, fun s => ψm i (s i), h1, h2, fun s => rfl⟩
section
variable {M:Mem} {mk:List Nat} {ψm:Nat→σ→VT} {Ms:Nat→σ→Mem} {G:Nat→(Nat→σ)→Ctx} {n:Nat}
theorem rg (hG : ∀ j o,j<n→ops[j]? = some o→OpW P E M ops mk ψm Ms j (G j) o (G (j+1))) (s:Nat→σ) {t j:Nat} {o:Oper} (hj:j<n) (ho:ops[j]? = some o) (hno:dstOf ops j≠some t):bJ (G (j+1) s) t=bJ (G j s) t:=by
 obtain ⟨d, ψ,hd,_,hΓ⟩:=(hG j o hj ho).dst s
 rw [hΓ,bq,if_neg]
 intro e;subst e;exact hno (by simp [dstOf,ho,hd])
theorem gJ (hG : ∀ j o,j<n→ops[j]? = some o→OpW P E M ops mk ψm Ms j (G j) o (G (j+1))) (hn:n≤ops.size) (s:Nat→σ) {t i k:Nat} (hik:i≤k) (hk:k≤n)
    (hno : ∀ j,i≤j→j<k→dstOf ops j≠some t):bJ (G k s) t=bJ (G i s) t:=by
  induction k with
  | zero => have : i = 0 := by omega
            subst this;rfl
  | succ k ih =>
    by_cases e:i=k+1
    · subst e;rfl
    · have ho:ops[k]? = some ops[k]:=by simp [show k<ops.size by omega]
      rw [rg hG s S ho (hno k S S)]
      exact ih S S (fun j h1 h2=>hno j h1 S)
theorem u3 (hG : ∀ j o,j<n→ops[j]? = some o→OpW P E M ops mk ψm Ms j (G j) o (G (j+1))) (hn:n≤ops.size) {s s':Nat→σ} (h0:G 0 s=G 0 s') {l:Array Bool} (hl:Lst ops l) (hs : ∀ j,l.getD j false=true→s j=s' j) :
  ∀ k,k≤n → ∀ t,(∀ j,j<k→dstOf ops j=some t→l.getD j false=true)→bJ (G k s) t=bJ (G k s') t
 | 0, _, t, _ => by rw [h0]
 | k + 1, hk, t, hw => by
  have ho:ops[k]? = some ops[k]:=by simp [show k<ops.size by omega]
  have ih:=u3 hG hn h0 hl hs k S t (fun j hj=>hw j S)
  have hop:=hG k _ S ho
  obtain ⟨d, ψ,hd,_,hΓ⟩:=hop.dst s
  have hdk:dstOf ops k=some d:=by simp [dstOf,ho,hd]
  rw [hΓ s,hΓ s',bq,bq]
  by_cases e:d=t
  ·rw [if_pos e,if_pos e]
   have hlk:=hw k S (by rw [hdk,e])
   generalize hX:G (k+1)=Ac at hop hΓ
   generalize hY:G k=Ad at hop hΓ
   cases hop with
   | @pure d' ψ' ds hb hp hψ hst =>
    have e1:=hΓ s
    have e2:=hΓ s'
    simp only [List.cons.injEq,Prod.mk.injEq,and_true] at e1 e2
    rw [← e1.2, ← e2.2,hψ s s' (fun j hj=>hs j (kI hl 6 k hlk j (by have:=List.all_eq_true.1 hp j hj;exact this)))]
   | make hb h1 h2 h3 h4 =>
    have e1:=hΓ s
    have e2:=hΓ s'
    simp only [List.cons.injEq,Prod.mk.injEq,and_true] at e1 e2
    rw [← e1.2, ← e2.2,hs k hlk]
  ·rw [if_neg e,if_neg e]; exact ih
end
theorem qn {fq n:Nat} {E':Env} {G G':Nat→Ctx} {M:Mem} {l:Array Bool} {a:Act} {w w':World} {i d:Nat} {v:Value} (hok:em fq n ops=true) (hl:Lst ops l) (hd:d<a.tmps.size) (hi1:i<ops.size) (hi2:l.getD i false=false) (hdi:dstOf ops i=some d)
  (hbt : ∀ k t,i+1≤k→k≤n→(∀ j,i+1≤j→j<k→dstOf ops j≠some t)→bJ (G' k) t=bJ (G' (i+1)) t) (hself : ∀ φ,bJ (G' (i+1)) d=some φ→φ.p v (hv E' M w'))
  (hag : ∀ k,k≤n → ∀ t,(∀ j,j<k→dstOf ops j=some t→l.getD j false=true)→bJ (G' k) t=bJ (G k) t) (hle:Hp.le (hv E M w) (hv E' M w')) (hI:Inv E ops n G M l a w) :
  Inv E' ops n G' M (l.setIfInBounds i true) (a.put (some d) v) w':=by
 have hn:n≤ops.size:=by simp only [em,Bool.and_eq_true] at hok;exact of_decide_eq_true hok.1
 have hls:=hl.size
 have hsame : ∀ j,j≠i→(l.setIfInBounds i true).getD j false=l.getD j false:=fun j hj=>by rw [bw S,if_neg (fun e=>hj e.symm)]
 have hself':(l.setIfInBounds i true).getD i false=true:=by rw [bw S,if_pos Z]
 intro k' hk' t φ hlk hlo hhi
 by_cases htd:d=t
 ·subst htd
  have hik:i<k':=by
   rcases Nat.lt_or_ge i k' with h' | h'
   ·exact h'
   ·have:=hhi i h' hi1 hdi;rw [hself'] at this;cases this
  have hno : ∀ j,i+1≤j→j<k'→dstOf ops j≠some d:=by
   intro j h1 h2 hdj
   have h3:=hlo j h2 hdj
   rw [hsame j S] at h3
   rcases dj hok (i:=i) (j:=j) S S with hp | ⟨_,hp⟩
   ·have:=kI hl _ j h3 i hp;rw [this] at hi2;cases hi2
   ·rw [fc hdi hdj] at hp;cases hp
  rw [hbt k' d S hk' hno] at hlk
  rw [ce hd]; exact hself φ hlk
 ·rw [cd htd]
  have hlo' : ∀ j,j<k'→dstOf ops j=some t→l.getD j false=true:=fun j hj hdj=>by
   have hji:j≠i:=fun e=>by subst e;rw [hdi] at hdj;cases hdj;exact htd Z
   have:=hlo j hj hdj;rwa [hsame j hji] at this
  rw [hag k' hk' t hlo'] at hlk
  refine φ.mono hle (hI k' hk' t φ hlk hlo' (fun j hj hjs hdj => ?_))
  have hji:j≠i:=fun e=>by subst e;rw [hdi] at hdj;cases hdj;exact htd Z
  have:=hhi j hj hjs hdj;rwa [hsame j hji] at this
theorem rh {fq n:Nat} {G:Nat→Ctx} {M:Mem} {l:Array Bool} {a:Act} {w:World} (hI:Inv E ops n G M l a w) (hok:em fq n ops=true) (hl:Lst ops l)
  {i:Nat} {o:Oper} (hin:i<n) (ho:ops[i]? = some o) (hi2:l.getD i false=false) (hi:i∈Region.ready .any ops l) :
  ∀ t φ,t∈iG ops o→bJ (G i) t=some φ→φ.p (a.tmps.getD t undef) (hv E M w):=by
 have hi1:=cW hi
 intro t φ ht hlk
 refine hI i S t φ hlk (fun j hj hdj => ?_) (fun j hj hjs hdj => ?_)
 ·rcases dj hok hj hi1 with hp | ⟨_,hp⟩
  ·exact pw hl hi hp
  ·rw [eE hdj (by simpa [dD,ho] using ht)] at hp;cases hp
 ·rcases Nat.lt_or_ge i j with h' | h'
  ·rw [← Bool.not_eq_true]; intro hlj
   rcases dj hok h' hjs with hp | ⟨_,hp⟩
   ·have:=kI hl _ j hlj i hp;rw [this] at hi2;cases hi2
   ·rw [el hdj (by simpa [dD,ho] using ht)] at hp;cases hp
  ·have:j=i:=by omega
   subst this;exact hi2
theorem ri {fq n:Nat} (hok:em fq n ops=true) {Q:Exit→Act→World→Prop} (Iv:Array Bool→Act→World→Prop)
  (hstep : ∀ l a w i,Iv l a w→Lst ops l→i<n→l.getD i false=false→i∈Region.ready .any ops l→wpOp P ops Q i (fun a' w'=>Iv (l.setIfInBounds i true) a' w') a w)
  (htail : ∀ l a w,Iv l a w→Lst ops l→(∀ j,j<ops.size→(l.getD j false=true↔j<n))→wpOps P ops Q (List.range' n (ops.size - n)) a w) :
  ∀ (fuel:Nat) (l:Array Bool) (a:Act) (w:World),Lst ops l→left ops l≤fuel→Iv l a w→(∃ i,i<n∧l.getD i false=false)→wpAny P .any ops Q fuel l a w:=by
 have hn:n≤ops.size:=by simp only [em,Bool.and_eq_true] at hok;exact of_decide_eq_true hok.1
 have tail : ∀ (m:Nat) (fuel:Nat) (l:Array Bool) (k:Nat) (a:Act) (w:World),k+m=ops.size→n≤k→Lst ops l→(∀ j,j<ops.size→(l.getD j false=true↔j<k))→m≤fuel →
   wpOps P ops Q (List.range' k m) a w→wpAny P .any ops Q fuel l a w:=by
  intro m
  induction m with
  | zero =>
   intro fuel l k a w hkm hnk hl hiff _ h
   have hr:Region.ready .any ops l = []:=by
    rw [List.eq_nil_iff_forall_not_mem]
    intro j hj
    have h1:=cW hj
    have h2:=(mem_ready.1 hj).1
    have h3:=(hiff j h1).2 S
    rw [dG (by have:=hl.size;omega) true false,h3] at h2;cases h2
   have hq:Q .normal a w:=by simpa [wpOps] using h
   cases fuel with
   | zero => exact ⟨hr, hq⟩
   | succ f => exact ⟨fun _ => hq, fun i hi => by rw [hr] at hi; cases hi⟩
  | succ m ih =>
   intro fuel l k a w hkm hnk hl hiff hf h
   obtain ⟨f,rfl⟩ : ∃ f,fuel=f+1:=⟨fuel - 1,by omega⟩
   have hsz:=hl.size
   have hkl:l.getD k false=false:=by
    rw [← Bool.not_eq_true]; intro h';have:=(hiff k S).1 h';omega
   refine ⟨fun hr => ?_,fun i hi => ?_⟩
   ·obtain ⟨i,hi⟩:=i6 hok hsz (j:=k) S hkl
    rw [hr] at hi;cases hi
   ·have hi1:=cW hi
    have hi2:=(mem_ready.1 hi).1
    rw [dG S true false] at hi2
    have hik:k≤i:=by
     rcases Nat.lt_or_ge i k with h' | h'
     ·rw [(hiff i hi1).2 h'] at hi2;cases hi2
     ·exact h'
    have:i=k:=by
     rcases Nat.lt_or_ge k i with h' | h'
     ·rcases dj hok h' hi1 with hp | ⟨hp,_⟩
      ·have:=pw hl hi hp;rw [this] at hkl;cases hkl
      ·omega
     ·omega
    subst this
    rw [List.range'_succ,wpOps_cons] at h
    refine wpOp_mono (fun a' w' h' => ?_) h
    refine ih f _ (i+1) a' w' S S ⟨by simpa using hsz,?_⟩ ?_ S h'
    ·intro j hj i' hp
     rw [bw S] at hj ⊢
     split
     ·rfl
     ·split at hj
      ·rename_i h1;subst h1;exact cr hi hp
      ·exact hl.closed j hj i' hp
    ·intro j hj
     rw [bw S]
     split
     ·rename_i h1;subst h1;simp
     ·rename_i h1;rw [hiff j hj]; omega
 intro fuel
 induction fuel with
 | zero =>
  intro l a w hl hleft _ ⟨i,hi,hil⟩
  have:=d9 (ops:=ops) hl.size (i:=i) S hil
  omega
 | succ fuel ih =>
  intro l a w hl hleft hI ⟨i0,hi0,hil0⟩
  have hls:=hl.size
  refine ⟨fun hr => ?_,fun i hi => ?_⟩
  ·obtain ⟨i,hi⟩:=i6 hok hls (j:=i0) S hil0
   rw [hr] at hi;cases hi
  ·have hi1:=cW hi
   have hi2:l.getD i false=false:=by
    have:=(mem_ready.1 hi).1
    rw [dG S true false] at this;exact this
   have hin:i<n:=by
    rcases Nat.lt_or_ge i n with h' | h'
    ·exact h'
    ·rcases dj hok (i:=i0) (j:=i) S hi1 with hp | ⟨hp,_⟩
     ·have:=pw hl hi hp;rw [this] at hil0;cases hil0
     ·omega
   refine wpOp_mono (fun a' w' h' => ?_) (hstep l a w i hI hl hin hi2 hi)
   have hl':Lst ops (l.setIfInBounds i true):=by
    refine ⟨by simpa using hls,fun j hj i' hp => ?_⟩
    rw [bw S] at hj ⊢
    split
    ·rfl
    ·split at hj
     ·rename_i h1;subst h1;exact cr hi hp
     ·exact hl.closed j hj i' hp
   have hleft':=d9 (ops:=ops) hls hi1 hi2
   by_cases hmore : ∃ i',i'<n∧(l.setIfInBounds i true).getD i' false=false
   ·exact ih _ _ _ hl' S h' hmore
   ·have hall : ∀ j,j<n→(l.setIfInBounds i true).getD j false=true:=by
     intro j hj;rw [← Bool.not_eq_false]; intro h;exact hmore ⟨j,hj,h⟩
    have hlate : ∀ j,n≤j→j<ops.size→(l.setIfInBounds i true).getD j false=false:=by
     intro j hj hjs
     rw [bw S,if_neg S, ← Bool.not_eq_true]
     intro hlj
     rcases dj hok (i:=i) (j:=j) S hjs with hp | ⟨hp,_⟩
     ·have:=kI hl _ j hlj i hp;rw [this] at hi2;cases hi2
     ·omega
    have hiff : ∀ j,j<ops.size→((l.setIfInBounds i true).getD j false=true↔j<n):=fun j hj=>by
     constructor
     ·intro h;rcases Nat.lt_or_ge j n with h' | h'
      ·exact h'
      ·rw [hlate j h' hj] at h;cases h
     ·exact hall j
    refine tail (ops.size - n) fuel _ n _ w' S (Nat.le_refl _) hl' hiff ?_ (htail _ _ _ h' hl' hiff)
    have:ops.size - n≤left ops (l.setIfInBounds i true):=by
     unfold left
     have h1:(List.range' n (ops.size - n)).Sublist ((List.range ops.size).filter fun i' => !(l.setIfInBounds i true).getD i' false):=by
      have h2:((List.range' n (ops.size - n)).filter fun i' => !(l.setIfInBounds i true).getD i' false)=List.range' n (ops.size - n):=by
       rw [List.filter_eq_self]
       intro j hj;rw [List.mem_range'_1] at hj
       rw [hlate j S S]; rfl
      rw [← h2]
      refine List.Sublist.filter _ ?_
      have h3:List.range ops.size=List.range' 0 n ++ List.range' n (ops.size - n):=by
       have := @List.range'_append 0 n (ops.size - n) 1
       rw [List.range_eq_range']
       simp only [Nat.one_mul,Nat.zero_add] at this
       rw [this]; congr 1;omega
      rw [h3]; exact List.sublist_append_right _ _
     have:=h1.length_le;simpa using this
    omega
def gp (Ms:Nat→σ→Mem) (s:Nat→σ) (ord:List Nat):Mem:=ord.flatMap fun j=>Ms j (s j)
theorem kZ {Ms:Nat→σ→Mem} {s:Nat→σ} {j:Nat} {ord:List Nat} : gp Ms s (j :: ord)=Ms j (s j) ++ gp Ms s ord:=rfl
theorem mI {Ms:Nat→σ→Mem} {s s':Nat→σ} : ∀ {ord:List Nat},(∀ j∈ord,s j=s' j)→gp Ms s ord=gp Ms s' ord
 | [], _ => rfl
 | j :: ord, h => by rw [kZ, kZ, h j List.mem_cons_self, mI (fun k hk => h k (List.mem_cons_of_mem _ hk))]
structure IvW (E:Env) (D:List Deferred) (M:Mem) (ops:Array Oper) (n:Nat) (mk:List Nat) (Ms:Nat→σ→Mem) (G:Nat→(Nat→σ)→Ctx) (s:Nat→σ) (ord:List Nat) (l:Array Bool) (a:Act) (w:World):Prop where
 sz:a.tmps.size=E.N
 df:a.defers=D
 nd:ord.Nodup
 mem : ∀ j,j∈ord↔(j∈mk∧l.getD j false=true)
 base:Base E (gp Ms s ord ++ M) w
 inv:Inv (E.hide (bf (gp Ms s ord))) ops n (fun k=>G k s) M l a w
theorem oU {D:List Deferred} {Γ:Ctx} {M:Mem} {id:Nat} {Q:Exit→Act→World→Prop} (fq n:Nat) (mk:List Nat) (s0:σ) (ψm:Nat→σ→VT) (Ms:Nat→σ→Mem) (hm:P.follows .mixedOrders=true) (hok:em fq n ops=true) (hn0:0<n) (hmk:(mk.all fun j=>decide (j<n))=true) (hmd:mk.Nodup)
  (h:RunW P E M ops mk ψm Ms 0 (fun _=>Γ) (ops.toList.take n) (fun Γ' => ∀ s,Run P E ops false n D (Γ' s) (gp Ms s mk ++ M) (ops.toList.drop n) (fun D' Γ' M'=>PJ E D' Γ' M' .normal Q))):J P E D Γ M (.region id ops true) Q:=by
 intro a w hS
 have hn:n≤ops.size:=by simp only [em,Bool.and_eq_true] at hok;exact of_decide_eq_true hok.1
 refine dX hm ?_
 have k0:Ext w { w with drawn:=w.drawn+1 } := ⟨rfl,rfl,rfl,Nat.le_refl _,fun _ _=>rfl⟩
 obtain ⟨G,hG0,hK,hG'⟩:=h.chain
 have hlen:(ops.toList.take n).length=n:=by simp [hn]
 rw [hlen,Nat.zero_add] at hK
 have hG : ∀ j o,j<n→ops[j]? = some o→OpW P E M ops mk ψm Ms j (G j) o (G (j+1)):=fun j o hj ho=>by
  have:=hG' j o (by rw [List.getElem?_take,if_pos hj]; simpa using ho)
  simpa using this
 have hl0 : ∀ j,(Array.replicate ops.size false).getD j false=false:=fun j=>by
  simp [Array.getD_eq_getD_getElem?,Array.getElem?_replicate]; split <;> rfl
 refine ri hok (fun l a' w' => ∃ s ord,IvW E D M ops n mk Ms G s ord l a' w') ?_ ?_ ops.size _ a _ ⟨by simp,fun j hj => ?_⟩ ?_ ⟨fun _=>s0, [],hS.sz,hS.df,List.nodup_nil,fun j => ?_,?_,?_⟩ ⟨0,hn0,hl0 0⟩
 ·rintro l a' w' i ⟨s,ord,hI⟩ hl hin hi2 hi
  have hi1:=cW hi
  have hls:=hl.size
  have ho:ops[i]? = some ops[i]:=by simp [hi1]
  have hsame : ∀ j,j≠i→(l.setIfInBounds i true).getD j false=l.getD j false:=fun j hj=>by rw [bw S,if_neg (fun e=>hj e.symm)]
  have hself:(l.setIfInBounds i true).getD i false=true:=by rw [bw S,if_pos Z]
  have hnm:=rh hI.inv hok hl hin ho hi2 hi
  generalize hX:G (i+1)=Ac
  generalize hY:G i=Ad at hnm
  have hop:=hG i _ hin ho
  have hX2:=hX
  rw [hX,hY] at hop
  cases hop with
  | @pure d ψ ds hb hp hψ hst =>
   obtain ⟨d', ψ',hd,hN,hΓ,hrun⟩:=(hst s (bf (gp Ms s ord))).run ho
   simp only [List.cons.injEq,Prod.mk.injEq,and_true] at hΓ
   obtain ⟨e1,e2⟩:=hΓ
   subst e1 e2
   have hdi:dstOf ops i=some d:=by simp [dstOf,ho,hd]
   refine hrun a' w' hI.base.swap hnm _ _ fun v w'' k hv'=>⟨s,ord,by simp [Act.put,hI.sz],hI.df,hI.nd,fun j => ?_,hI.base.ext k,?_⟩
   ·rw [hI.mem j]
    by_cases e:j=i
    ·subst e
     constructor
     ·rintro ⟨_,h2⟩;rw [h2] at hi2;cases hi2
     ·rintro ⟨h1,_⟩;rw [List.elem_eq_true_of_mem h1] at hb;cases hb
    ·rw [hsame j e]
   ·refine qn (G:=fun k=>G k s) hok hl (by rw [hI.sz]; exact hN) hi1 hi2 hdi (fun k t h1 h2 h3=>gJ hG hn s h1 h2 h3) (fun φ hlk => ?_) (fun _ _ _ _=>rfl) (Base.hv_ext k) hI.inv
    have hlk:bJ (G (i+1) s) d=some φ:=hlk
    rw [hX2,bq,if_pos Z] at hlk
    cases hlk;exact hv'
  | @make d hb hd hN hg hmkO =>
   have hdi:dstOf ops i=some d:=by simp [dstOf,ho,hd]
   have hB:=hI.base.swap
   have hpo : ∀ x φ,x∈(ops[i]).op.operands→aO (Ad s) x=some φ→φ.p (a'.eval x) (hv (E.hide (bf (gp Ms s ord))) M w'):=fun x φ hx he=>by
    cases x with
    | tmp t => exact hnm t φ (List.mem_append.2 (.inl (List.mem_filterMap.2 ⟨.tmp t, by simpa using hx, rfl⟩))) he
    | const v => cases he; rfl
    | global g => cases he; rfl
    | func f => cases he; rfl
   simp only [wpOp,ho,c7 (o:=ops[i]) hg,if_true]
   refine .inl (hmkO s (bf (gp Ms s ord)) a' w' hB hpo _ _ fun x v w'' hext hmem hnd hbl hv' => ?_)
   have hni:i ∉ ord:=fun h=>by rw [((hI.mem i).1 h).2] at hi2;cases hi2
   have hs' : ∀ j∈ord,s j=(fun j=>if j=i then x else s j) j:=fun j hj=>by
    have:j≠i:=fun e=>hni (e▸hj)
    simp [this]
   have hcg:=mI (Ms:=Ms) hs'
   have hS0:St E D [] (gp Ms s ord ++ M) a' w':=⟨hI.base,hI.sz,hI.df,fun t φ h=>by cases h⟩
   have ehid : ∀ Af:World,hid (((E.hide (bf (gp Ms s ord))).O ++ bf M) ++ bf (Ms i x)) (cC Af)=hid ((E.O ++ bf (gp Ms s ord ++ M)) ++ bf (Ms i x)) (cC Af):=fun Af=>by
    unfold Env.hide;rw [bt, ← List.append_assoc]
   have hS1:=hS0.take hext (fun q hq=>by rw [← ehid]; exact hmem q hq) hnd hbl hN (by rw [← ehid]; exact hv')
   rw [hd]
   have e5:gp Ms (fun j=>if j=i then x else s j) (i :: ord)=Ms i x ++ gp Ms s ord:=by
    rw [kZ, ← hcg]; simp
   refine ⟨fun j=>if j=i then x else s j,i :: ord,by simp [Act.put,hI.sz],hI.df,List.nodup_cons.2 ⟨hni,hI.nd⟩,fun j => ?_,?_,?_⟩
   ·rw [List.mem_cons,hI.mem j]
    by_cases e:j=i
    ·subst e
     exact ⟨fun _=>⟨by simpa using hb,hself⟩,fun _ => .inl Z⟩
    ·rw [hsame j e]
     exact ⟨fun h=>h.resolve_left e, .inr⟩
   ·rw [e5,List.append_assoc]; exact hS1.base
   ·rw [e5]
    have hle2:Hp.le (hv (E.hide (bf (gp Ms s ord))) M w') (hv (E.hide (bf (Ms i x ++ gp Ms s ord))) M w''):=by
     rw [gw,gw]
     intro b y e
     obtain ⟨g1,g2⟩:=fB e
     refine iF ?_ (hext.view _ _ g2)
     intro h
     have hlt:=fw g2
     rw [List.append_assoc,bt] at h
     rcases List.mem_append.1 h with h | h
     ·exact g1 (List.mem_append.2 (.inl h))
     ·rcases List.mem_append.1 h with h | h
      ·have:=(hbl b h).1;omega
      ·exact g1 (List.mem_append.2 (.inr h))
    refine qn (G:=fun k=>G k s) hok hl (by rw [hI.sz]; exact hN) hi1 hi2 hdi (fun k t h1 h2 h3=>gJ hG hn _ h1 h2 h3) (fun φ hlk => ?_) (fun k hk t hw=>u3 hG hn (by rw [hG0]) hl (fun j hj => ?_) k hk t hw) hle2 hI.inv
    ·have hlk:bJ (G (i+1) (fun j=>if j=i then x else s j)) d=some φ:=hlk
     rw [hX2,bq,if_pos Z] at hlk
     cases hlk
     have:=hS1.tm d (ψm i x) (by rw [bq,if_pos Z])
     rw [ce (by rw [hI.sz]; exact hN)] at this
     rw [gw,List.append_assoc]
     simpa using this
    ·have:j≠i:=fun e=>by rw [e,hi2] at hj;cases hj
     simp [this]
 ·rintro l a' w' ⟨s,ord,hI⟩ hl hiff
  have hpm:ord.Perm mk:=(List.perm_ext_iff_of_nodup hI.nd hmd).2 fun j=>by
   rw [hI.mem j]
   refine ⟨fun h=>h.1,fun h=>⟨h,?_⟩⟩
   have hj:j<n:=of_decide_eq_true (List.all_eq_true.1 hmk j h)
   exact (hiff j S).2 hj
  have hpM:(gp Ms s ord ++ M).Perm (gp Ms s mk ++ M):=(hpm.flatMap_right _).append_right M
  have hSt:St E D (G n s) (gp Ms s ord ++ M) a' w':=⟨hI.base,hI.sz,hI.df,fun t φ hlk=>by
   have:=hI.inv n (Nat.le_refl _) t φ hlk (fun j hj _=>(hiff j S).2 hj) (fun j hj hjs _=>by
    rw [← Bool.not_eq_true]; intro h;have:=(hiff j hjs).1 h;omega)
   rwa [gw] at this⟩
  have:=(hK s).seq (nrm Q) [] (fun j _=>by simp [List.getElem?_drop]) (fun D' Γ' M' a w hK hS=>by simpa [wpOps] using hK a w hS) a' w' (ib hpM hSt)
  simpa using this
 ·rw [hl0] at hj;cases hj
 ·unfold left;refine Nat.le_trans (List.length_filter_le _ _) (by simp)
 ·simp [hl0]
 ·exact hS.base.ext k0
 ·have e0:E.hide (bf (gp Ms (fun _=>s0) []))=E:=by cases E;simp [Env.hide,gp,bf]
  rw [e0]
  intro k' hk' t φ hlk hlo _
  have hno : ∀ j,0≤j→j<k'→dstOf ops j≠some t:=by
   intro j _ hj hd
   have:=hlo j hj hd
   rw [hl0] at this;cases this
  have hlk:bJ (G k' (fun _=>s0)) t=some φ:=hlk
  rw [gJ hG hn (fun _=>s0) (Nat.zero_le _) hk' hno,hG0] at hlk
  exact φ.mono (Base.hv_ext k0) (hS.tm t φ hlk)
section
variable {M:Mem} {mk:List Nat} {ψm:Nat→σ→VT} {Ms:Nat→σ→Mem} {i:Nat} {Γ:(Nat→σ)→Ctx} {os:List Oper} {K:((Nat→σ)→Ctx)→Prop} {op:Op} {ty:TypeId} {pos:String} {af:Array Edge}
theorem kx {d:Nat} {ψ:VT} (hi:mk.elem i=false) (h : ∀ s B,aQ P (E.hide B) (Γ s) M ⟨some d,op,ty,pos,af,none⟩ ψ) (hd:Nat.ble (d+1) E.N=true) (hr:RunW P E M ops mk ψm Ms (i+1) (fun s=>(d, ψ) :: Γ s) os K) :
  RunW P E M ops mk ψm Ms i Γ (⟨some d,op,ty,pos,af,none⟩ :: os) K := .step (.pure (ψ:=fun _=>ψ) [] hi Z (fun _ _ _=>rfl) (fun s B => .plain (h s B) Z Z (Nat.le_of_ble_eq_true hd))) hr
theorem kd {d:Nat} {ψ:(Nat→σ)→VT} (ds:List Nat) (hi:mk.elem i=false) (hp:(ds.all fun j=>gN 6 ops j i)=true) (hψ : ∀ s s',(∀ j∈ds,s j=s' j)→ψ s=ψ s') (h : ∀ s B,aQ P (E.hide B) (Γ s) M ⟨some d,op,ty,pos,af,none⟩ (ψ s)) (hd:Nat.ble (d+1) E.N=true) (hr:RunW P E M ops mk ψm Ms (i+1) (fun s=>(d, ψ s) :: Γ s) os K) :
  RunW P E M ops mk ψm Ms i Γ (⟨some d,op,ty,pos,af,none⟩ :: os) K := .step (.pure ds hi hp hψ (fun s B => .plain (h s B) Z Z (Nat.le_of_ble_eq_true hd))) hr
theorem kc {d:Nat} (hi:mk.elem i=true) (h : ∀ s B,MkO P (E.hide B) (Γ s) M ⟨some d,op,ty,pos,af,none⟩ (ψm i) (Ms i)) (hd:Nat.ble (d+1) E.N=true)
  (hr:RunW P E M ops mk ψm Ms (i+1) (fun s=>(d, ψm i (s i)) :: Γ s) os K):RunW P E M ops mk ψm Ms i Γ (⟨some d,op,ty,pos,af,none⟩ :: os) K := .step (.make hi Z (Nat.le_of_ble_eq_true hd) Z h) hr
end
end
end Tor
end
section
set_option linter.unusedSectionVars false
namespace Tor
open Go Go.RowKit
theorem ConvM.cons {a:Own} {A B:Mem} (h:ConvM A B):ConvM (a :: A) (a :: B):=⟨h.pm.append_left _,fun g k Ae o ho=>by
 rcases List.mem_cons.1 ho with rfl | ho
 ·exact Ae _ List.mem_cons_self
 ·exact h.mem g k (fun o ho=>Ae o (List.mem_cons_of_mem _ ho)) o ho⟩
theorem ConvM.le {a b:Own} {M:Mem} (h:Own.le a b):ConvM (a :: M) (b :: M):=⟨by show (a.bl ++ bf M).Perm (b.bl ++ bf M);rw [h.1],fun g k Ae o ho=>by
 rcases List.mem_cons.1 ho with rfl | ho
 ·exact h.2 _ _ (Ae _ List.mem_cons_self)
 ·exact Ae o (List.mem_cons_of_mem _ ho)⟩
section
variable {P:Program} {E:Env} {D:List Deferred} {Γ:Ctx} {M:Mem} {Q:Exit→Act→World→Prop}
variable {i:Nat} {ty:TypeId} {pos:String} {af:Array Edge} {d:Option Tmp} {gd:Option (Nat × Bool)}
theorem kt {e:Exit} {i:Nat} {o:Own} {F:Prop} (hM:M[i]? = some o) (hF : ∀ g h,o.p g h→F) (h:F→PJ E D Γ M e Q):PJ E D Γ M e Q :=
 fun a w hS=>h (hF _ _ (hS.base.mem o (List.mem_of_getElem? hM))) a w hS
end
end Tor
end
section
namespace Tor
open Go Go.RowKit Go.Proofs
def ef (F:Prop):Own:=⟨[],fun _ _=>F,fun _ _ h=>h⟩
abbrev S3:=List Nat × Option Nat × Nat
def ok3 (r:Nat) (s:S3):Prop:=s.1.length=r∧(s.2.1=none→r=0)
def bF (r c:Nat) (s:S3):VT:=bG 3 [(0, .one,one (.int .i64 r)),(1, .one,one (.int .i64 c)),(2, .one,one (slV s.2.1 r s.2.2))]
instance {r c:Nat} {s:S3} : Flat (bF r c s) (.agg 3):=by unfold bF;infer_instance
def iW (r c:Nat) (s:S3) (F:Nat→Nat→Int):Mem := [ef (ok3 r s),bO s.2.1 s.2.2 r c s.1,bg c s.1 F]
theorem ji (n:Nat) (is:List Nat) {L L':Mem} (h:is.isPerm (List.range n)=true) (hn:L.length=n) (h2:is.map (fun i=>L.getD i (ef True))=L'):L.Perm L':=by
 subst hn
 have h1:=(List.isPerm_iff.1 h).map fun i=>L.getD i (ef True)
 rw [h2] at h1
 have e:(List.range L.length).map (fun i=>L.getD i (ef True))=L:=by
  refine List.ext_getElem (by simp) fun i h1 h2 => ?_
  simp [List.getD,h2]
 rw [e] at h1
 exact h1.symm
theorem bE {α:Type} {l:List α} {x:α} (i:Nat) (h:l[i]? = some x):x∈l:=List.mem_of_getElem? h
theorem fa {P:Program} {f:FuncId} {φs:List VT} {r c:Nat} {F:Nat→Nat→Int} (h:OkM P f φs (gS r c) (fun s => [bO s.1.2.1 s.1.2.2 r c s.1.1,bg c s.1.1 F])):OkM P f φs (bF r c) (fun s=>iW r c s F) :=
 fun w O vs hO hv=>Calls.mono (h w O vs hO hv) (by
  rintro e w' ⟨s,v,rfl,hv',hext,hmem,hnd,hb⟩
  refine ⟨s.1,v,rfl,hv',hext,fun o ho => ?_,hnd,hb⟩
  rcases List.mem_cons.1 ho with rfl | ho
  ·exact s.2
  ·exact hmem o ho)
theorem da {Ms:Mem} {r c:Nat} {s:S3} {F:Nat→Nat→Int} (hs:s.1.length=r) (h1:bO s.2.1 s.2.2 r c s.1∈Ms) (h2:bg c s.1 F∈Ms):Ent Ms (bF r c s) (bp r c F):=by
 refine Ent.agg (.cons List.mem_cons_self (Ent.refl _) (.cons (List.mem_cons_of_mem _ List.mem_cons_self) (Ent.refl _) (.cons (List.mem_cons_of_mem _ (List.mem_cons_of_mem _ List.mem_cons_self)) ?_ .nil)))
 refine Ent.slE h1 fun q hq => ?_
 have hq':q<s.1.length:=by omega
 have:=Ent.row (i:=q) (b:=s.1.getD q 0) h2 (by simp [List.getD,hq'])
 unfold cX
 simpa using this
theorem mJ {Ms:Mem} {a a' m m' u u' v v':VT} {row col:Int} {d:VT} (ha:Ent Ms a a') (hm:Ent Ms m m') (hu:Ent Ms u u') (hv:Ent Ms v v'):n7 Ms (kX a m u v row col d) (kX a' m' u' v' row col d) :=
 .cons (bE 0 Z) ha (.cons (bE 1 Z) hm (.cons (bE 2 Z) hu (.cons (bE 3 Z) hv (.cons (bE 4 Z) (Ent.refl _) (.cons (bE 5 Z) (Ent.refl _) (.cons (bE 6 Z) (Ent.refl _) .nil))))))
attribute [local irreducible] J PJ aQ one slT cA bG bZ exT cE eP aX a8 slV VT.le Ret bS
attribute [local irreducible] bX
def t4V:Nat→S3→VT→VT→VT
 | 1, s, φ, ψ => φ
 | 3, s, φ, ψ => φ
 | 6, s, φ, ψ => ψ
 | 9, s, φ, ψ => ψ
 | _, s, φ, ψ => one (.pointer (some ⟨s.1.headD 0, 0, none⟩))
def t4M (T:TypeId) (z:Array Value) (pl:List (Nat × Lay)):Nat→S3→Mem→Mem→Mem
 | 1, s, φ, ψ => φ
 | 3, s, φ, ψ => φ
 | 6, s, φ, ψ => ψ
 | 9, s, φ, ψ => ψ
 | _, s, φ, ψ => [aX (s.1.headD 0) T 15 (dw z pl)]
theorem wr (r c:Nat) (s:S3) (m u v:VT) (row col:Int) (d:VT):Ok Tryz.prog 31 [jq (bF r c s) m u v row col d] (one (.bool (decide (row=r∨col=c)))):=dP r c (one (slV s.2.1 r s.2.2)) m u v row col d
set_option maxRecDepth 100000 in
theorem qo (r c:Nat) (F:Nat→Nat→Int) (hr:r≤1048576) (hc:c≤1048576):OkM (σ:=S3 × S3 × S3) Tryz.prog 10 [bp r c F]
  (fun s=>jq (bp r c F) (bF r c s.1) (bF r r s.2.1) (bF r r s.2.2) 0 0 (one (.bool (decide ((0:Int)=r∨(0:Int)=c))))) (fun s=>iW r c s.1 F ++ iW r r s.2.1 idF ++ iW r r s.2.2 idF):=by
 have hva:=a4 r c F
 have hco:=fa (eM r c F hr hc)
 have hid:=fa (qm r hr)
 refine OkM.enter Tryz.func10 Z Tryz.ntmps10 Z (fun w O => ?_)
 refine ah (aj ?_)
 refine aY Z Z (ltN Z) (fun b1 => ?_)
 refine a7 (T:=32) Z Z Z (fun b2 => ?_)
 refine Ap (aa (ah (ah (aj (Al (aL 1 Z Z) ?_)))))
 refine Al (am (hva) Z ⟨W,Aq⟩) ?_
 refine Al (bx Z) (Ap (aa (aA Z (au (aa (ah ?_))))))
 refine oU 2 12 [1,3,6,9,11] ([],none,0) (fun j s=>t4V j s (bF r c s) (bF r r s)) (fun j s=>t4M 32 #[Value.int IntKind.i64 0,Value.int IntKind.i64 0,Value.slice none 0 0,Value.int IntKind.i64 0,Value.int IntKind.i64 0,Value.slice none 0 0,Value.int IntKind.i64 0,Value.int IntKind.i64 0,Value.slice none 0 0,Value.int IntKind.i64 0,Value.int IntKind.i64 0,Value.slice none 0 0,Value.int IntKind.i64 0,Value.int IntKind.i64 0,Value.bool false] [(0, .agg 3),(3, .agg 3),(6, .agg 3),(9, .agg 3),(12, .one),(13, .one),(14, .one)] j s (iW r c s F) (iW r r s idF)) aV X Y Z Y ?_
 refine kx Z (fun s B=>aL 1 Z Z) Z ?_
 refine kc Z (fun s B=>ek hco Z ⟨W,Aq⟩) Z ?_
 refine kx Z (fun s B=>aL 1 Z Z) Z ?_
 refine kc Z (fun s B=>ek hco Z ⟨W,Aq⟩) Z ?_
 refine kx Z (fun s B=>ab Z) Z ?_
 refine kx Z (fun s B=>ak 1 Z Z Z) Z ?_
 refine kc Z (fun s B=>ek hid Z ⟨W,Aq⟩) Z ?_
 refine kx Z (fun s B=>ab Z) Z ?_
 refine kx Z (fun s B=>ak 1 Z Z Z) Z ?_
 refine kc Z (fun s B=>ek hid Z ⟨W,Aq⟩) Z ?_
 refine kd [1,3,6,9] (ψ:=fun s=>jq (bF r c (s 1)) (bF r c (s 3)) (bF r r (s 6)) (bF r r (s 9)) 0 0 (one (.bool false))) Z H (fun s s' h=>by rw [h 1 Y,h 3 Y,h 6 Y,h 9 Y]) (fun s B=>i5 (.cons (φ:=bF r c (s 1)) Z Z Z (.cons (φ:=bF r c (s 3)) Z Z Z (.cons (φ:=bF r r (s 6)) Z Z Z (.cons (φ:=bF r r (s 9)) Z Z Z .nil)))) Z Z) Z ?_
 refine kc Z (fun s B=>tF (fun b=>([b],none,0)) (fun b=>rfl) (fun b=>rfl) Z) Z ?_
 refine .nil fun s => ?_
 refine lH (Γ' := [(3,one (.pointer (some ⟨(s 11).1.headD 0,0,none⟩))),(18,jq (bF r c (s 1)) (bF r c (s 3)) (bF r r (s 6)) (bF r r (s 9)) 0 0 (one (.bool false))),(2,_)]) (M' := [ef (ok3 r (s 1)),bO (s 1).2.1 (s 1).2.2 r c (s 1).1,bg c (s 1).1 F,ef (ok3 r (s 3)),bO (s 3).2.1 (s 3).2.2 r c (s 3).1,bg c (s 3).1 F,ef (ok3 r (s 6)),bO (s 6).2.1 (s 6).2.2 r r (s 6).1,bg r (s 6).1 idF,ef (ok3 r (s 9)),bO (s 9).2.1 (s 9).2.2 r r (s 9).1,bg r (s 9).1 idF,_,_,_]) Aj (SubM.refl _) ?_
 generalize s 1=sA
 generalize s 3=sM
 generalize s 6=sU
 generalize s 9=sV
 generalize (s 11).1.headD 0=b3
 refine aW 12 Z Z Z Z (Ap (aa (ah (aj (Al (aL 12 Z Z) ?_)))))
 refine Al (am (wr _ _ _ _ _ _ _ _ _) Z ⟨W,Aq⟩) ?_
 refine Al (ab Z) (aF 12 Z Z Z Z Z (leN Z) Z (Ap (aa (ah (aj (Al (aL 12 Z Z) (aW 13 Z Z Z Z (Ap (aa ?_)))))))))
 refine aG ?_
 refine kt (i:=0) (F:=ok3 r sA) Z (fun g h hp=>hp) (fun hA => ?_)
 refine nW (Γ' := [(2,one (.pointer (some ⟨b2,0,none⟩)))]) (M' := [ef (ok3 r sA),bO sA.2.1 sA.2.2 r c sA.1,bg c sA.1 F,ef (ok3 r sM),bO sM.2.1 sM.2.2 r c sM.1,bg c sM.1 F,ef (ok3 r sU),bO sU.2.1 sU.2.2 r r sU.1,bg r sU.1 idF,ef (ok3 r sV),bO sV.2.1 sV.2.2 r r sV.1,bg r sV.1 idF,aX b2 32 15 (kX (bF r c sA) (bF r c sM) (bF r r sU) (bF r r sV) 0 0 (one (.bool (decide (0=(r:Int)∨0=(c:Int))))))]) (eS.cons Z W eS.nil) (.keep Ak (.keep Ak (.keep Ak (.keep Ak (.keep Ak (.keep Ak (.keep Ak (.keep Ak (.keep Ak (.keep Ak (.keep Ak (.keep Ak (.drop (.keep Ak (.drop .nil))))))))))))))) ?_
 generalize (one (.bool (decide (0=(r:Int)∨0=(c:Int)))))=φd
 have hpm : ∀ o0 o1 o2 o3 o4 o5 o6 o7 o8 o9 o10 o11 o12:Own, [o0,o1,o2,o3,o4,o5,o6,o7,o8,o9,o10,o11,o12].Perm ([o1,o2] ++ [o12,o0,o3,o4,o5,o6,o7,o8,o9,o10,o11]):=fun o0 o1 o2 o3 o4 o5 o6 o7 o8 o9 o10 o11 o12=>ji 13 [1,2,12,0,3,4,5,6,7,8,9,10,11] H Z Z
 refine fQ [bO sA.2.1 sA.2.2 r c sA.1,bg c sA.1 F] (hpm _ _ _ _ _ _ _ _ _ _ _ _ _) (.keep (vF.box (mJ (da hA.1 List.mem_cons_self (List.mem_cons_of_mem _ List.mem_cons_self)) (Ent.refl _) (Ent.refl _) (Ent.refl _))) (EntM.refl _)) (qN.refl _) ?_
 refine iB (sM,sU,sV) Tryz.results10 (.cellW 0 Z Z W) ?_
 exact .drop (.drop (SubM.refl _))
end Tor
end
section
namespace Tor
open Go Go.RowKit Go.Proofs
def ei (b r c:Nat) (A:VT) (sM sU sV:S3) (M U V:Nat→Nat→Int) (row col:Int) (d:VT):Mem :=
 [aX b 32 15 (kX A (bF r c sM) (bF r r sU) (bF r r sV) row col d),bO sM.2.1 sM.2.2 r c sM.1,bg c sM.1 M,bO sU.2.1 sU.2.2 r r sU.1,bg r sU.1 U,bO sV.2.1 sV.2.2 r r sV.1,bg r sV.1 V]
theorem ok3.some {r:Nat} {s:S3} (h:ok3 r s) (hr:0<r) : ∃ bs bo cap,s=(bs,some bo,cap)∧bs.length=r:=by
 obtain ⟨bs,sv,cap⟩:=s
 cases sv with
 | none => have := h.2 Z; omega
 | some bo => exact ⟨bs, bo, cap, rfl, h.1⟩
theorem ws {x:Nat→Int} {r n:Nat} (hr:r≤n) (h : ∀ q,r≤q→q<n→x q=0):c9 x r (n - r)<0:=by
 rcases dW x r (n - r) with ⟨h1,_⟩ | ⟨i,h1,h2,h3,h4,_⟩
 ·omega
 ·exact absurd (h i h2 S) h4
theorem u4 {x:Nat→Int} {r n q:Nat} (h1:r≤q) (h2:q<n) (h:x q≠0) : ¬ c9 x r (n - r)<0:=by
 rcases dW x r (n - r) with ⟨_,h3⟩ | ⟨i,h3,_⟩
 ·exact absurd (h3 q h1 S) h
 ·omega
attribute [local irreducible] J PJ aQ one slT cA bG bZ exT cE eP aX a8 slV VT.le Ret bS
attribute [local irreducible] bX
theorem wt (b r c:Nat) (A:VT) [hA:Flat A (.agg 3)] (sM sU sV:S3) (M U V:Nat→Nat→Int) (row col:Nat) (d:VT) [hd:Flat d .one] (hr:r≤1048576) (hc:c≤1048576) (hM:ok3 r sM) (hrow:row<r) (hcol:col<c) :
  OkI Tryz.prog 66 [one (.pointer (some ⟨b,0,none⟩))] (ei b r c A sM sU sV M U V row col d)
   (fun _:Unit=>one (.bool (decide (c9 (fun i=>M i col) row (r - row)<0)))) (fun _=>ei b r c A sM sU sV M U V row (if c9 (fun i=>M i col) row (r - row)<0 then (col:Int)+1 else col) d):=by
 obtain ⟨bs,bo,cap,rfl,hbl⟩:=hM.some S
 have hsg:=fun i=>cI (M i col)
 unfold ei bF
 dsimp only at hbl ⊢
 refine OkI.enter Tryz.func66 Z Tryz.ntmps66 Z (fun w O => ?_)
 refine ah (aj (An Z (Ap (aa (ah (ah (aj (Am Z (Al (ao Z) ?_)))))))))
 refine Al (ab Z) (Al (ak 0 Z Z Z) (An Z (Ap (aa (ar (bV (Γ' := [(0,_),(2,_),(3,_)]) Ag (SubM.refl _) ?_))))))
 refine bv (σ:=Nat) (Γk := [(0,_)]) Ag (fun i => [(3,one (.int .i64 (i:Nat)))]) (fun i M0=>M0) (fun i=>row≤i∧i≤r ∧ ∀ q,row≤q→q<i→M q col=0) (fun i=>r - i) (row) (⟨Nat.le_refl _,Nat.le_of_lt hrow,fun q h1 h2=>absurd h2 S⟩) Ah (.keep Ak (.keep Ak (.keep Ak (.keep Ak (.keep Ak (.keep Ak (.keep Ak (.nil)))))))) (fun i hi => ?_)
 refine bK (Γ' := [(3,_),(0,_)]) (M' := [_,_,_,_,_,_,_]) Z Z ?_
 obtain ⟨hi1,hi2,hi3⟩:=hi
 by_cases hi:i<r
 ·by_cases h0:M i col=0
  ·have hz1:=(hsg i).2 h0
   refine ah (ah (aj (Am Z (Am Z (Al (ao Z) (Al (ab Z) (Al (ab Z) (Al (aw 0 3 0 Z Z Z Z Z) (Al (sT S (aS Z Z)) ?_)))))))))
   refine Ap (aa (az Z (au (aa (ah (ar (ah (aZ 16 aV X Y (Am Z ?_)))))))))
   refine Al (ao Z) (Al (ab Z) (Al (ab Z) (Al (aw 0 3 2 Z Z Z Z Z) (Am Z (Al (an Z Z S) (Al (aI 1 Z Z S) (Am Z (Al (ao Z) (Al (ab Z) ?_)))))))))
   refine Al (ak 0 Z Z Z) (Al (an Z Z S) (Al (bd 2 Z Z (bC S) S) ?_))
   refine Al (am (cw _) Z ⟨W,Aq⟩) ?_
   refine Al (sF S (dy Z Z)) (Ap (Ap (aa (aA Z (au (aD (aa (aj (Am Z ?_)))))))))
   refine Al (bn _ 1 Z Z S) (An Z (Ap ?_))
   refine aJ (i+1) (⟨by omega,hi,fun q h1 h2=>by by_cases h3:q=i;exact h3▸h0;exact hi3 q h1 S⟩) S Ah (.keep Ak (.keep Ak (.keep Ak (.keep Ak (.keep Ak (.keep Ak (.keep Ak (.nil))))))))
  ·have hz1:de (M i col)≠0:=fun h=>h0 ((hsg i).1 h)
   have hlt:=u4 (x:=fun i=>M i col) hi1 hi h0
   rw [decide_eq_false hlt,if_neg hlt]
   refine ah (ah (aj (Am Z (Am Z (Al (ao Z) (Al (ab Z) (Al (ab Z) (Al (aw 0 3 0 Z Z Z Z Z) (Al (sT S (aS Z Z)) ?_)))))))))
   refine Ap (aa (az Z (au (aa (ah (ar (ah (aZ 16 aV X Y (Am Z ?_)))))))))
   refine Al (ao Z) (Al (ab Z) (Al (ab Z) (Al (aw 0 3 2 Z Z Z Z Z) (Am Z (Al (an Z Z S) (Al (aI 1 Z Z S) (Am Z (Al (ao Z) (Al (ab Z) ?_)))))))))
   refine Al (ak 0 Z Z Z) (Al (an Z Z S) (Al (bd 2 Z Z (bC S) S) ?_))
   refine Al (am (cw _) Z ⟨W,Aq⟩) ?_
   refine Al (sT (by assumption) (dy Z Z)) (Ap (Ap (aa (az Z (ah (aj (An Z (Ap (aa ?_)))))))))
   refine aG (a6 (aB (aB (a6 (aB ?_)))))
   exact iC () Tryz.results66 (.tmp Z W) (SubM.refl _)
 ·have he:i=r:=by omega
  subst he
  have hlt:=ws (x:=fun i=>M i col) hi1 hi3
  rw [decide_eq_true hlt,if_pos hlt]
  refine ah (ah (aj (Am Z (Am Z (Al (ao Z) (Al (ab Z) (Al (ab Z) (Al (aw 0 3 0 Z Z Z Z Z) (Al (sF S (aS Z Z)) ?_)))))))))
  refine Ap (aa (aA Z (aU (av (av (aC (aa (ah (aj ?_)))))))))
  refine Am Z (Al (ao Z) (Al (ab Z) (Al (ak 0 Z Z Z) (Al (bn _ 1 Z Z S) (Al (ao Z) (Al (ab Z) (aF 0 Z Z Z Z Z (leN Z) Z (Ap (aa ?_)))))))))
  refine ah (aj (An Z (Ap (aa (aG (iC () Tryz.results66 (.tmp Z W) ?_))))))
  exact .keep Ak (SubM.refl _)
theorem tG (b r c:Nat) (A:VT) [hA:Flat A (.agg 3)] (sM sU sV:S3) (M U V:Nat→Nat→Int) (row col:Nat) (d:VT) [hd:Flat d .one] (hrow:row<1048577) (hcol:col<1048577) :
  OkI Tryz.prog 70 [one (.pointer (some ⟨b,0,none⟩))] (ei b r c A sM sU sV M U V row col d)
   (fun _:Unit=>one (.bool true)) (fun _=>ei b r c A sM sU sV M U V ((row:Int)+1) ((col:Int)+1) d):=by
 unfold ei bF
 refine OkI.enter Tryz.func70 Z Tryz.ntmps70 Z (fun w O => ?_)
 refine ah (aj (An Z (Ap (aa (ah (aj (Am Z (Al (ao Z) (Al (ab Z) ?_)))))))))
 refine Al (ak 0 Z Z Z) (Al (bn _ 1 Z Z S) (Al (ao Z) (Al (ab Z) (aF 0 Z Z Z Z Z (leN Z) Z (Ap (aa (ah (aj (Am Z ?_)))))))))
 refine Al (ao Z) (Al (ab Z) (Al (ak 0 Z Z Z) (Al (bn _ 1 Z Z S) (Al (ao Z) (Al (ab Z) (aF 0 Z Z Z Z Z (leN Z) Z (Ap (aa (ah ?_)))))))))
 refine aj (An Z (Ap (aa (aG (iC () Tryz.results70 (.tmp Z W) ?_)))))
 exact .keep Ak (SubM.refl _)
end Tor
end
section
namespace Tor
open Go Go.RowKit Go.Proofs
attribute [local irreducible] J PJ aQ one slT cA bG bZ exT cE eP aX a8 slV VT.le Ret bS
attribute [local irreducible] bX
theorem rj (b r c:Nat) (A:VT) [hA:Flat A (.agg 3)] (sM sU sV:S3) (M U V:Nat→Nat→Int) (row col:Nat) (d:VT) [hd:Flat d .one] (hr:r≤1048576) (hc:c≤1048576) (hM:ok3 r sM) (hrow:row<r) (hcol:col<c) (h0:0≤M row col) :
  OkI Tryz.prog 68 [one (.pointer (some ⟨b,0,none⟩))] (ei b r c A sM sU sV M U V row col d)
   (fun _:Unit=>one (.bool false)) (fun _=>ei b r c A sM sU sV M U V row col d):=by
 obtain ⟨bs,bo,cap,rfl,hbl⟩:=hM.some S
 have hsg:0≤de (M row col):=by unfold de;split <;> (try split) <;> omega
 unfold ei bF
 dsimp only at hbl ⊢
 refine OkI.enter Tryz.func68 Z Tryz.ntmps68 Z (fun w O => ?_)
 refine ah (aj (An Z (Ap (aa (ah (aj (Am Z (Al (ao Z) (Al (ab Z) ?_)))))))))
 refine Al (ak 0 Z Z Z) (An Z (Ap (aa (ah (ah (aZ 16 aV X Y (Am Z (Al (ao Z) (Al (ab Z) ?_)))))))))
 refine Al (ab Z) (Al (aw 0 3 2 Z Z Z Z Z) (Am Z (Al (an Z Z S) (Al (aI 1 Z Z S) (Am Z (Al (ao Z) (Al (ab Z) (Al (ak 0 Z Z Z) (Al (an Z Z S) ?_)))))))))
 refine Al (bd 2 Z Z (bC S) S) ?_
 refine Al (am (cw _) Z ⟨W,Aq⟩) ?_
 refine Al (sT (by assumption) (fd Z Z)) (Ap (Ap (aa (az Z (ah (aj (An Z (Ap (aa ?_)))))))))
 refine aG (aB (iC () Tryz.results68 (.tmp Z W) ?_))
 exact SubM.refl _
def ku (r j:Nat) (F:Nat→Nat→Int):Nat→Nat→Int:=fun q k=>if q=r∧k<j then - F q k else F q k
def m9 (r j:Nat) (F:Nat→Nat→Int):Nat→Nat→Int:=fun q k=>if q<j∧k=r then - F q k else F q k
theorem so {c r:Nat} {bs:List Nat} {F:Nat→Nat→Int} : Own.le (bg c bs F) (bg c bs (ku r 0 F)):=du fun q k _ _=>by unfold ku;rw [if_neg S]
theorem sp {c r:Nat} {bs:List Nat} {F:Nat→Nat→Int} : Own.le (bg c bs (ku r c F)) (bg c bs (cN r F)):=du fun q k _ hk=>by
 unfold ku cN
 by_cases h:q=r
 ·rw [if_pos ⟨h,hk⟩,if_pos h]
 ·rw [if_neg (fun e=>h e.1),if_neg h]
theorem oV {r j q k:Nat} {F:Nat→Nat→Int} (h : ∀ i j,cx (F i j)):ci (ku r j F q k):=by
 unfold ku
 split
 ·have:=bA (h q k)
  unfold ci at this ⊢
  rwa [Int.natAbs_neg]
 ·exact bA (h q k)
theorem sr {c r j:Nat} {bs:List Nat} {F:Nat→Nat→Int} : Own.le (bX 55 (.agg 2) c bs (eO (fun q k=>bm (ku r j F q k)) r j (bm (-ku r j F r j)))) (bg c bs (ku r (j+1) F)):=dM fun q k _ _=>by
 unfold eO ku
 by_cases h:q=r
 ·subst h
  by_cases h2:k=j
  ·subst h2;simp
  ·have h3:k<j+1↔k<j:=by omega
   simp [h2,h3]
 ·simp [h]
theorem u5 {c r n:Nat} {bs:List Nat} {F:Nat→Nat→Int} (hb:bs.length=n):Own.le (bg c bs (m9 r n F)) (bg c bs (gG r F)):=du fun q k hq _=>by
 subst hb
 unfold m9 gG
 by_cases h:k=r
 ·rw [if_pos ⟨hq,h⟩,if_pos h]
 ·rw [if_neg (fun e=>h e.2),if_neg h]
theorem ss {r j q k:Nat} {F:Nat→Nat→Int} (h : ∀ i j,cx (F i j)):ci (m9 r j F q k):=by
 unfold m9
 split
 ·have:=bA (h q k)
  unfold ci at this ⊢
  rwa [Int.natAbs_neg]
 ·exact bA (h q k)
theorem u6 {c r j:Nat} {bs:List Nat} {F:Nat→Nat→Int} : Own.le (bX 55 (.agg 2) c bs (eO (fun q k=>bm (m9 r j F q k)) j r (bm (-m9 r j F j r)))) (bg c bs (m9 r (j+1) F)):=dM fun q k _ _=>by
 unfold eO m9
 by_cases h:k=r
 ·subst h
  by_cases h2:q=j
  ·subst h2;simp
  ·have h3:q<j+1↔q<j:=by omega
   simp [h2,h3]
 ·simp [h]
theorem tH (b r c:Nat) (A:VT) [hA:Flat A (.agg 3)] (sM sU sV:S3) (M U V:Nat→Nat→Int) (row col:Nat) (d:VT) [hd:Flat d .one] (hr:r≤1048576) (hc:c≤1048576) (hM:ok3 r sM) (hU:ok3 r sU) (hV:ok3 r sV) (hrow:row<r) (hcol:col<c) (hmM : ∀ i j,cx (M i j)) (hmU : ∀ i j,cx (U i j)) (hmV : ∀ i j,cx (V i j)) (h0:M row col<0) :
  OkI Tryz.prog 68 [one (.pointer (some ⟨b,0,none⟩))] (ei b r c A sM sU sV M U V row col d)
   (fun _:Unit=>one (.bool true)) (fun _=>ei b r c A sM sU sV (cN row M) (cN row U) (gG row V) row col d):=by
 obtain ⟨bs,bo,cap,rfl,hbl⟩:=hM.some S
 obtain ⟨bsU,boU,capU,rfl,hblU⟩:=hU.some S
 obtain ⟨bsV,boV,capV,rfl,hblV⟩:=hV.some S
 have hsg : ¬ 0≤de (M row col):=by unfold de;split <;> (try split) <;> omega
 unfold ei bF
 dsimp only at hbl hblU hblV ⊢
 refine OkI.enter Tryz.func68 Z Tryz.ntmps68 Z (fun w O => ?_)
 refine ah (aj (An Z (Ap (aa (ah (aj (Am Z (Al (ao Z) (Al (ab Z) ?_)))))))))
 refine Al (ak 0 Z Z Z) (An Z (Ap (aa (ah (ah (aZ 16 aV X Y (Am Z (Al (ao Z) (Al (ab Z) ?_)))))))))
 refine Al (ab Z) (Al (aw 0 3 2 Z Z Z Z Z) (Am Z (Al (an Z Z S) (Al (aI 1 Z Z S) (Am Z (Al (ao Z) (Al (ab Z) (Al (ak 0 Z Z Z) (Al (an Z Z S) ?_)))))))))
 refine Al (bd 2 Z Z (bC S) S) ?_
 refine Al (am (cw _) Z ⟨W,Aq⟩) ?_
 refine Al (sF (by assumption) (fd Z Z)) (Ap (Ap (aa (aA Z (au (aa (ah (ah (aZ 11 aV X Y ?_)))))))))
 refine Am Z (Al (ao Z) (Al (ab Z) (Al (ak 0 Z Z Z) (Am Z (Al (ao Z) (Al (ab Z) (Al (ak 0 Z Z Z) (stS Z Z Z Z (PartsK.cons Z ?_)))))))))
 refine PartsK.cons Z (PartsK.nil (Al (be Z) (Am Z (Ap (Ap (aa (ar ?_)))))))
 refine jN (t:=37) (ψ:=slT (.agg 3) 2 (fun q=>match q with | 0=>bG 3 [(0, .one,one (.int .i64 (r:Nat))),(1, .one,one (.int .i64 (c:Nat))),(2, .one,one (slV (some bo) r cap))] | _=>bG 3 [(0, .one,one (.int .i64 (r:Nat))),(1, .one,one (.int .i64 (r:Nat))),(2, .one,one (slV (some boU) r capU))])) Z (cL Z fun q hq=>match q,hq with | 0,_=>rfl | 1,_=>rfl) ?_
 refine bV (Γ' := [(0,_),(2,_),(3,_),(37,_),(38,_),(39,_)]) Ag (SubM.refl _) ?_
 refine bv (σ:=Nat) (Γk := [(0,_),(2,_),(3,_),(37,_),(38,_)]) Ag (fun i => [(39,one (.int .i64 (i:Nat)))]) (fun i M0=>((M0.set 2 (bg c bs (if 0<i then cN row M else M))).set 4 (bg r bsU (if 1<i then cN row U else U)))) (fun i=>i≤2) (fun i=>2 - i) (0) (Nat.zero_le _) Ah (.keep Ak (.keep Ak (.keep Ak (.keep Ak (.keep Ak (.keep Ak (.keep Ak (.nil)))))))) (fun i hi => ?_)
 refine bK (Γ' := [(39,_),(0,_),(2,_),(3,_),(37,_),(38,_)]) (M' := [_,_,_,_,_,_,_]) Z Z ?_
 by_cases hi0:i=0
 ·subst hi0
  rw [if_neg (show ¬ 0<0 by omega),if_neg (show ¬ 1<0 by omega)]
  refine ah (aj (Al (sT S (aS Z Z)) (Ap (aa (ah (az Z (au (aa (ah ?_)))))))))
  refine ar (ah (aj (Al (ax Z Z S) (Al (aH Z) ?_))))
  refine a7 (T:=29) Z Z Z (fun b5 => ?_)
  refine aW 0 Z Z Z Z (Ap (aa (ah (aj (Al (ab Z) (Al (ak 0 Z Z Z) (Am Z (Ap (aa ?_)))))))))
  refine ar (bV (Γ' := [(0,_),(2,_),(3,_),(5,_),(37,_),(38,_),(39,_),(44,_),(45,_)]) Ag (SubM.refl _) ?_)
  refine bv (σ:=Nat) (Γk := [(0,_),(2,_),(3,_),(5,_),(37,_),(38,_),(39,_),(44,_)]) Ag (fun j => [(45,one (.int .i64 (j:Nat)))]) (fun j M0=>(M0.set 3 (bg c bs (ku row j M)))) (fun j=>j≤c) (fun j=>c - j) (0) (Nat.zero_le _) Ah (.keep Ak (.keep Ak (.keep Ak (.keep (so) (.keep Ak (.keep Ak (.keep Ak (.keep Ak (.nil))))))))) (fun j hj => ?_)
  refine bK (Γ' := [(45,_),(0,_),(2,_),(3,_),(5,_),(37,_),(38,_),(39,_),(44,_)]) (M' := [_,_,_,_,_,_,_,_]) Z Z ?_
  by_cases hj:j<c
  ·refine ah (aj (Al (sT S (aS Z Z)) (Ap (aa (ah (az Z (au (aa (ah ?_)))))))))
   refine ar (ah (aj (Am Z (An Z (Ap (aa (aZ 15 aV X Y (Al (ab Z) (Al (ak 0 Z Z Z) ?_)))))))))
   refine Am Z (Al (an Z Z S) (Al (aI 2 Z Z S) (Am Z (Al (ab Z) (Al (ak 0 Z Z Z) (Am Z (Al (an Z Z S) (Al (aI 2 Z Z S) (Am Z ?_)))))))))
   refine Al (an Z Z S) (Al (bd 3 Z Z (bC S) S) ?_)
   refine Al (am (oA _ (oV hmM)) Z ⟨W,Aq⟩) ?_
   refine Ap (Al (an Z Z S) ?_)
   (refine a9 3 Z Z Z (bC ?_) ?_ Z ?_;omega;omega)
   refine Ap (aD (aa (aj (Al (bn _ 1 Z Z S) (Am Z (Ap ?_))))))
   refine aJ (j+1) (hj) S Ah (.keep Ak (.keep Ak (.keep Ak (.keep (sr) (.keep Ak (.keep Ak (.keep Ak (.keep Ak (.nil)))))))))
  ·have he:j=c:=by omega
   subst he
   refine ah (aj (Al (sF S (aS Z Z)) (Ap (aa (ah (aA Z (aU (av (av ?_)))))))))
   refine aC (aD (aa (aj (Al (bn _ 1 Z Z S) (Am Z (Ap ?_))))))
   refine aJ (1) S S Ah (.drop (.keep Ak (.keep Ak (.keep (sp) (.keep Ak (.keep Ak (.keep Ak (.keep Ak (.nil)))))))))
 ·by_cases hi1:i=1
  ·subst hi1
   rw [if_pos (show 0<1 by omega),if_neg (show ¬ 1<1 by omega)]
   refine ah (aj (Al (sT S (aS Z Z)) (Ap (aa (ah (az Z (au (aa (ah ?_)))))))))
   refine ar (ah (aj (Al (ax Z Z S) (Al (aH Z) ?_))))
   refine a7 (T:=29) Z Z Z (fun b5 => ?_)
   refine aW 0 Z Z Z Z (Ap (aa (ah (aj (Al (ab Z) (Al (ak 0 Z Z Z) (Am Z (Ap (aa ?_)))))))))
   refine ar (bV (Γ' := [(0,_),(2,_),(3,_),(5,_),(37,_),(38,_),(39,_),(44,_),(45,_)]) Ag (SubM.refl _) ?_)
   refine bv (σ:=Nat) (Γk := [(0,_),(2,_),(3,_),(5,_),(37,_),(38,_),(39,_),(44,_)]) Ag (fun j => [(45,one (.int .i64 (j:Nat)))]) (fun j M0=>(M0.set 5 (bg r bsU (ku row j U)))) (fun j=>j≤r) (fun j=>r - j) (0) (Nat.zero_le _) Ah (.keep Ak (.keep Ak (.keep Ak (.keep Ak (.keep Ak (.keep (so) (.keep Ak (.keep Ak (.nil))))))))) (fun j hj => ?_)
   refine bK (Γ' := [(45,_),(0,_),(2,_),(3,_),(5,_),(37,_),(38,_),(39,_),(44,_)]) (M' := [_,_,_,_,_,_,_,_]) Z Z ?_
   by_cases hj:j<r
   ·refine ah (aj (Al (sT S (aS Z Z)) (Ap (aa (ah (az Z (au (aa (ah ?_)))))))))
    refine ar (ah (aj (Am Z (An Z (Ap (aa (aZ 15 aV X Y (Al (ab Z) (Al (ak 0 Z Z Z) ?_)))))))))
    refine Am Z (Al (an Z Z S) (Al (aI 4 Z Z S) (Am Z (Al (ab Z) (Al (ak 0 Z Z Z) (Am Z (Al (an Z Z S) (Al (aI 4 Z Z S) (Am Z ?_)))))))))
    refine Al (an Z Z S) (Al (bd 5 Z Z (bC S) S) ?_)
    refine Al (am (oA _ (oV hmU)) Z ⟨W,Aq⟩) ?_
    refine Ap (Al (an Z Z S) ?_)
    (refine a9 5 Z Z Z (bC ?_) ?_ Z ?_;omega;omega)
    refine Ap (aD (aa (aj (Al (bn _ 1 Z Z S) (Am Z (Ap ?_))))))
    refine aJ (j+1) (hj) S Ah (.keep Ak (.keep Ak (.keep Ak (.keep Ak (.keep Ak (.keep (sr) (.keep Ak (.keep Ak (.nil)))))))))
   ·have he:j=r:=by omega
    subst he
    refine ah (aj (Al (sF S (aS Z Z)) (Ap (aa (ah (aA Z (aU (av (av ?_)))))))))
    refine aC (aD (aa (aj (Al (bn _ 1 Z Z S) (Am Z (Ap ?_))))))
    refine aJ (2) S S Ah (.drop (.keep Ak (.keep Ak (.keep Ak (.keep Ak (.keep (sp) (.keep Ak (.keep Ak (.nil)))))))))
  ·have hi2:i=2:=by omega
   subst hi2
   rw [if_pos (show 0<2 by omega),if_pos (show 1<2 by omega)]
   refine ah (aj (Al (sF S (aS Z Z)) (Ap (aa (ah (aA Z (aU (av (av ?_)))))))))
   refine aC (aa (ah (ah (aj (Am Z (Al (ao Z) (Al (ab Z) (Al (ab Z) (Al (aw 0 9 2 Z Z Z Z Z) ?_)))))))))
   refine Al (jx Z) (Am Z (Ap (aa (ar (bV (Γ' := [(2,_),(3,_),(70,_),(71,_),(72,_)]) Ag (SubM.refl _) ?_)))))
   refine bv (σ:=Nat) (Γk := [(2,_),(3,_),(70,_),(71,_)]) Ag (fun i => [(72,one (.int .i64 (i:Nat)))]) (fun i M0=>(M0.set 6 (bg r bsV (m9 row i V)))) (fun i=>i≤r) (fun i=>r - i) (0) (Nat.zero_le _) Ah (.keep Ak (.keep Ak (.keep Ak (.keep Ak (.keep Ak (.keep Ak (.keep Ak (.nil)))))))) (fun i hi => ?_)
   refine bK (Γ' := [(72,_),(2,_),(3,_),(70,_),(71,_)]) (M' := [_,_,_,_,_,_,_]) Z Z ?_
   by_cases hi:i<r
   ·refine ah (aj (Al (sT S (aS Z Z)) (Ap (aa (ah (az Z (au (aa (ah ?_)))))))))
    refine ar (ah (aj (Al (an Z Z S) (Al (aI 5 Z Z S) (An Z (Ap (aa (aj (Am Z ?_)))))))))
    refine Am Z (Am Z (Am Z (Al (an Z Z S) (Al (bd 6 Z Z (bC S) S) ?_))))
    refine Al (am (oA _ (ss hmV)) Z ⟨W,Aq⟩) ?_
    refine Al (an Z Z S) ?_
    (refine a9 6 Z Z Z (bC ?_) ?_ Z ?_;omega;omega)
    refine Ap (aD (aa (aj (Al (bn _ 1 Z Z S) (Am Z (Ap ?_))))))
    refine aJ (i+1) (hi) S Ah (.keep Ak (.keep Ak (.keep Ak (.keep Ak (.keep Ak (.keep Ak (.keep (u6) (.nil))))))))
   ·have he:i=r:=by omega
    subst he
    refine ah (aj (Al (sF S (aS Z Z)) (Ap (aa (ah (aA Z (aU (av (av ?_)))))))))
    refine aC (aa (ah (aj (An Z (Ap (aa (aG (iC () Tryz.results68 (.tmp Z W) ?_))))))))
    exact .keep Ak (.keep Ak (.keep Ak (.keep Ak (.keep Ak (.keep Ak (.keep (u5 hblV) .nil))))))
end Tor
end
