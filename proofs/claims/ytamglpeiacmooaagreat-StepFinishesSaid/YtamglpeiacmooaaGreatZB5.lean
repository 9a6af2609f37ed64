/-
  Theorems that the proofs of laws of this seat rest on.
  No condition.
-/
import Derived.Test.YtamglpeiacmooaaGreatZB4
set_option maxHeartbeats 20000000
set_option linter.unusedVariables false
set_option linter.unusedSimpArgs false
section
namespace Tor
open Go Go.RowKit Go.Proofs
def ci (x:Int):Prop:=(aK x.natAbs).length≤1099511627776
theorem mr {x:Int} (h:x.natAbs<2^2048):ci x:=by
 have:(aK x.natAbs).length≤64:=di (Nat.lt_of_lt_of_le h H)
 unfold ci;omega
theorem oz (x y:Int) (hx:ci x) (hy:ci y):Ok Tryz.prog 103 [bm x,bm y] (bm (x+y)):=by
 have h:=uq (decide (x<0)) (decide (y<0)) x.natAbs y.natAbs hx hy
 rw [eG,eG] at h
 exact h.le ⟨d8 _,d8 _,Aq⟩ W
theorem lK (x y:Int) (hx:ci x) (hy:ci y):Ok Tryz.prog 101 [bm x,bm y] (bm (x - y)):=by
 have h:=xm (decide (x<0)) (decide (y<0)) x.natAbs y.natAbs hx hy
 rw [eG,eG] at h
 exact h.le ⟨d8 _,d8 _,Aq⟩ W
theorem ip (x y:Int) (hx:ci x) (hy:ci y):Ok Tryz.prog 102 [bm x,bm y] (bm (x*y)):=by
 have h:=xn (decide (x<0)) (decide (y<0)) x.natAbs y.natAbs hx hy
 rw [eG,eG] at h
 exact h.le ⟨d8 _,d8 _,Aq⟩ W
theorem cw (x:Int):Ok Tryz.prog 88 [bm x] (one (.int .i64 (de x))):=by
 have h:=lJ (decide (x<0)) x.natAbs
 rw [eG] at h
 exact h.le ⟨d8 _,Aq⟩ W
theorem iq (x y:Int):Ok Tryz.prog 84 [bm x,bm y] (one (.int .i64 (ev x y))):=by
 have h:=xo (decide (x<0)) (decide (y<0)) x.natAbs y.natAbs
 rw [eG,eG] at h
 exact h.le ⟨d8 _,d8 _,Aq⟩ W
theorem gT (x y:Int) (hx:ci x) (hy:ci y):Ok Tryz.prog 24 [bm x,bm y] (bm (x+y)):=by
 have h:=vR (decide (x<0)) (decide (y<0)) x.natAbs y.natAbs hx hy
 rw [eG,eG] at h
 exact h.le ⟨d8 _,d8 _,Aq⟩ W
theorem fF (x y:Int) (hx:ci x) (hy:ci y):Ok Tryz.prog 95 [bm x,bm y] (bm (x*y)):=by
 have h:=vS (decide (x<0)) (decide (y<0)) x.natAbs y.natAbs hx hy
 rw [eG,eG] at h
 exact h.le ⟨d8 _,d8 _,Aq⟩ W
def cx (x:Int):Prop:=(aK x.natAbs).length≤274877906944
theorem bA {x:Int} (h:cx x):ci x:=Nat.le_trans h Y
theorem xq {x:Int} {k:Nat} (h:(aK x.natAbs).length≤k):x.natAbs<4294967296^k:=Nat.lt_of_lt_of_le (dC _) (Nat.pow_le_pow_right Y h)
theorem uE {x y:Int} {j k:Nat} (hx:(aK x.natAbs).length≤j) (hy:(aK y.natAbs).length≤k):(aK (x*y).natAbs).length≤j+k:=di (by
 rw [Int.natAbs_mul,Nat.pow_add]
 have h1:=xq hx
 have h2:=xq hy
 exact Nat.lt_of_le_of_lt (Nat.mul_le_mul_left _ (Nat.le_of_lt h2)) (Nat.mul_lt_mul_of_pos_right h1 (Nat.pow_pos Y)))
theorem ms {x y:Int} (hx:cx x) (hy:cx y):(aK (x*y).natAbs).length≤549755813888:=uE hx hy
theorem fW {x y:Int} (hx:cx x) (hy:cx y):ci (x*y):=Nat.le_trans (ms hx hy) Y
theorem tb:ci 1:=mr H
theorem tc {x:Int} (h:ci x):ci (-x):=by unfold ci at *; rw [Int.natAbs_neg]; exact h
theorem kS (φ:VT):VT.le φ bS:=fun _ _ _=>trivial
instance {neg:Bool} {l:List Nat} : Flat (jG neg l) (.agg 2):=by unfold jG;infer_instance
attribute [local irreducible] J PJ aQ one slT cA bG bZ exT cE eP aX a8 slV VT.le Ret bS
theorem mu (l:List Nat) (hl:l.length≤1099511627776):Ok Tryz.prog 114 [cg l] (cg l):=by
 unfold cg
 refine Ok.enter Tryz.func114 Z Tryz.ntmps114 Z (fun w O => ?_)
 refine ah (aj (An Z (Ap (aa (ah (ah (aj (Am Z (Al (vH Z) ?_)))))))))
 refine Ap (aa ?_)
 refine w5 (t:=4) Z (fun b => ?_)
 refine t3 (t:=4) Z (fun hb => ?_)
 refine a5 Z (fun hc => ?_) (fun hc => ?_)
 ·have h0:=hb hc
  refine ah (aj (An Z (Ap (aa (aG (aB ?_))))))
  refine aP Tryz.results114 (.tmp Z (by (rw [h0]; exact gu)))
 ·refine au (aa (ah (aj (sJ (n:=0) Z Z Z Z Z ?_))))
  refine PartsK.nil (fun bl => ?_)
  refine Am Z ?_
  (refine fD 0 Z Z Z (leN Z) ?_ ?_ Z (ltN Z) (fun sv7 cap7 => ?_);omega;omega)
  refine An Z (Ap (aa (aG (dz (t:=2) (i:=0) Z Z ?_))))
  refine aP Tryz.results114 (.tmp Z (cL (by simp) (fun i hi=>by simp)))
theorem oA (x:Int) (hx:ci x):Ok Tryz.prog 99 [bm x] (bm (-x)):=by
 have hcl:=mu (aK x.natAbs) hx
 have hv:=(ee (!decide (x<0)) x.natAbs).le (fg _) (bY (y := -x) (by by_cases h:x<0 <;> simp [h] <;> omega))
 unfold bm at *
 refine Ok.enter Tryz.func99 Z Tryz.ntmps99 Z (fun w O => ?_)
 refine ah (aj ?_)
 refine aY Z Z (ltN Z) (fun b1 => ?_)
 refine aT (T:=55) Z (ltN Z) (fun b2 => ?_)
 refine Ap (aa (ah (aZ 7 aV X Y (Al (ab Z) (Al (ak 1 Z Z Z) (Al (bx Z) (Al (ab Z) (Al (ak 1 Z Z Z) ?_))))))))
 refine Al (am (hcl) Z ⟨W,Aq⟩) ?_
 refine Al (am (hv) Z ⟨W,(cU _),Aq⟩) ?_
 refine Ap (aF 0 Z Z Z Z Z (leN Z) Z (Ap (aa (aG ?_))))
 refine aP Tryz.results99 (.cellB 0 Z Z Z W)
theorem r7 (x:Int) (hx:ci x):Ok Tryz.prog 98 [bm x] (bm x.natAbs):=by
 have hcl:=mu (aK x.natAbs) hx
 have hv:=(ee false x.natAbs).le (fg _) (bY (y:=(x.natAbs:Int)) (by simp))
 unfold bm at *
 refine Ok.enter Tryz.func98 Z Tryz.ntmps98 Z (fun w O => ?_)
 refine ah (aj ?_)
 refine aY Z Z (ltN Z) (fun b1 => ?_)
 refine aT (T:=55) Z (ltN Z) (fun b2 => ?_)
 refine Ap (aa (ah (aj (Al (ab Z) (Al (ak 1 Z Z Z) ?_)))))
 refine Al (am (hcl) Z ⟨W,Aq⟩) ?_
 refine Al (am (hv) Z ⟨W,(cU _),Aq⟩) ?_
 refine aF 0 Z Z Z Z Z (leN Z) Z (Ap (aa (aG ?_)))
 refine aP Tryz.results98 (.cellB 0 Z Z Z W)
theorem cY {n:Nat} (h:(aK n).length≤1099511627776):VT.le (cg (aK n)) (m0 n):=gy (bh n) (bU n) S
theorem e8 (x:Int) (hx:ci x):Ok Tryz.prog 54 [bm x] (bm (-x)):=by
 have hv:=(dm (!decide (x<0)) x.natAbs).le (fg _) (bY (y := -x) (by by_cases h:x<0 <;> simp [h] <;> omega))
 have hx:(aK x.natAbs).length≤1099511627776:=hx
 unfold bm at *
 refine Ok.enter Tryz.func54 Z Tryz.ntmps54 Z (fun w O => ?_)
 refine ah (aj ?_)
 refine aY Z Z (ltN Z) (fun b1 => ?_)
 refine aT (T:=55) Z (ltN Z) (fun b2 => ?_)
 refine Ap (aa (ah (aj (Al (ab Z) (Al (ak 1 Z Z Z) (Al (ab Z) (Al (ak 1 Z Z Z) (Al (bx Z) ?_))))))))
 refine Al (am (hv) Z ⟨(cY hx),W,Aq⟩) ?_
 refine aF 0 Z Z Z Z Z (leN Z) Z (Ap (aa (aG ?_)))
 refine aP Tryz.results54 (.cellB 0 Z Z Z W)
theorem cn (x:Int):Ok Tryz.prog 43 [bm x] (one (.int .i64 (de x))):=by
 have h:=ur (decide (x<0)) x.natAbs
 rw [eG] at h
 exact h.le ⟨d8 _,Aq⟩ W
theorem iU (x y:Int) (hx:ci x) (hy:ci y):Ok Tryz.prog 94 [bm x,bm y] (bm (x - y)):=by
 have hv:=(gT x (-y) hx (tc hy)).le (fg _) (bY (y:=x - y) S)
 refine Ok.enter Tryz.func94 Z Tryz.ntmps94 Z (fun w O => ?_)
 refine ah (aj ?_)
 refine aY Z Z (ltN Z) (fun b2 => ?_)
 refine aY Z Z (ltN Z) (fun b3 => ?_)
 refine aT (T:=55) Z (ltN Z) (fun b4 => ?_)
 refine Ap (aa (ah (aZ 4 aV X Y (Al (aL 2 Z Z) (Al (aL 1 Z Z) ?_)))))
 refine Al (am (e8 _ (by assumption)) Z ⟨W,Aq⟩) ?_
 refine Al (am (hv) Z ⟨W,W,Aq⟩) ?_
 refine Ap (aF 0 Z Z Z Z Z (leN Z) Z (Ap (aa (aG ?_))))
 refine aP Tryz.results94 (.cellB 0 Z Z Z W)
theorem vV (x y:Int):de (x - y)=ev x y:=by
 unfold de ev
 by_cases h:x<y
 ·rw [if_neg S,if_pos S,if_pos h]
 ·by_cases h2:y<x
  ·rw [if_neg S,if_neg S,if_neg h,if_pos h2]
  ·rw [if_pos S,if_neg h,if_neg h2]
theorem pY (x y:Int) (hx:ci x) (hy:ci y):Ok Tryz.prog 76 [bm x,bm y] (one (.int .i64 (ev x y))):=by
 refine Ok.enter Tryz.func76 Z Tryz.ntmps76 Z (fun w O => ?_)
 refine ah (aj ?_)
 refine aY Z Z (ltN Z) (fun b2 => ?_)
 refine aY Z Z (ltN Z) (fun b3 => ?_)
 refine An Z (Ap (aa (ah (aj (Al (aL 1 Z Z) (Al (aL 0 Z Z) ?_))))))
 refine Al (am (iU _ _ (by assumption) (by assumption)) Z ⟨W,W,Aq⟩) ?_
 refine Al (am (cn _) Z ⟨W,Aq⟩) ?_
 refine An Z (Ap (aa (aG ?_)))
 refine aP Tryz.results76 (.tmp Z (aq (by rw [vV])))
end Tor
end
section
namespace Tor
open Go Go.RowKit Go.Proofs
def r8 (φ ψ:VT):VT:=slT (.agg 3) 2 (fun i=>if i=0 then φ else ψ)
theorem mv {φ ψ:VT} : VT.le (slT (.agg 3) 2 (fun q => [φ, ψ].getD q bS)) (r8 φ ψ):=by
 unfold r8
 refine fe fun i hi => ?_
 rcases i with _ | _ | i
 ·exact VT.le_refl _
 ·exact VT.le_refl _
 ·omega
instance {r c:Nat} {F:Nat→Nat→Int} : Flat (bp r c F) (.agg 3):=by unfold bp;infer_instance
attribute [local irreducible] J PJ aQ one slT cA bG bZ exT cE eP aX a8 slV VT.le Ret bS
attribute [local irreducible] bm bp
theorem a4 (r c:Nat) (F:Nat→Nat→Int):Ok Tryz.prog 28 [bp r c F] (one (.bool true)):=by
 have h:=pX r c (iT r c F)
 rw [mq] at h
 exact h.le ⟨pW r c F,Aq⟩ W
theorem nB (ra ca:Nat) (F:Nat→Nat→Int) (rb cb:Nat) (G:Nat→Nat→Int):Ok Tryz.prog 79 [r8 (bp ra ca F) (bp rb cb G)] (one (.bool true)):=by
 unfold r8
 refine Ok.enter Tryz.func79 Z Tryz.ntmps79 Z (fun w O => ?_)
 refine ah (aj (An Z (Ap (aa (ah (ah (aj (Am Z (Al (be Z) ?_)))))))))
 refine Am Z (Ap (aa (ar ?_)))
 refine cO (σ:=Nat) (fun i => [(5,slT (.agg 3) 2 (fun i=>if i=0 then bp ra ca F else bp rb cb G)),(6,one (.int .i64 (2:Nat))),(7,one (.int .i64 (i:Nat)))]) (fun _ => []) (fun i=>i≤2) (fun i=>2 - i) 0 (Nat.zero_le _) Ai (SubM.refl _) (fun i hi => ?_)
 refine ah (aj (Al (aS Z Z) (Ap (aa (ah ?_)))))
 refine a5 Z (fun hc => ?_) (fun hc => ?_) <;> simp only [decide_eq_true_eq,decide_eq_false_iff_not,ne_eq,Decidable.not_not] at hc
 ·have h2:i<2:=by omega
  have hF:Flat (if i=0 then bp ra ca F else bp rb cb G) (.agg 3):=by split <;> infer_instance
  refine au (aa (ah (ar (ah (aj ?_)))))
  (refine Al (ax Z Z ?_) ?_;omega)
  refine Al (aH Z) ?_
  refine a7 (T:=29) Z Z Z (fun b => ?_)
  refine jW 0 Z Z Z Z (Ap (aa (ah (aj (Al (ak 0 Z Z Z) ?_)))))
  have hcall:Ok Tryz.prog 28 [if i=0 then bp ra ca F else bp rb cb G] (one (.bool true)):=by
   split
   ·exact a4 _ _ _
   ·exact a4 _ _ _
  refine Al (am hcall Z ⟨W,Aq⟩) ?_
  refine Al (bx Z) (Ap (aa ?_))
  refine a5 Z (fun hc2 => ?_) (fun hc2 => ?_)
  ·cases hc2
  ·refine au (aD (aa (aj ?_)))
   (refine Al (cq Z Z (aR ?_ ?_)) ?_;omega;omega)
   refine Am Z (Ap ?_)
   exact bM (s:=i) (i+1) (show _ from by omega) (by show 2 - (i+1)<2 - i;omega) Ai (.drop .nil)
 ·refine aU (av (av (aC (aa (ah (aj (An Z (Ap (aa ?_)))))))))
  refine aG ?_
  exact aP Tryz.results79 (.tmp Z W)
end Tor
end
section
namespace Tor
open Go Go.RowKit Go.Proofs
attribute [local irreducible] J PJ aQ one slT cA bG bZ exT cE eP aX a8 slV VT.le Ret bS
theorem uF (n:Nat) (φ ψ χ:Nat→VT) [hF : ∀ i,Flat (χ i) .one] (cl:VT) (hn:n≤1048576) (hC : ∀ i,i<n→gM Tryz.prog cl [φ i, ψ i] (χ i)):Ok Tryz.prog 86 [slT (.agg 2) n φ,slT (.agg 2) n ψ,cl] (slT .one n χ):=by
 refine Ok.enter Tryz.func86 Z Tryz.ntmps86 Z (fun w O => ?_)
 refine ah (aj (An Z (Ap (aa (ah (aj (Am Z (Al (be Z) ?_))))))))
 refine cK n n Z Z Z Z (Nat.le_refl _) Z Z S Z Z (fun bz => ?_)
 refine An Z (Ap (aa (ah (ah (aj (Am Z (Al (jx Z) (Am Z (Ap ?_)))))))))
 refine aa (ar ?_)
 refine cO (σ:=Nat) (fun i => [(0,slT (.agg 2) n φ),(1,slT (.agg 2) n ψ),(2,cl),(7,one (slV (some bz) n n)),(13,one (.int .i64 n)),(14,one (.int .i64 (i:Nat)))])
  (fun i => [a8 (some bz) 4 .one n n (fun q=>if q<i then χ q else bS)]) (fun i=>i≤n) (fun i=>n - i) 0 (Nat.zero_le _) Ai (.keep (eW fun q hq=>by rw [if_neg S]; exact kS _) .nil) (fun i hi => ?_)
 refine ah (aj (Al (aS Z Z) (Ap (aa (ah ?_)))))
 refine a5 Z (fun hc => ?_) (fun hc => ?_) <;> simp only [decide_eq_true_eq,decide_eq_false_iff_not,ne_eq,Decidable.not_not] at hc
 ·refine au (aa (ah (ar (ah (aj (Am Z (An Z (Ap (aa ?_)))))))))
  refine aZ 13 aV X Y (Am Z (Am Z (Am Z (Am Z (Am Z ?_)))))
  (refine Al (ax Z Z ?_) ?_;omega)
  refine Al (aH Z) (Am Z (Am Z ?_))
  (refine Al (ax Z Z ?_) ?_;omega)
  refine Al (aH Z) ?_
  refine Al (d6 (hC i S) Z Z ⟨W,W,Aq⟩) ?_
  (refine Al (an Z Z ?_) ?_;omega)
  refine Ap ?_
  (refine bD 0 Z Z Z ?_ Z ?_;omega)
  refine Ap (aD (aa (aj ?_)))
  (refine Al (cq Z Z (aR ?_ ?_)) ?_;omega;omega)
  refine Am Z (Ap ?_)
  refine bM (s:=i) (i+1) (show _ from by omega) (by show n - (i+1)<n - i;omega) Ai (.keep (cy fun q hq => ?_) .nil)
  unfold upd
  by_cases h:q=i
  ·subst h;rw [if_pos Z,if_pos S]
  ·rw [if_neg h]
   have e:q<i+1↔q<i:=by omega
   simp only [e]
 ·have hk:i=n:=by omega
  subst hk
  refine aU (av (av (aC (aa (ah (aj (Am Z (An Z (Ap ?_)))))))))
  refine aa (aG (dz (t:=6) (i:=0) Z Z ?_))
  refine aP Tryz.results86 (.tmp Z (fe fun q hq => ?_))
  rw [if_pos hq]; exact VT.le_refl _
end Tor
end
section
namespace Tor
open Go Go.RowKit Go.Proofs
def c5:Nat→(Nat→Int)→Int
 | 0, _ => 0
 | n + 1, f => c5 n f + f n
theorem cF {n:Nat} {f g:Nat→Int} (h : ∀ i,i<n→f i=g i):c5 n f=c5 n g:=by
 induction n with
 | zero => rfl
 | succ n ih => rw [c5, c5, ih (fun i hi => h i S), h n S]
theorem q3 {n B:Nat} {f:Nat→Int} (h : ∀ i,(f i).natAbs≤B):(c5 n f).natAbs≤n*B:=by
 induction n with
 | zero => simp [c5]
 | succ n ih =>
  rw [c5,Nat.succ_mul]
  have:=h n
  omega
theorem uG {n k:Nat} {f:Nat→Int} (hn:n≤1048576) (h : ∀ i,(aK (f i).natAbs).length≤k):(aK (c5 n f).natAbs).length≤k+1:=di (by
 have h1:=q3 (n:=n) fun i=>Nat.le_of_lt (xq (h i))
 rw [Nat.pow_succ,Nat.mul_comm]
 exact Nat.lt_of_le_of_lt h1 (Nat.mul_lt_mul_of_pos_right S (Nat.pow_pos Y)))
theorem mw {n:Nat} {f:Nat→Int} (hn:n≤1048576) (h : ∀ i,(aK (f i).natAbs).length≤549755813888):ci (c5 n f):=Nat.le_trans (uG hn h) Y
def fG (n:Nat) (F G:Nat→Nat→Int):Nat→Nat→Int:=fun i j=>c5 n (fun k=>F i k*G k j)
theorem eg {n:Nat} {f:Nat→Int} : c5 (n+1) f=c5 n f+f n:=rfl
attribute [local irreducible] J PJ aQ one slT cA bG bZ exT cE eP aX a8 slV VT.le Ret bS
attribute [local irreducible] bm
theorem q4 (r c:Nat) (v:Nat→Int) (G:Nat→Nat→Int) (hr:r≤1048576) (hc0:c≤1048576) (hv : ∀ i,cx (v i)) (hG : ∀ i j,cx (G i j)) :
  Ok Tryz.prog 80 [cX r v,bp r c G] (cX c (fun j=>c5 r (fun k=>v k*G k j))):=by
 unfold cX bp
 refine Ok.enter Tryz.func80 Z Tryz.ntmps80 Z (fun w O => ?_)
 refine ah (aj ?_)
 refine aY Z Z (ltN Z) (fun b => ?_)
 refine An Z (Ap (aa (ah (aj (Al (ab Z) (Al (ak 0 Z Z Z) ?_))))))
 refine cK c c Z Z Z Z (Nat.le_refl _) Z Z S Z Z (fun bz => ?_)
 refine An Z (Ap (aa (ah (ah (aj (Am Z (Al (be Z) (Am Z (Ap ?_)))))))))
 refine aa (ar ?_)
 refine cO (σ:=Nat) (fun i => [(3,one (.pointer (some ⟨b,0,none⟩))),(5,one (slV (some bz) c c)),(13,slT (.agg 2) r (fun j=>bm (v j))),(14,one (.int .i64 r)),(15,one (.int .i64 (i:Nat)))])
  (fun i => [a8 (some bz) 55 (.agg 2) c c (fun q=>bm (c5 i (fun k=>v k*G k q))),aX b 29 3 [(0, .one,one (.int .i64 r)),(1, .one,one (.int .i64 c)),(2, .one,slT .one r (fun i=>cX c (G i)))]])
  (fun i=>i≤r) (fun i=>r - i) 0 (Nat.zero_le _) Ai (.keep (eW fun q hq=>iS) (SubM.refl _)) (fun i hi => ?_)
 unfold cX
 refine ah (aj (Al (aS Z Z) (Ap (aa (ah ?_)))))
 refine a5 Z (fun hc => ?_) (fun hc => ?_) <;> simp only [decide_eq_true_eq,decide_eq_false_iff_not,ne_eq,Decidable.not_not] at hc
 ·refine au (aa (ah (ar (ah (aj (Am Z ?_))))))
  (refine Al (ax Z Z ?_) ?_;omega)
  refine Al (aH Z) ?_
  refine aT (T:=55) Z (ltN Z) (fun b => ?_)
  refine An Z (aF 0 Z Z Z Z Z (leN Z) Z (Ap (aa (ah (ah (aj (Al (ak 0 Z Z Z) ?_)))))))
  rename_i ba
  refine Al (am (cw (v i)) Z ⟨W,Aq⟩) ?_
  refine Al (cj Z Z) (Ap (aa ?_))
  refine a5 Z (fun hc2 => ?_) (fun hc2 => ?_) <;> simp only [decide_eq_true_eq,decide_eq_false_iff_not,cI] at hc2
  ·refine aU (av (aC (aa (aj ?_))))
   (refine Al (cq Z Z (aR ?_ ?_)) ?_;omega;omega)
   refine Am Z (Ap ?_)
   refine bM (s:=i) (i+1) (show _ from by omega) (by show r - (i+1)<r - i;omega) Ai (.drop (.keep (cy fun q hq => ?_) (SubM.refl _)))
   rw [eg,hc2]; simp
  ·refine au (aa (ah (aj (Al (ab Z) (Al (ak 2 Z Z Z) (Am Z ?_))))))
   (refine Al (ax Z Z ?_) ?_;omega)
   refine Al (aH Z) (Al (be Z) (Am Z (Ap (aa (ar ?_)))))
   refine cO (σ:=Nat) (fun j => [(3,one (.pointer (some ⟨ba,0,none⟩))),(5,one (slV (some bz) c c)),(6,one (.int .i64 (i:Nat))),(7,one (.pointer (some ⟨b,0,none⟩))),(13,slT (.agg 2) r (fun j=>bm (v j))),(14,one (.int .i64 r)),(15,one (.int .i64 (i:Nat))),(27,slT (.agg 2) c (fun j=>bm (G i j))),(28,one (.int .i64 c)),(29,one (.int .i64 (j:Nat)))])
    (fun j => [aX b 55 2 [(0, .agg 2,bm (v i))],a8 (some bz) 55 (.agg 2) c c (fun q=>bm (if q<j then c5 (i+1) (fun k=>v k*G k q) else c5 i (fun k=>v k*G k q))),aX ba 29 3 [(0, .one,one (.int .i64 r)),(1, .one,one (.int .i64 c)),(2, .one,slT .one r (fun i=>slT (.agg 2) c (fun j=>bm (G i j))))]])
    (fun j=>j≤c) (fun j=>c - j) 0 (Nat.zero_le _) Ai (.keep Ak (.keep (cy fun q hq=>by rw [if_neg S]) (SubM.refl _))) (fun j hj => ?_)
   refine ah (aj (Al (aS Z Z) (Ap (aa (ah ?_)))))
   refine a5 Z (fun hc3 => ?_) (fun hc3 => ?_) <;> simp only [decide_eq_true_eq,decide_eq_false_iff_not,Int.ofNat_lt] at hc3
   ·refine au (aa (ah (ar (ah (aj (Am Z ?_))))))
    (refine Al (ax Z Z ?_) ?_;omega)
    refine Al (aH Z) ?_
    refine aT (T:=55) Z (ltN Z) (fun b => ?_)
    refine An Z (aF 0 Z Z Z Z Z (leN Z) Z (Ap (aa (ah (aj (Al (ak 0 Z Z Z) ?_))))))
    refine Al (am (cw (G i j)) Z ⟨W,Aq⟩) ?_
    refine Al (dy Z Z) (Ap (aa ?_))
    refine a5 Z (fun hc4 => ?_) (fun hc4 => ?_) <;> simp only [decide_eq_true_eq,decide_eq_false_iff_not,ne_eq,Decidable.not_not,cI] at hc4
    ·skip
     refine aZ 11 aV X Y (Am Z (Am Z (Am Z (Am Z ?_))))
     (refine Al (an Z Z ?_) ?_;omega)
     (refine Al (aI 2 Z Z ?_) ?_;omega)
     refine Al (ak 1 Z Z Z) (Al (ak 0 Z Z Z) ?_)
     refine Al (am (ip (v i) (G i j) (bA (hv i)) (bA (hG i j))) Z ⟨W,W,Aq⟩) ?_
     rw [if_neg (Nat.lt_irrefl j)]
     refine Al (am (oz (c5 i (fun k=>v k*G k j)) (v i*G i j) (mw S (fun k=>ms (hv k) (hG k j))) (fW (hv i) (hG i j))) Z ⟨W,W,Aq⟩) ?_
     (refine Al (an Z Z ?_) ?_;omega)
     refine Ap ?_
     (refine bD 2 Z Z Z ?_ Z ?_;omega)
     refine Ap (aD (aa (aj ?_)))
     (refine Al (cq Z Z (aR ?_ ?_)) ?_;omega;omega)
     refine Am Z (Ap ?_)
     refine bM (s:=j) (j+1) (show _ from by omega) (by show c - (j+1)<c - j;omega) Ai (.drop (.keep Ak (.keep (cy fun q hq => ?_) (SubM.refl _))))
     unfold upd
     by_cases h:q=j
     ·subst h;rw [if_pos Z,if_pos S]; rfl
     ·rw [if_neg h]
      have e:q<j+1↔q<j:=by omega
      simp only [e]
    ·refine au (aD (aa (aj ?_)))
     (refine Al (cq Z Z (aR ?_ ?_)) ?_;omega;omega)
     refine Am Z (Ap ?_)
     refine bM (s:=j) (j+1) (show _ from by omega) (by show c - (j+1)<c - j;omega) Ai (.drop (.keep Ak (.keep (cy fun q hq => ?_) (SubM.refl _))))
     by_cases h:q=j
     ·subst h;rw [if_neg (Nat.lt_irrefl _),if_pos S,eg,hc4]; simp
     ·have e:q<j+1↔q<j:=by omega
      simp only [e]
   ·refine aU (av (av (aC (aD (aa (aj ?_))))))
    (refine Al (cq Z Z (aR ?_ ?_)) ?_;omega;omega)
    refine Am Z (Ap ?_)
    refine bM (s:=i) (i+1) (show _ from by omega) (by show r - (i+1)<r - i;omega) Ai (.drop (.keep (cy fun q hq => ?_) (SubM.refl _)))
    rw [if_pos S]
 ·have hk:i=r:=by omega
  subst hk
  refine aU (av (av (aC (aa (ah (aj (Am Z (An Z (Ap ?_)))))))))
  refine aa (aG (dz (t:=4) (i:=0) Z Z ?_))
  exact aP Tryz.results80 (.tmp Z W)
end Tor
end
section
namespace Tor
theorem iV (n:Nat) (f g:Nat→Int):c5 n (fun k=>f k+g k)=c5 n f+c5 n g:=by
 induction n with
 | zero => rfl
 | succ n ih => rw [eg, eg, eg, ih]; omega
theorem nC (n:Nat) (f:Nat→Int) (c:Int):c5 n (fun k=>f k*c)=c5 n f*c:=by
 induction n with
 | zero => simp [c5]
 | succ n ih => rw [eg, eg, ih, Int.add_mul]
theorem eL (n:Nat) (f:Nat→Int) (c:Int):c5 n (fun k=>c*f k)=c*c5 n f:=by
 induction n with
 | zero => simp [c5]
 | succ n ih => rw [eg, eg, ih, Int.mul_add]
theorem td (n:Nat):c5 n (fun _=>0)=0:=by
 induction n with
 | zero => rfl
 | succ n ih => rw [eg, ih]; rfl
def EqP (n m:Nat) (M U A:Nat→Nat→Int):Prop := ∀ i j,i<n→j<m→M i j=c5 n (fun k=>U i k*A k j)
def trS (i r a:Nat):Nat:=if a=i then r else if a=r then i else a
theorem kT {α:Type} (i r:Nat) (F:Nat→α) (a:Nat):swp i r F a=F (trS i r a):=by
 unfold swp trS;split
 ·rfl
 ·split <;> rfl
theorem q5 {n i r a:Nat} (hi:i<n) (hr:r<n) (ha:a<n):trS i r a<n:=by
 unfold trS;split
 ·exact hr
 ·split
  ·exact hi
  ·exact ha
theorem ya {i r a b:Nat} : trS i r a=trS i r b↔a=b:=by
 unfold trS
 constructor
 ·intro h
  by_cases h1:a=i <;> by_cases h2:b=i <;> by_cases h3:a=r <;> by_cases h4:b=r <;> simp_all
 ·rintro rfl;rfl
theorem EqP.swap {n m i r:Nat} {M U A:Nat→Nat→Int} (h:EqP n m M U A) (hi:i<n) (hr:r<n):EqP n m (swp i r M) (swp i r U) A:=fun a j ha hj=>by
 rw [kT,kT]; exact h _ j (q5 hi hr ha) hj
theorem EqP.neg {n m r:Nat} {M U A:Nat→Nat→Int} (h:EqP n m M U A):EqP n m (cN r M) (cN r U) A:=fun a j ha hj=>by
 unfold cN
 by_cases e:a=r
 ·simp only [if_pos e]
  rw [h a j ha hj,cF (f:=fun k => -U a k*A k j) (g:=fun k => -1*(U a k*A k j)) (fun k _=>by rw [Int.neg_mul,Int.neg_one_mul]),eL,Int.neg_one_mul]
 ·simp only [if_neg e]; exact h a j ha hj
theorem EqP.sub {n m k r:Nat} {q:Int} {M U A:Nat→Nat→Int} (h:EqP n m M U A) (hr:r<n):EqP n m (bW k r q M) (bW k r q U) A:=fun a j ha hj=>by
 unfold bW
 by_cases e:a=k
 ·simp only [if_pos e]
  rw [h a j ha hj,h r j hr hj,cF (f:=fun t=>(U a t - q*U r t)*A t j) (g:=fun t=>U a t*A t j + -q*(U r t*A t j)) (fun t _=>by
   rw [Int.sub_mul,Int.neg_mul,Int.mul_assoc]; rfl),iV,eL,Int.neg_mul]
  rfl
 ·simp only [if_neg e]; exact h a j ha hj
def iD (n:Nat) (U V:Nat→Nat→Int):Prop := ∀ i j,i<n→j<n→c5 n (fun k=>U i k*V k j)=if i=j then 1 else 0
theorem iD.swap {n i r:Nat} {U V:Nat→Nat→Int} (h:iD n U V) (hi:i<n) (hr:r<n):iD n (swp i r U) (gP i r V):=fun a b ha hb=>by
 have:=h _ _ (q5 hi hr ha) (q5 hi hr hb)
 rw [cF (g:=fun k=>U (trS i r a) k*V k (trS i r b)) (fun k _=>by rw [kT]; unfold gP;rw [kT]),this]
 by_cases e:a=b
 ·rw [if_pos e,if_pos (ya.2 e)]
 ·rw [if_neg e,if_neg (fun h2=>e (ya.1 h2))]
theorem iD.neg {n r:Nat} {U V:Nat→Nat→Int} (h:iD n U V):iD n (cN r U) (gG r V):=fun a b ha hb=>by
 have h1:=h a b ha hb
 unfold cN gG
 by_cases ea:a=r <;> by_cases eb:b=r
 ·simp only [if_pos ea,if_pos eb,Int.neg_mul_neg]
  rw [h1]
 ·simp only [if_pos ea,if_neg eb]
  rw [cF (g:=fun k => -1*(U a k*V k b)) (fun k _=>by rw [Int.neg_mul,Int.neg_one_mul]),eL,h1,if_neg S]; rfl
 ·simp only [if_neg ea,if_pos eb]
  rw [cF (g:=fun k => -1*(U a k*V k b)) (fun k _=>by rw [Int.mul_neg,Int.neg_one_mul]),eL,h1,if_neg S]; rfl
 ·simp only [if_neg ea,if_neg eb]; exact h1
theorem iD.sub {n k r:Nat} {q:Int} {U V:Nat→Nat→Int} (h:iD n U V) (hk:k<n) (hr:r<n) (hne:k≠r):iD n (bW k r q U) (eQ r k q V):=fun a b ha hb=>by
 have key : ∀ Af:Nat→Int,c5 n (fun t=>bW k r q U a t*Af t)=c5 n (fun t=>U a t*Af t) - if a=k then q*c5 n (fun t=>U r t*Af t) else 0:=fun Af=>by
  unfold bW
  by_cases e:a=k
  ·simp only [if_pos e]
   rw [cF (g:=fun t=>U a t*Af t + -q*(U r t*Af t)) (fun t _=>by rw [Int.sub_mul,Int.neg_mul,Int.mul_assoc]; rfl),iV,eL,Int.neg_mul]
   rfl
  ·simp only [if_neg e]; omega
 by_cases eb:b=r
 ·have e2 : ∀ i,i<n→c5 n (fun t=>U i t*eQ r k q V t b)=(if i=r then 1 else 0)+q*(if i=k then 1 else 0):=fun i hi=>by
   have h1:=h i r hi hr
   have h2:=h i k hi hk
   unfold eQ
   simp only [if_pos eb]
   rw [eb,cF (g:=fun t=>U i t*V t r+q*(U i t*V t k)) (fun t _=>by rw [Int.mul_add,Int.mul_left_comm]),iV,eL,h1,h2]
  rw [key,e2 a ha,e2 r hr,if_pos Z,if_neg (show ¬ r=k from fun e=>hne e.symm),eb]
  by_cases e:a=k
  ·rw [if_pos e,if_pos e,if_neg (show ¬ a=r by omega)]; omega
  ·rw [if_neg e,if_neg e]; omega
 ·have e2 : ∀ i,i<n→c5 n (fun t=>U i t*eQ r k q V t b)=if i=b then 1 else 0:=fun i hi=>by
   have h1:=h i b hi hb
   unfold eQ
   simp only [if_neg eb]
   exact h1
  rw [key,e2 a ha,e2 r hr,if_neg (show ¬ r=b from fun e=>eb e.symm)]
  by_cases e:a=k
  ·rw [if_pos e]; omega
  ·rw [if_neg e]; omega
structure SSI (n m:Nat) (A:Nat→Nat→Int) (s:SS):Prop where
 ua:EqP n m s.M s.U A
 uv:iD n s.U s.V
 hr:s.row≤n
 hc:s.col≤m
theorem SSI.step {n m:Nat} {A:Nat→Nat→Int} {s:SS} (h:SSI n m A s) (hf:cR n m s=false):SSI n m A (c8 n s):=by
 have hf : ¬ (s.row=n∨s.col=m):=of_decide_eq_false hf
 have h1:=h.hr
 have h2:=h.hc
 have hrn:s.row<n:=by omega
 unfold c8
 generalize hx:(fun i=>s.M i s.col)=x
 rcases dW x s.row (n - s.row) with ⟨e,_⟩ | ⟨i,e,i1,i2,i3,i4⟩
 ·rw [e,if_pos Y]; exact ⟨h.ua,h.uv,h.hr,by show s.col+1≤m;omega⟩
 ·rw [e,if_neg S,Int.toNat_natCast]
  by_cases c1:(i:Int)≠(s.row:Int)
  ·rw [if_pos c1]; exact ⟨h.ua.swap S hrn,h.uv.swap S hrn,h.hr,h.hc⟩
  ·rw [if_neg c1]
   by_cases c2:s.M s.row s.col<0
   ·rw [if_pos c2]; exact ⟨h.ua.neg,h.uv.neg,h.hr,h.hc⟩
   ·rw [if_neg c2]
    by_cases c3:cQ (ct x (s.M s.row s.col) s.row) n<n
    ·rw [if_pos c3]
     have h3:=e6 _ _ c3
     unfold ct at h3
     have h3:=of_decide_eq_true h3
     exact ⟨h.ua.sub hrn,h.uv.sub c3 hrn h3.1,h.hr,h.hc⟩
    ·rw [if_neg c3]; exact ⟨h.ua,h.uv,hrn,by show s.col+1≤m;omega⟩
end Tor
end
section
namespace Tor
def bH (c:Nat) (f:Nat→Int):Nat:=cQ (fun j=>decide (f j≠0)) c
def IsH (r c:Nat) (F:Nat→Nat→Int):Prop := ∀ i,i<r→bH c (F i)<c→0<F i (bH c (F i)) ∧ ∀ k,k<i→bH c (F k)<bH c (F i)∧0≤F k (bH c (F i))∧F k (bH c (F i))<F i (bH c (F i))
structure FrmS (n:Nat) (s:SS) (pv:Nat→Nat):Prop where
 lt : ∀ i,i<s.row→pv i<s.col
 pos : ∀ i,i<s.row→0<s.M i (pv i)
 zero : ∀ i j,i<s.row→j<pv i→s.M i j=0
 ord : ∀ i k,i<s.row→k<i→pv k<pv i∧0≤s.M k (pv i)∧s.M k (pv i)<s.M i (pv i)
 low : ∀ i j,s.row≤i→i<n→j<s.col→s.M i j=0
theorem FrmS.lead {n:Nat} {s:SS} {pv:Nat→Nat} (h:FrmS n s pv) {i:Nat} (hi:i<s.row):bH s.col (s.M i)=pv i :=
 ol (h.lt i hi) (fun j hj=>decide_eq_false (fun e=>e (h.zero i j hi hj))) (decide_eq_true (by have:=h.pos i hi;omega))
theorem FrmS.isH {n:Nat} {s:SS} {pv:Nat→Nat} (h:FrmS n s pv):IsH s.row s.col s.M:=fun i hi _=>by
 rw [h.lead hi]
 refine ⟨h.pos i hi,fun k hk => ?_⟩
 rw [h.lead (show k<s.row by omega)]
 exact h.ord i k hi hk
theorem te {x p:Int} (hp:0<p) (h:x / p=0):0≤x∧x<p:=by
 have h1:=Int.mul_ediv_add_emod x p
 have h2:=Int.emod_nonneg x (show p≠0 by omega)
 have h3:=Int.emod_lt_of_pos x hp
 rw [h,Int.mul_zero] at h1
 omega
theorem FrmS.step {n m:Nat} {s:SS} {pv:Nat→Nat} (h:FrmS n s pv) (hrn:s.row<n) : ∃ pv',FrmS n (c8 n s) pv':=by
 unfold c8
 rcases dW (fun i=>s.M i s.col) s.row (n - s.row) with ⟨e,h0⟩ | ⟨i,e,i1,i2,i3,i4⟩
 ·rw [e,if_pos Y]
  refine ⟨pv,fun i hi=>Nat.lt_succ_of_lt (h.lt i hi),h.pos,h.zero,h.ord,fun i j h1 h2 h3 => ?_⟩
  rcases Nat.lt_or_ge j s.col with h4 | h4
  ·exact h.low i j h1 h2 h4
  ·have:j=s.col:=by have:j<s.col+1:=h3;omega
   rw [this]; exact h0 i h1 S
 ·rw [e,if_neg S,Int.toNat_natCast]
  by_cases c1:(i:Int)≠(s.row:Int)
  ·rw [if_pos c1]
   have hsw : ∀ k,k<s.row→swp i s.row s.M k=s.M k:=fun k hk=>by unfold swp;rw [if_neg S,if_neg S]
   refine ⟨pv,h.lt,fun k hk => ?_,fun k j hk hj => ?_,fun a k ha hk => ?_,fun a j h1 h2 h3 => ?_⟩
   ·show 0<swp i s.row s.M k (pv k);rw [hsw k hk]; exact h.pos k hk
   ·show swp i s.row s.M k j=0;rw [hsw k hk]; exact h.zero k j hk hj
   ·have ha:a<s.row:=ha
    show pv k<pv a∧0≤swp i s.row s.M k (pv a)∧swp i s.row s.M k (pv a)<swp i s.row s.M a (pv a)
    rw [hsw k S,hsw a ha]; exact h.ord a k ha hk
   ·show swp i s.row s.M a j=0
    unfold swp
    split
    ·exact h.low _ j (Nat.le_refl _) hrn h3
    ·split
     ·exact h.low i j i1 S h3
     ·exact h.low a j h1 h2 h3
  ·rw [if_neg c1]
   have hir:i=s.row:=by omega
   subst hir
   by_cases c2:s.M s.row s.col<0
   ·rw [if_pos c2]
    have hne : ∀ k,k<s.row→cN s.row s.M k=s.M k:=fun k hk=>by funext j;unfold cN;rw [if_neg S]
    refine ⟨pv,h.lt,fun k hk => ?_,fun k j hk hj => ?_,fun a k ha hk => ?_,fun a j h1 h2 h3 => ?_⟩
    ·show 0<cN s.row s.M k (pv k);rw [hne k hk]; exact h.pos k hk
    ·show cN s.row s.M k j=0;rw [hne k hk]; exact h.zero k j hk hj
    ·have ha:a<s.row:=ha
     show pv k<pv a∧0≤cN s.row s.M k (pv a)∧cN s.row s.M k (pv a)<cN s.row s.M a (pv a)
     rw [hne k S,hne a ha]; exact h.ord a k ha hk
    ·show cN s.row s.M a j=0
     unfold cN
     have:=h.low a j h1 h2 h3
     split <;> omega
   ·rw [if_neg c2]
    have hpos:0<s.M s.row s.col:=by have:s.M s.row s.col≠0:=i3;omega
    by_cases c3:cQ (ct (fun i=>s.M i s.col) (s.M s.row s.col) s.row) n<n
    ·rw [if_pos c3]
     generalize cQ (ct (fun i=>s.M i s.col) (s.M s.row s.col) s.row) n=k0 at *
     generalize s.M k0 s.col / s.M s.row s.col=q
     have hsu : ∀ k j,j<s.col→bW k0 s.row q s.M k j=s.M k j:=fun k j hj=>by
      unfold bW
      split
      ·rw [h.low s.row j (Nat.le_refl _) hrn hj,Int.mul_zero]; omega
      ·rfl
     refine ⟨pv,h.lt,fun k hk => ?_,fun k j hk hj => ?_,fun a k ha hk => ?_,fun a j h1 h2 h3 => ?_⟩
     ·show 0<bW k0 s.row q s.M k (pv k);rw [hsu k _ (h.lt k hk)]; exact h.pos k hk
     ·show bW k0 s.row q s.M k j=0;rw [hsu k j (Nat.lt_trans hj (h.lt k hk))]; exact h.zero k j hk hj
     ·have ha:a<s.row:=ha
      show pv k<pv a∧0≤bW k0 s.row q s.M k (pv a)∧bW k0 s.row q s.M k (pv a)<bW k0 s.row q s.M a (pv a)
      rw [hsu k _ (h.lt a ha),hsu a _ (h.lt a ha)]; exact h.ord a k ha hk
     ·show bW k0 s.row q s.M a j=0
      rw [hsu a j h3]; exact h.low a j h1 h2 h3
    ·rw [if_neg c3]
     have hno : ∀ k,k<n→ct (fun i=>s.M i s.col) (s.M s.row s.col) s.row k=false:=fun k hk=>ij _ n k S
     have hab : ∀ k,k<s.row→0≤s.M k s.col∧s.M k s.col<s.M s.row s.col:=fun k hk=>by
      have h1:=of_decide_eq_false (hno k S)
      refine te hpos (Classical.byContradiction fun h2=>h1 ⟨by omega, .inl ⟨hk,h2⟩⟩)
     have hbe : ∀ k,s.row<k→k<n→s.M k s.col=0:=fun k hk hkn=>by
      have h1:=of_decide_eq_false (hno k hkn)
      exact Classical.byContradiction fun h2=>h1 ⟨by omega, .inr ⟨hk,h2⟩⟩
     refine ⟨fun a=>if a<s.row then pv a else s.col,fun a ha => ?_,fun a ha => ?_,fun a j ha hj => ?_,fun a k ha hk => ?_,fun a j h1 h2 h3 => ?_⟩
     ·show (if a<s.row then pv a else s.col)<s.col+1
      split
      ·exact Nat.lt_succ_of_lt (h.lt a ‹_›)
      ·omega
     ·have ha:a<s.row+1:=ha
      show 0<s.M a (if a<s.row then pv a else s.col)
      by_cases h1:a<s.row
      ·rw [if_pos h1]; exact h.pos a h1
      ·rw [if_neg h1,show a=s.row by omega]; exact hpos
     ·have ha:a<s.row+1:=ha
      have hj:j<if a<s.row then pv a else s.col:=hj
      show s.M a j=0
      by_cases h1:a<s.row
      ·rw [if_pos h1] at hj;exact h.zero a j h1 hj
      ·rw [if_neg h1] at hj;exact h.low a j S S hj
     ·have ha:a<s.row+1:=ha
      show (if k<s.row then pv k else s.col)<(if a<s.row then pv a else s.col)∧0≤s.M k (if a<s.row then pv a else s.col)∧s.M k (if a<s.row then pv a else s.col)<s.M a (if a<s.row then pv a else s.col)
      rw [if_pos (show k<s.row by omega)]
      by_cases h1:a<s.row
      ·rw [if_pos h1]; exact h.ord a k h1 hk
      ·rw [if_neg h1,show a=s.row by omega]
       exact ⟨h.lt k S,hab k S⟩
     ·have h1:s.row+1≤a:=h1
      have h3:j<s.col+1:=h3
      rcases Nat.lt_or_ge j s.col with h4 | h4
      ·exact h.low a j S h2 h4
      ·rw [show j=s.col by omega]; exact hbe a S h2
end Tor
end
section
namespace Tor
theorem kW {n:Nat} {f:Nat→Int} (h : ∀ i,i<n→f i=0):c5 n f=0:=by
 rw [cF (g:=fun _=>0) h,td]
theorem fp {f:Nat→Int} {k:Nat} : ∀ {n:Nat},k<n→(∀ i,i<n→i≠k→f i=0)→c5 n f=f k
 | n + 1, hk, h => by
  rw [c5]
  rcases Nat.lt_or_eq_of_le (Nat.lt_succ_iff.1 hk) with h1 | h1
  ·rw [fp h1 (fun i hi hne=>h i S hne),h n S S]; omega
  ·subst h1
   rw [kW fun i hi=>h i S S]; omega
theorem eh {c j:Nat} {f:Nat→Int} (h:j<bH c f):f j=0:=by
 have:=of_decide_eq_false (ij _ c j h)
 exact Classical.byContradiction this
theorem oB {c:Nat} {f:Nat→Int} : bH c f≤c:=j6 _ _
theorem IsH.inc {r c:Nat} {F:Nat→Nat→Int} (h:IsH r c F) {i k:Nat} (hi:i<r) (hk:k<i) (hl:bH c (F i)<c):bH c (F k)<bH c (F i):=((h i hi hl).2 k hk).1
theorem IsH.coef {n m:Nat} {F:Nat→Nat→Int} (h:IsH n m F) {w v:Nat→Int} {J:Nat} (hJ:J≤m) (hv : ∀ j,j<m→v j=c5 n (fun k=>w k*F k j)) (h0 : ∀ j,j<J→v j=0) : ∀ k,k<n→bH m (F k)<J→w k=0:=by
 intro k
 induction k using Nat.strongRecOn with
 | _ k ih =>
  intro hk hl
  have h1:=hv (bH m (F k)) S
  rw [h0 _ hl,fp hk (fun i hi hne => ?_)] at h1
  ·have h2:=(h k hk S).1
   rcases Int.mul_eq_zero.1 h1.symm with h3 | h3
   ·exact h3
   ·omega
  ·rcases Nat.lt_or_ge i k with h2 | h2
   ·have:=h.inc hk h2 S
    rw [ih i h2 hi S,Int.zero_mul]
   ·have hlt:bH m (F k)<bH m (F i):=by
     rcases Nat.lt_or_ge (bH m (F i)) m with h3 | h3
     ·exact h.inc hi S h3
     ·omega
    rw [eh hlt,Int.mul_zero]
theorem IsH.first {n m:Nat} {F:Nat→Nat→Int} (h:IsH n m F) {w v:Nat→Int} {J:Nat} (hJ:J<m) (hv : ∀ j,j<m→v j=c5 n (fun k=>w k*F k j)) (h0 : ∀ j,j<J→v j=0) (hne:v J≠0) : ∃ k,k<n∧bH m (F k)=J∧v J=w k*F k J:=by
 have hc:=h.coef (Nat.le_of_lt hJ) hv h0
 by_cases hx : ∃ k,k<n∧bH m (F k)=J
 ·obtain ⟨k,hk,he⟩:=hx
  refine ⟨k,hk,he,?_⟩
  rw [hv J hJ]
  refine fp hk (fun i hi hik => ?_)
  rcases Nat.lt_trichotomy (bH m (F i)) J with h1 | h1 | h1
  ·rw [hc i hi h1,Int.zero_mul]
  ·exfalso
   rcases Nat.lt_or_ge i k with h2 | h2
   ·have:=h.inc hk h2 S;omega
   ·have:=h.inc hi (show k<i by omega) S;omega
  ·rw [eh h1,Int.mul_zero]
 ·exfalso
  refine hne ?_
  rw [hv J hJ]
  refine kW fun i hi => ?_
  rcases Nat.lt_trichotomy (bH m (F i)) J with h1 | h1 | h1
  ·rw [hc i hi h1,Int.zero_mul]
  ·exact absurd ⟨i,hi,h1⟩ hx
  ·rw [eh h1,Int.mul_zero]
theorem kp {c:Nat} {f:Nat→Int} (h:bH c f<c):f (bH c f)≠0:=of_decide_eq_true (e6 _ _ h)
theorem IsH.le_lead {n m:Nat} {F G:Nat→Nat→Int} {Af:Nat→Nat→Int} (hF:IsH n m F) (hG:IsH n m G) (h1:EqP n m F Af G) {i:Nat} (hi:i<n) (hk : ∀ k,k<i→bH m (F k)=bH m (G k)) (hl:bH m (F i)<m):bH m (G i)≤bH m (F i):=by
 obtain ⟨k,k1,k2,_⟩:=hG.first hl (fun j hj=>h1 i j hi hj) (fun j hj=>eh hj) (kp hl)
 rcases Nat.lt_trichotomy k i with h2 | h2 | h2
 ·have h3:=hF.inc hi h2 hl
  rw [hk k h2] at h3
  omega
 ·subst h2;omega
 ·have:=hG.inc k1 h2 S;omega
theorem IsH.leads {n m:Nat} {F G:Nat→Nat→Int} {Af W':Nat→Nat→Int} (hF:IsH n m F) (hG:IsH n m G) (h1:EqP n m F Af G) (h2:EqP n m G W' F) : ∀ i,i<n→bH m (F i)=bH m (G i):=by
 intro i
 induction i using Nat.strongRecOn with
 | _ i ih =>
  intro hi
  have a1:=fun hl=>hF.le_lead hG h1 hi (fun k hk=>ih k hk S) hl
  have a2:=fun hl=>hG.le_lead hF h2 hi (fun k hk=>(ih k hk S).symm) hl
  have l1:bH m (F i)≤m:=oB
  have l2:bH m (G i)≤m:=oB
  by_cases c1:bH m (F i)<m
  ·have:=a1 c1
   have:=a2 S
   omega
  ·by_cases c2:bH m (G i)<m
   ·have:=a2 c2;omega
   ·omega
theorem IsH.pivot_le {n m:Nat} {F G:Nat→Nat→Int} {Af W':Nat→Nat→Int} (hF:IsH n m F) (hG:IsH n m G) (h1:EqP n m F Af G) (h2:EqP n m G W' F) {i:Nat} (hi:i<n) (hl:bH m (F i)<m):G i (bH m (F i))≤F i (bH m (F i)):=by
 have hle:=hF.leads hG h1 h2
 obtain ⟨k,k1,k2,k3⟩:=hG.first hl (fun j hj=>h1 i j hi hj) (fun j hj=>eh hj) (kp hl)
 have hki:k=i:=by
  have e:=hle i hi
  rcases Nat.lt_trichotomy k i with h3 | h3 | h3
  ·have:=hG.inc hi h3 S;omega
  ·exact h3
  ·have:=hG.inc k1 h3 S;omega
 subst hki
 have p1:=(hF k hi hl).1
 have p2:=(hG k hi (by rw [← hle k hi]; exact hl)).1
 rw [← hle k hi] at p2
 generalize F k (bH m (F k))=a at *
 generalize G k (bH m (F k))=b at *
 rcases Int.lt_or_le 0 (Af k k) with h3 | h3
 ·have:=Int.mul_le_mul_of_nonneg_right (show 1≤Af k k by omega) (Int.le_of_lt p2)
  omega
 ·have:=Int.mul_le_mul_of_nonneg_right (show Af k k≤0 by omega) (Int.le_of_lt p2)
  omega
theorem IsH.uniq {n m:Nat} {F G:Nat→Nat→Int} {Af W':Nat→Nat→Int} (hF:IsH n m F) (hG:IsH n m G) (h1:EqP n m F Af G) (h2:EqP n m G W' F) : ∀ i j,i<n→j<m→F i j=G i j:=by
 have hle:=hF.leads hG h1 h2
 have hpv : ∀ i,i<n→bH m (F i)<m→F i (bH m (F i))=G i (bH m (F i)):=fun i hi hl=>by
  have a1:=hF.pivot_le hG h1 h2 hi hl
  have a2:=hG.pivot_le hF h2 h1 hi (by rw [← hle i hi]; exact hl)
  rw [← hle i hi] at a2
  omega
 intro i j hi hj
 refine Classical.byContradiction fun hne => ?_
 have hJ:bH m (fun j=>F i j - G i j)<m:=by
  rcases Nat.lt_or_ge (bH m (fun j=>F i j - G i j)) m with h | h
  ·exact h
  ·exact absurd (eh (f:=fun j=>F i j - G i j) (show j<bH m (fun j=>F i j - G i j) by omega)) S
 have hcomb : ∀ j,j<m→(fun j=>F i j - G i j) j=c5 n (fun k=>(Af i k - if k=i then 1 else 0)*G k j):=fun j hj=>by
  show F i j - G i j=_
  rw [h1 i j hi hj,cF (f:=fun k=>(Af i k - if k=i then 1 else 0)*G k j) (g:=fun k=>Af i k*G k j+(if k=i then -1 else 0)*G k j) (fun k _=>by
   by_cases e:k=i
   ·rw [if_pos e,if_pos e,Int.sub_mul,Int.neg_mul]; omega
   ·rw [if_neg e,if_neg e,Int.sub_mul,Int.zero_mul]; omega),iV,fp (f:=fun k=>(if k=i then -1 else 0)*G k j) hi (fun k _ hk=>by rw [if_neg hk,Int.zero_mul]),if_pos Z]
  omega
 obtain ⟨k,k1,k2,k3⟩:=hG.first hJ hcomb (fun j hj=>eh hj) (kp hJ)
 generalize hJe:bH m (fun j=>F i j - G i j)=J at *
 have hDne:F i J - G i J≠0:=hJe▸kp (f:=fun j=>F i j - G i j) (by rw [hJe]; exact hJ)
 have hFk:bH m (F k)=J:=by rw [hle k k1]; exact k2
 have hik:i<k:=by
  rcases Nat.lt_trichotomy i k with h | h | h
  ·exact h
  ·subst h
   have h3:=hpv i hi S
   rw [hFk] at h3
   omega
  ·exfalso
   have hl:bH m (G k)<bH m (G i):=by
    rcases Nat.lt_or_ge (bH m (G i)) m with h3 | h3
    ·exact hG.inc hi h h3
    ·omega
   have e1:=eh (f:=G i) (show J<bH m (G i) by omega)
   have e2:=eh (f:=F i) (show J<bH m (F i) by rw [hle i hi]; omega)
   omega
 obtain ⟨_,b1,b2⟩:=(hG k k1 S).2 i hik
 obtain ⟨_,b3,b4⟩:=(hF k k1 S).2 i hik
 have b5:=(hG k k1 S).1
 have h5:=hpv k k1 S
 rw [k2] at b1 b2 b5
 rw [hFk] at b3 b4 h5
 rw [h5] at b4
 have k3:F i J - G i J=(Af i k - if k=i then 1 else 0)*G k J:=k3
 generalize (Af i k - if k=i then (1:Int) else 0)=w at k3
 generalize G k J=p at *
 generalize F i J=x at *
 generalize G i J=y at *
 rcases Int.lt_trichotomy w 0 with h6 | h6 | h6
 ·have:=Int.mul_le_mul_of_nonneg_right (show w ≤ -1 by omega) (Int.le_of_lt b5);omega
 ·rw [h6,Int.zero_mul] at k3;omega
 ·have:=Int.mul_le_mul_of_nonneg_right (show 1≤w by omega) (Int.le_of_lt b5);omega
end Tor
end
section
namespace Tor
theorem gU {f:Nat→Int} {k:Nat} {y:Int} : ∀ {n:Nat},k<n→c5 n (fun i=>if i=k then y else f i)=c5 n f+y - f k
 | n + 1, hk => by
  rw [c5,c5]
  rcases Nat.lt_or_eq_of_le (Nat.lt_succ_iff.1 hk) with h1 | h1
  ·rw [gU h1,if_neg S]; omega
  ·subst h1
   rw [if_pos Z,cF (f:=fun i=>if i=k then y else f i) (g:=f) (fun i hi=>by rw [if_neg S])]; omega
theorem vW {f:Nat→Int} {i r n:Nat} (hi:i<n) (hr:r<n):c5 n (fun k=>f (trS i r k))=c5 n f:=by
 by_cases e:i=r
 ·subst e
  refine cF fun k _ => ?_
  unfold trS;split
  ·rename_i h;rw [h]
  ·rfl
 ·have h1:(fun k=>f (trS i r k))=fun k=>if k=i then f r else (fun k=>if k=r then f i else f k) k:=by
   funext k;unfold trS
   by_cases h2:k=i
   ·rw [if_pos h2,if_pos h2]
   ·rw [if_neg h2,if_neg h2]
    by_cases h3:k=r
    ·rw [if_pos h3]; exact (if_pos h3).symm
    ·rw [if_neg h3]; exact (if_neg h3).symm
  rw [h1,gU hi,gU hr,if_neg e]
  omega
theorem iD.swap' {n i r:Nat} {U V:Nat→Nat→Int} (h:iD n V U) (hi:i<n) (hr:r<n):iD n (gP i r V) (swp i r U):=fun a b ha hb=>by
 rw [← h a b ha hb, ← vW (f:=fun k=>V a k*U k b) hi hr]
 refine cF fun k _ => ?_
 unfold gP
 rw [kT,kT]
theorem iD.neg' {n r:Nat} {U V:Nat→Nat→Int} (h:iD n V U):iD n (gG r V) (cN r U):=fun a b ha hb=>by
 rw [← h a b ha hb]
 refine cF fun k _ => ?_
 unfold cN gG
 by_cases e:k=r
 ·rw [if_pos e,if_pos e,Int.neg_mul_neg]
 ·rw [if_neg e,if_neg e]
theorem iD.sub' {n k r:Nat} {q:Int} {U V:Nat→Nat→Int} (h:iD n V U) (hk:k<n) (hr:r<n) (hne:k≠r):iD n (eQ r k q V) (bW k r q U):=fun a b ha hb=>by
 rw [← h a b ha hb]
 have e1:(fun t=>eQ r k q V a t*bW k r q U t b)=fun t=>if t=k then V a k*U k b - V a k*(q*U r b) else (fun t=>if t=r then V a r*U r b+q*V a k*U r b else V a t*U t b) t:=by
  funext t
  unfold eQ bW
  by_cases h1:t=k
  ·rw [if_pos h1,if_pos h1,if_neg S,h1,Int.mul_sub]
  ·rw [if_neg h1,if_neg h1]
   by_cases h2:t=r
   ·rw [if_pos h2,h2,Int.add_mul]; exact (if_pos Z).symm
   ·rw [if_neg h2]; exact (if_neg h2).symm
 rw [e1,gU hk,gU hr,if_neg hne]
 have:q*V a k*U r b=V a k*(q*U r b):=by rw [Int.mul_comm q,Int.mul_assoc]
 omega
theorem nD (n m:Nat) (f:Nat→Nat→Int):c5 n (fun i=>c5 m (fun j=>f i j))=c5 m (fun j=>c5 n (fun i=>f i j)):=by
 induction n with
 | zero => exact (kW fun j _ => rfl).symm
 | succ n ih => rw [c5, ih, ← iV]; rfl
theorem EqP.back {n m:Nat} {M U A V:Nat→Nat→Int} (h:EqP n m M U A) (hv:iD n V U):EqP n m A V M:=fun i j hi hj=>by
 rw [cF (g:=fun k=>c5 n (fun t=>V i k*U k t*A t j)) (fun k hk=>by
  rw [h k j hk hj, ← eL]; exact cF fun t _=>(Int.mul_assoc _ _ _).symm),nD,cF (g:=fun t=>(if i=t then 1 else 0)*A t j) (fun t ht=>by
  rw [nC,hv i t hi ht]),fp (k:=i) hi (fun t _ hne=>by rw [if_neg (fun e=>hne e.symm),Int.zero_mul]),if_pos Z,Int.one_mul]
theorem EqP.trans {n m:Nat} {M U A Af B:Nat→Nat→Int} (h:EqP n m M U A) (h2:EqP n m A Af B):EqP n m M (fun i k=>c5 n (fun t=>U i t*Af t k)) B:=fun i j hi hj=>by
 rw [h i j hi hj,cF (f:=fun k=>U i k*A k j) (g:=fun k=>c5 n (fun t=>U i k*Af k t*B t j)) (fun k hk=>by
  rw [h2 k j hk hj, ← eL]; exact cF fun t _=>(Int.mul_assoc _ _ _).symm),nD]
 exact cF fun t _=>by rw [nC]
theorem IsH.same {n m:Nat} {A F G U U' V V':Nat→Nat→Int} (hF:IsH n m F) (hG:IsH n m G) (h1:EqP n m F U A) (h2:EqP n m G U' A) (v1:iD n V U) (v2:iD n V' U') : ∀ i j,i<n→j<m→F i j=G i j :=
 hF.uniq hG (h1.trans (h2.back v2)) (h2.trans (h1.back v1))
structure SSJ (n m:Nat) (A:Nat→Nat→Int) (s:SS):Prop extends SSI n m A s where
 vu:iD n s.V s.U
theorem SSJ.step {n m:Nat} {A:Nat→Nat→Int} {s:SS} (h:SSJ n m A s) (hf:cR n m s=false):SSJ n m A (c8 n s):=by
 refine ⟨h.toSSI.step hf,?_⟩
 have hf : ¬ (s.row=n∨s.col=m):=of_decide_eq_false hf
 have h1:=h.hr
 have hrn:s.row<n:=by omega
 unfold c8
 rcases dW (fun i=>s.M i s.col) s.row (n - s.row) with ⟨e,_⟩ | ⟨i,e,i1,i2,i3,i4⟩
 ·rw [e,if_pos Y]; exact h.vu
 ·rw [e,if_neg S,Int.toNat_natCast]
  by_cases c1:(i:Int)≠(s.row:Int)
  ·rw [if_pos c1]; exact h.vu.swap' S hrn
  ·rw [if_neg c1]
   by_cases c2:s.M s.row s.col<0
   ·rw [if_pos c2]; exact h.vu.neg'
   ·rw [if_neg c2]
    by_cases c3:cQ (ct (fun i=>s.M i s.col) (s.M s.row s.col) s.row) n<n
    ·rw [if_pos c3]
     have h3:=of_decide_eq_true (e6 _ _ c3)
     exact h.vu.sub' c3 hrn h3.1
    ·rw [if_neg c3]; exact h.vu
end Tor
end
section
namespace Tor
theorem vX {x p:Int} (hp:p≠0):0≤x - x / p*p∧(x - x / p*p).natAbs<p.natAbs ∧
  ((0≤x∧(1+(x / p).natAbs)*wtN (x - x / p*p)≤wtN x)∨(x<0∧(1+(x / p).natAbs)*wtN (x - x / p*p)≤2*p.natAbs*wtN x)):=by
 have key : ∀ p:Int,0<p→0≤x - x / p*p∧(x - x / p*p).natAbs<p.natAbs ∧
   ((0≤x∧(1+(x / p).natAbs)*wtN (x - x / p*p)≤wtN x)∨(x<0∧(1+(x / p).natAbs)*wtN (x - x / p*p)≤2*p.natAbs*wtN x)):=fun p hp=>by
  have h1:=Int.mul_ediv_add_emod x p
  have h2:=Int.emod_nonneg x (show p≠0 by omega)
  have h3:=Int.emod_lt_of_pos x hp
  rw [Int.mul_comm] at h1
  have e:x - x / p*p=x % p:=by omega
  refine ⟨by omega,by omega,?_⟩
  by_cases hx:0≤x
  ·refine .inl ⟨hx,?_⟩
   rcases Int.lt_or_le x p with h4 | h4
   ·rw [Int.ediv_eq_zero_of_lt hx h4,Int.zero_mul,Int.sub_zero]
    show (1+0)*wtN x≤wtN x
    omega
   ·exact (oo hp h4).1
  ·exact .inr ⟨by omega,(rX hp S).1⟩
 rcases Int.lt_or_le 0 p with h | h
 ·exact key p h
 ·have:=key (-p) S
  rw [Int.ediv_neg,Int.neg_mul_neg,Int.natAbs_neg,Int.natAbs_neg] at this
  exact this
structure PotC (n c t:Nat) (s:SS) (e:Nat):Prop where
 one:1≤e
 bnd:BndS e s
 pot:gQ n e (fun i=>s.M i c)≤2^t
theorem PotC.sub {n c t e k r:Nat} {s:SS} (h:PotC n c t s e) (hk:k<n) (hp:s.M r c≠0) :
  ∃ e',PotC n c t { s with M:=bW k r (s.M k c / s.M r c) s.M,U:=bW k r (s.M k c / s.M r c) s.U,V:=eQ r k (s.M k c / s.M r c) s.V } e':=by
 have hb:=h.bnd
 refine ⟨e*(1+(s.M k c / s.M r c).natAbs),Nat.le_trans h.one (Nat.le_mul_of_pos_right _ S),hb.sub k r _ 0 0,?_⟩
 show gQ n _ (fun a=>bW k r (s.M k c / s.M r c) s.M a c)≤_
 have e2:(fun a=>bW k r (s.M k c / s.M r c) s.M a c)=dc (fun a=>s.M a c) k (s.M k c - s.M k c / s.M r c*s.M r c):=by
  funext a;unfold bW dc
  by_cases ha:a=k
  ·rw [if_pos ha,if_pos ha,ha]
  ·rw [if_neg ha,if_neg ha]
 have hpe:=hb.m r c
 have u1:=ik (x:=fun a=>s.M a c) (y:=s.M k c - s.M k c / s.M r c*s.M r c) hk
 have u2:=im (g:=ngN) (x:=fun a=>s.M a c) (y:=s.M k c - s.M k c / s.M r c*s.M r c) hk
 have hP0:=jb (fun a=>s.M a c) n
 have hw0:=jD (s.M k c)
 obtain ⟨d0,_,d1⟩:=vX (x:=s.M k c) hp
 have g2:ngN (s.M k c - s.M k c / s.M r c*s.M r c)=0:=by unfold ngN;rw [if_neg S]
 rw [e2]
 refine Nat.le_trans ?_ h.pot
 unfold gQ
 rcases d1 with ⟨hx,d1⟩ | ⟨hx,d1⟩
 ·have g1:ngN (s.M k c)=0:=by unfold ngN;rw [if_neg S]
  rw [g1,g2,Nat.add_zero,Nat.add_zero] at u2
  rw [u2]
  generalize s.M k c - s.M k c / s.M r c*s.M r c=y at *
  generalize (s.M k c / s.M r c).natAbs=q at *
  generalize prX (dc (fun a=>s.M a c) k y) n=A at *
  generalize prX (fun a=>s.M a c) n=B at *
  refine Nat.pow_le_pow_left (Nat.mul_le_mul_left 2 ?_) _
  refine Nat.le_of_mul_le_mul_right (c:=wtN (s.M k c)) ?_ hw0
  have:e*(1+q)*A*wtN (s.M k c)=e*B*((1+q)*wtN y):=by
   rw [Nat.mul_assoc,u1]; ac_rfl
  rw [this]
  exact Nat.mul_le_mul_left _ d1
 ·have g1:ngN (s.M k c)=1:=by unfold ngN;rw [if_pos hx]
  rw [g1,g2,Nat.add_zero] at u2
  generalize s.M k c - s.M k c / s.M r c*s.M r c=y at *
  generalize (s.M k c / s.M r c).natAbs=q at *
  generalize prX (dc (fun a=>s.M a c) k y) n=A at *
  generalize prX (fun a=>s.M a c) n=B at *
  refine pK u2.symm ?_
  refine Nat.le_of_mul_le_mul_right (c:=wtN (s.M k c)) ?_ hw0
  have e3:e*(1+q)*A*wtN (s.M k c)=e*B*((1+q)*wtN y):=by
   rw [Nat.mul_assoc,u1]; ac_rfl
  rw [e3]
  refine Nat.le_trans (Nat.mul_le_mul_left _ d1) ?_
  have e4:2*(e*B*(e*B))*wtN (s.M k c)=e*B*(2*(e*B)*wtN (s.M k c)):=by ac_rfl
  rw [e4]
  exact Nat.mul_le_mul_left _ (Nat.mul_le_mul_right _ (Nat.mul_le_mul_left 2 (Nat.le_trans hpe (Nat.le_mul_of_pos_right _ hP0))))
theorem PotC.swap {n c t e i r:Nat} {s:SS} (h:PotC n c t s e) (hi:i<n) (hr:r<n) (hne:i≠r):PotC n c t { s with M:=swp i r s.M,U:=swp i r s.U,V:=gP i r s.V } e:=by
 have hb:=h.bnd
 refine ⟨h.one,⟨j7 hb.m,j7 hb.u,fun a j => ?_⟩,?_⟩
 ·show (swp i r (s.V a) j).natAbs≤e
  unfold swp;split
  ·exact hb.v _ _
  ·split <;> exact hb.v _ _
 ·show gQ n e (fun a=>swp i r s.M a c)≤_
  have e2:(fun a=>swp i r s.M a c)=swp i r (fun a=>s.M a c):=by funext a;unfold swp;split;rfl;split <;> rfl
  have hp:=h.pot
  unfold gQ at *
  rw [e2,rV hi hr hne,rW hi hr hne]
  exact hp
theorem PotC.neg {n c t e r:Nat} {s:SS} (h:PotC n c t s e) (hr:r<n) (hx:s.M r c<0):PotC n c t { s with M:=cN r s.M,U:=cN r s.U,V:=gG r s.V } e:=by
 have hb:=h.bnd
 refine ⟨h.one,⟨fun a j => ?_,fun a j => ?_,fun a j => ?_⟩,?_⟩
 ·show (cN r s.M a j).natAbs≤e
  have:=hb.m a j
  unfold cN;split <;> omega
 ·show (cN r s.U a j).natAbs≤e
  have:=hb.u a j
  unfold cN;split <;> omega
 ·show (gG r s.V a j).natAbs≤e
  have:=hb.v a j
  unfold gG;split <;> omega
 ·show gQ n e (fun a=>cN r s.M a c)≤_
  have e2:(fun a=>cN r s.M a c)=dc (fun a=>s.M a c) r (-s.M r c):=by
   funext a;unfold cN dc
   by_cases ha:a=r
   ·rw [if_pos ha,if_pos ha,ha]
   ·rw [if_neg ha,if_neg ha]
  have hp:=h.pot
  have u1:=ik (x:=fun a=>s.M a c) (y := -s.M r c) hr
  have u2:=im (g:=ngN) (x:=fun a=>s.M a c) (y := -s.M r c) hr
  have w1:wtN (-s.M r c)=wtN (s.M r c):=by
   unfold wtN;rw [if_neg S,if_neg S,Int.natAbs_neg]
  have w2:ngN (s.M r c)=1:=by unfold ngN;rw [if_pos hx]
  have w3:ngN (-s.M r c)=0:=by unfold ngN;rw [if_neg S]
  rw [w1] at u1
  have u1:=Nat.eq_of_mul_eq_mul_right (jD _) u1
  rw [w2,w3] at u2
  rw [e2]
  unfold gQ at *
  rw [u1]
  refine Nat.le_trans (Nat.pow_le_pow_right ?_ (Nat.pow_le_pow_right Y S)) hp
  have:=Nat.mul_pos h.one (jb (fun a=>s.M a c) n)
  omega
/-! ### The form -/
theorem FrmS.chg {n:Nat} {s:SS} {pv:Nat→Nat} {M' U' V':Nat→Nat→Int} (h:FrmS n s pv) (h1 : ∀ a j,a<s.row→j<s.col→M' a j=s.M a j) (h2 : ∀ a j,s.row≤a→a<n→j<s.col→M' a j=0):FrmS n { s with M:=M',U:=U',V:=V' } pv:=by
 refine ⟨h.lt,fun i hi => ?_,fun i j hi hj => ?_,fun i k hi hk => ?_,fun i j hi hn hj=>h2 i j hi hn hj⟩
 ·show 0<M' i (pv i);rw [h1 i _ hi (h.lt i hi)]; exact h.pos i hi
 ·show M' i j=0;rw [h1 i j hi (Nat.lt_trans hj (h.lt i hi))]; exact h.zero i j hi hj
 ·have hi:i<s.row:=hi
  show pv k<pv i∧0≤M' k (pv i)∧M' k (pv i)<M' i (pv i)
  rw [h1 k _ S (h.lt i hi),h1 i _ hi (h.lt i hi)]; exact h.ord i k hi hk
theorem FrmS.skip {n:Nat} {s:SS} {pv:Nat→Nat} (h:FrmS n s pv) (h0 : ∀ i,s.row≤i→i<n→s.M i s.col=0):FrmS n { s with col:=s.col+1 } pv :=
 ⟨fun i hi=>Nat.lt_succ_of_lt (h.lt i hi),h.pos,h.zero,h.ord,fun i j h1 h2 h3=>by
  rcases Nat.lt_or_ge j s.col with h4 | h4
  ·exact h.low i j h1 h2 h4
  ·have:j=s.col:=by have:j<s.col+1:=h3;omega
   rw [this]; exact h0 i h1 h2⟩
theorem FrmS.next {n:Nat} {s:SS} {pv:Nat→Nat} (h:FrmS n s pv) (hrn:s.row<n) (hpos:0<s.M s.row s.col) (hab : ∀ k,k<s.row→0≤s.M k s.col∧s.M k s.col<s.M s.row s.col) (hbe : ∀ k,s.row<k→k<n→s.M k s.col=0) :
  FrmS n { s with row:=s.row+1,col:=s.col+1 } (fun a=>if a<s.row then pv a else s.col):=by
 refine ⟨fun a ha => ?_,fun a ha => ?_,fun a j ha hj => ?_,fun a k ha hk => ?_,fun a j h1 h2 h3 => ?_⟩
 ·show (if a<s.row then pv a else s.col)<s.col+1
  split
  ·exact Nat.lt_succ_of_lt (h.lt a ‹_›)
  ·omega
 ·have ha:a<s.row+1:=ha
  show 0<s.M a (if a<s.row then pv a else s.col)
  by_cases h1:a<s.row
  ·rw [if_pos h1]; exact h.pos a h1
  ·rw [if_neg h1,show a=s.row by omega]; exact hpos
 ·have ha:a<s.row+1:=ha
  have hj:j<if a<s.row then pv a else s.col:=hj
  show s.M a j=0
  by_cases h1:a<s.row
  ·rw [if_pos h1] at hj;exact h.zero a j h1 hj
  ·rw [if_neg h1] at hj
   exact h.low a j S S hj
 ·have ha:a<s.row+1:=ha
  show (if k<s.row then pv k else s.col)<(if a<s.row then pv a else s.col)∧0≤s.M k (if a<s.row then pv a else s.col)∧s.M k (if a<s.row then pv a else s.col)<s.M a (if a<s.row then pv a else s.col)
  rw [if_pos (show k<s.row by omega)]
  by_cases h1:a<s.row
  ·rw [if_pos h1]; exact h.ord a k h1 hk
  ·rw [if_neg h1,show a=s.row by omega]
   exact ⟨h.lt k S,hab k S⟩
 ·have h1:s.row+1≤a:=h1
  have h3:j<s.col+1:=h3
  rcases Nat.lt_or_ge j s.col with h4 | h4
  ·exact h.low a j S h2 h4
  ·rw [show j=s.col by omega]; exact hbe a S h2
end Tor
end
section
namespace Tor
theorem my {x:Nat→Int} {r n:Nat} (h0:x r≠0) : ∀ j,1≤j→(∀ k,r≤k→k<r+j→x k≠0→(x r).natAbs≤(x k).natAbs)→c9 x r j=(r:Int)
 | 0, h, _ => by omega
 | 1, _, _ => by
  rw [c9,c9,if_pos ⟨by rw [Nat.add_zero]; exact h0, .inl Y⟩,Nat.add_zero]
 | j + 2, _, h => by
  have ih:=my (n:=n) h0 (j+1) S (fun k h1 h2=>h k h1 S)
  rw [c9,ih,if_neg (fun hc => ?_)]
  rcases hc.2 with h3 | h3
  ·omega
  ·rw [Int.toNat_natCast] at h3
   have:=h (r+(j+1)) S S hc.1
   omega
def flS (n:Nat) (s:SS):Nat:=if c9 (fun i=>s.M i s.col) s.row (n - s.row)=(s.row:Int) then 0 else 1
abbrev fu (s:SS):Nat→Int:=fun i=>s.M i s.col
theorem uH {s:SS} {k r:Nat} {q:Int} : (fun a=>bW k r q s.M a s.col)=dc (fun a=>s.M a s.col) k (s.M k s.col - q*s.M r s.col):=by
 funext a;unfold bW dc
 by_cases ha:a=k
 ·rw [if_pos ha,if_pos ha,ha]
 ·rw [if_neg ha,if_neg ha]
end Tor
end
section
namespace Tor
/-! ### Products with weights -/
def prW (w:Int→Nat) (x:Nat→Int):Nat→Nat
 | 0 => 1
 | n + 1 => prW w x n * w (x n)
theorem oC {w:Int→Nat} (hw : ∀ y,0<w y) (x:Nat→Int) : ∀ n,0<prW w x n
 | 0 => Nat.one_pos
 | n + 1 => Nat.mul_pos (oC hw x n) (hw _)
theorem r9 {w:Int→Nat} {x:Nat→Int} {k:Nat} {y:Int} : ∀ {n:Nat},n≤k→prW w (dc x k y) n=prW w x n
 | 0, _ => rfl
 | n + 1, h => by rw [prW, prW, r9 (show n ≤ k by omega)]; unfold dc; rw [if_neg S]
theorem ir {w:Int→Nat} {x:Nat→Int} {k:Nat} {y:Int} : ∀ {n:Nat},k<n→prW w (dc x k y) n*w (x k)=prW w x n*w y
 | n + 1, h => by
  rw [prW,prW]
  rcases Nat.lt_or_eq_of_le (Nat.lt_succ_iff.1 h) with h1 | h1
  ·have ih:=ir (w:=w) (x:=x) (y:=y) h1
   have e:dc x k y n=x n:=by unfold dc;rw [if_neg S]
   rw [e,Nat.mul_right_comm,ih,Nat.mul_right_comm]
  ·subst h1
   have e:dc x k y k=y:=by unfold dc;rw [if_pos Z]
   rw [e,r9 (Nat.le_refl _),Nat.mul_right_comm]
theorem sa {w:Int→Nat} (hw : ∀ y,0<w y) {x:Nat→Int} {i r n:Nat} (hi:i<n) (hr:r<n) (hne:i≠r):prW w (swp i r x) n=prW w x n:=by
 rw [mg]
 have h1:=ir (w:=w) (x:=dc x r (x i)) (y:=x r) hi
 have h2:=ir (w:=w) (x:=x) (y:=x i) hr
 rw [om hne] at h1
 have h3:prW w (dc (dc x r (x i)) i (x r)) n*w (x i)*w (x r)=prW w x n*w (x i)*w (x r):=by
  rw [h1,Nat.mul_right_comm,h2,Nat.mul_right_comm]
 exact Nat.eq_of_mul_eq_mul_right (hw _) (Nat.eq_of_mul_eq_mul_right (hw _) h3)
theorem q6 {w:Int→Nat} {B:Nat} {x:Nat→Int} (h : ∀ i,w (x i)≤B) : ∀ n,prW w x n≤B^n
 | 0 => Nat.le_refl _
 | n + 1 => by rw [prW, Nat.pow_succ]; exact Nat.mul_le_mul (q6 h n) (h n)
def wG (Ad:Nat) (x:Int):Nat:=if x=0 then 1 else if 0<x then 2*x.natAbs else 4*(x.natAbs*Ad)
def wZ (Ad:Nat) (x:Int):Nat:=if x=0 then 1 else if 0<x then 4*(x.natAbs*x.natAbs) else 16*(Ad*Ad)
theorem oD {Ad:Nat} (hY:1≤Ad) (x:Int):0<wG Ad x:=by
 unfold wG;split
 ·decide
 ·split
  ·omega
  ·have:=Nat.mul_pos (show 0<x.natAbs by omega) hY;omega
theorem oE {Ad:Nat} (hY:1≤Ad) (x:Int):0<wZ Ad x:=by
 unfold wZ;split
 ·decide
 ·split
  ·have:=Nat.mul_pos (show 0<x.natAbs by omega) (show 0<x.natAbs by omega);omega
  ·have:=Nat.mul_pos hY hY;omega
theorem xP {Ad:Nat} {x:Int} (hY:1≤Ad) (h:x.natAbs≤Ad):wG Ad x≤4*(Ad*Ad):=by
 have h1:=Nat.mul_le_mul_right Ad h
 have h2:=Nat.mul_le_mul_right Ad hY
 unfold wG;split
 ·omega
 ·split <;> omega
theorem xQ {Ad:Nat} {x:Int} (hY:1≤Ad) (h:x.natAbs≤Ad):wZ Ad x≤16*(Ad*Ad):=by
 have h1:=Nat.mul_le_mul h h
 have h2:=Nat.mul_le_mul_right Ad hY
 unfold wZ;split
 ·omega
 ·split <;> omega
theorem uI {Ad:Nat} {x p:Int} (hp:0<p) (hx:p≤x):(1+(x / p).natAbs)*wG Ad (x - x / p*p)≤wG Ad x∧4*((x - x / p*p).natAbs*(x - x / p*p).natAbs)≤x.natAbs*x.natAbs∧0≤x - x / p*p:=by
 have h1:=Int.mul_ediv_add_emod x p
 have h2:=Int.emod_nonneg x (show p≠0 by omega)
 have h3:=Int.emod_lt_of_pos x hp
 have hq:1≤x / p:=Int.le_ediv_of_mul_le hp S
 rw [Int.mul_comm] at h1
 generalize x % p=t at *
 generalize x / p=q at *
 obtain ⟨a,rfl⟩:=Int.eq_ofNat_of_zero_le (show 0≤q by omega)
 obtain ⟨b,rfl⟩:=Int.eq_ofNat_of_zero_le h2
 obtain ⟨c,rfl⟩:=Int.eq_ofNat_of_zero_le (Int.le_of_lt hp)
 have e:x - (a:Int)*(c:Int)=(b:Int):=by omega
 rw [e]
 have hx2:x=((a*c+b:Nat):Int):=by rw [Int.natCast_add,Int.natCast_mul]; omega
 subst hx2
 have h4:a≤a*c:=Nat.le_mul_of_pos_right _ S
 have h5:c≤a*c:=Nat.le_mul_of_pos_left _ S
 have h6:a*b≤a*c:=Nat.mul_le_mul_left _ S
 clear h1 e
 generalize hz:a*c=z at *
 rw [Int.natAbs_natCast,Int.natAbs_natCast,Int.natAbs_natCast]
 refine ⟨?_,?_,h2⟩
 ·unfold wG
  rw [if_neg (show ¬ ((z+b:Nat):Int)=0 by omega),if_pos (show 0<((z+b:Nat):Int) by omega),Int.natAbs_natCast]
  by_cases h0:(b:Int)=0
  ·rw [if_pos h0]; omega
  ·rw [if_neg h0,if_pos S,Int.natAbs_natCast,Nat.mul_left_comm,Nat.add_mul,Nat.one_mul]; omega
 ·have h7:2*b≤z+b:=by omega
  have h8:=Nat.mul_le_mul h7 h7
  rw [show 2*b*(2*b)=4*(b*b) by ac_rfl] at h8
  exact h8
theorem uJ {Ad:Nat} {x p:Int} (hp:0<p) (hx:x<0) (hpY:p.natAbs≤Ad):(1+(x / p).natAbs)*wG Ad (x - x / p*p)≤wG Ad x∧0≤x - x / p*p∧(x - x / p*p).natAbs≤Ad:=by
 have h1:=Int.mul_ediv_add_emod x p
 have h2:=Int.emod_nonneg x (show p≠0 by omega)
 have h3:=Int.emod_lt_of_pos x hp
 rw [Int.mul_comm] at h1
 have hq:=Int.natAbs_ediv_le_natAbs x p
 rw [show x - x / p*p=x % p by omega]
 refine ⟨?_,h2,by omega⟩
 have h4:wG Ad (x % p)≤2*Ad:=by unfold wG;split;omega;split <;> omega
 have h5:wG Ad x=4*(x.natAbs*Ad):=by unfold wG;rw [if_neg S,if_neg S]
 rw [h5]
 refine Nat.le_trans (Nat.mul_le_mul (show 1+(x / p).natAbs≤2*x.natAbs by omega) h4) (Nat.le_of_eq ?_)
 rw [Nat.mul_mul_mul_comm]
def tR:Nat→Nat
 | 0 => 4
 | r + 1 => 9 * tR r + 8
structure InC (n:Nat) (s:SS) (e:Nat):Prop where
 one:1≤e
 bnd : ∀ i j,(s.M i j).natAbs≤e
 act : ∀ i,s.row≤i→i<n→(s.M i s.col).natAbs≤2^tR s.row
 pot:e*prW (wG (2^tR s.row)) (fu s) n≤2^tR (s.row+1)
 nz : ∃ i,s.row≤i∧i<n∧s.M i s.col≠0
theorem InC.le {n e:Nat} {s:SS} (h:InC n s e):e≤2^tR (s.row+1) :=
 Nat.le_trans (Nat.le_mul_of_pos_right _ (oC (oD (Nat.two_pow_pos _)) _ _)) h.pot
theorem InC.fresh {n e:Nat} {s:SS} (hn:n≤4) (h1:1≤e) (h2 : ∀ i j,(s.M i j).natAbs≤e) (h3:e≤2^tR s.row) (h4 : ∃ i,s.row≤i∧i<n∧s.M i s.col≠0):InC n s e:=by
 have hY:=Nat.two_pow_pos (tR s.row)
 refine ⟨h1,h2,fun i _ _=>Nat.le_trans (h2 i _) h3,?_,h4⟩
 have h5:=q6 (w:=wG (2^tR s.row)) (x:=fu s) (fun i=>xP hY (Nat.le_trans (h2 i _) h3)) n
 have h6:(4*(2^tR s.row*2^tR s.row))^n≤(4*(2^tR s.row*2^tR s.row))^4:=Nat.pow_le_pow_right (by have:=Nat.mul_pos hY hY;omega) hn
 refine Nat.le_trans (Nat.mul_le_mul h3 (Nat.le_trans h5 h6)) (Nat.le_of_eq ?_)
 rw [show (4:Nat)=2^2 from rfl, ← Nat.pow_add, ← Nat.pow_add, ← Nat.pow_mul, ← Nat.pow_add]
 congr 1
 show _=9*tR s.row+8
 omega
def oF (n:Nat) (s:SS):Nat:=2^flS n s*prW (wZ (2^tR s.row)) (fu s) n
theorem wR (n:Nat) (s:SS):2^flS n s≤2:=by
 unfold flS;split <;> decide
theorem sb {F F' A B w w':Nat} (hF:F'≤2) (hF2:1≤F) (hu:A*w=B*w') (hw:4*w'≤w) (hwp:0<w):2*(F'*A)≤F*B:=by
 refine Nat.le_of_mul_le_mul_right (c:=w) ?_ hwp
 have h1:2*(F'*A)*w=2*F'*(A*w):=by ac_rfl
 rw [h1,hu]
 have h2:2*F'*(B*w')≤4*(B*w'):=Nat.mul_le_mul_right _ S
 have h3:B*(4*w')≤B*w:=Nat.mul_le_mul_left _ hw
 have h4:B*w≤F*B*w:=by rw [Nat.mul_assoc]; exact Nat.le_mul_of_pos_left _ hF2
 have h5:4*(B*w')=B*(4*w'):=by ac_rfl
 omega
theorem InC.step {n e:Nat} {s:SS} (hn:n≤4) (hrn:s.row<n) (h:InC n s e) :
  (c8 n s = { s with row:=s.row+1,col:=s.col+1 })∨((c8 n s).row=s.row∧(c8 n s).col=s.col∧(∃ e',InC n (c8 n s) e')∧2*oF n (c8 n s)≤oF n s):=by
 have hY:=Nat.two_pow_pos (tR s.row)
 have hfl:=wR n (c8 n s)
 have hfl1:1≤2^flS n s:=Nat.two_pow_pos _
 have hless:flS n (c8 n s)=0∧flS n s=1∨True := .inr trivial
 obtain ⟨z0,z1,z2,z3⟩:=h.nz
 rcases dW (fun i=>s.M i s.col) s.row (n - s.row) with ⟨e1,h0⟩ | ⟨i,e1,i1,i2,i3,i4⟩
 ·exact absurd (h0 z0 z1 S) z3
 ·have i3:s.M i s.col≠0:=i3
  by_cases c1:(i:Int)≠(s.row:Int)
  ·have hir:i≠s.row:=by omega
   have ea:c8 n s = { s with M:=swp i s.row s.M,U:=swp i s.row s.U,V:=gP i s.row s.V } := by
    unfold c8;rw [e1,if_neg S,if_pos c1,Int.toNat_natCast]
   rw [ea]
   have e2:fu { s with M:=swp i s.row s.M,U:=swp i s.row s.U,V:=gP i s.row s.V } = swp i s.row (fu s):=by funext a;show swp i s.row s.M a s.col=_;unfold swp;split;rfl;split <;> rfl
   refine .inr ⟨rfl,rfl,⟨e,h.one,j7 h.bnd,fun a h1 h2 => ?_,?_,⟨s.row,Nat.le_refl _,hrn,?_⟩⟩,?_⟩
   ·show (swp i s.row s.M a s.col).natAbs≤_
    unfold swp;split
    ·exact h.act _ (Nat.le_refl _) hrn
    ·split
     ·exact h.act i i1 S
     ·exact h.act a h1 h2
   ·rw [e2]
    show e*prW (wG (2^tR s.row)) (swp i s.row (fu s)) n≤_
    rw [sa (oD hY) S hrn hir]; exact h.pot
   ·show swp i s.row s.M s.row s.col≠0
    unfold swp;rw [if_neg (fun h=>hir h.symm),if_pos Z]; exact i3
   ·have hfl0:flS n { s with M:=swp i s.row s.M,U:=swp i s.row s.U,V:=gP i s.row s.V } = 0:=by
     unfold flS
     rw [if_pos]
     refine my (n:=n) (x:=fu { s with M:=swp i s.row s.M,U:=swp i s.row s.U,V:=gP i s.row s.V }) ?_ (n - s.row) (by show 1≤n - s.row;omega) (fun k h1 h2 h3 => ?_)
     ·rw [e2]; show swp i s.row (fu s) s.row≠0
      unfold swp;rw [if_neg (fun h=>hir h.symm),if_pos Z]; exact i3
     ·rw [e2] at h3 ⊢
      have h1:s.row≤k:=h1
      have h2:k<s.row+(n - s.row):=h2
      have e3:swp i s.row (fu s) s.row=s.M i s.col:=by unfold swp;rw [if_neg (fun h=>hir h.symm),if_pos Z]
      show (swp i s.row (fu s) s.row).natAbs≤_
      rw [e3]
      unfold swp at h3 ⊢
      by_cases ka:k=i
      ·rw [if_pos ka] at h3 ⊢; exact i4 s.row (Nat.le_refl _) S h3
      ·rw [if_neg ka] at h3 ⊢
       by_cases kb:k=s.row
       ·rw [if_pos kb]; exact Nat.le_refl _
       ·rw [if_neg kb] at h3 ⊢; exact i4 k h1 h2 h3
    have hfl2:flS n s=1:=by unfold flS;rw [e1,if_neg c1]
    unfold oF
    rw [hfl0,hfl2,e2]
    show 2*(2^0*prW (wZ (2^tR s.row)) (swp i s.row (fu s)) n)≤_
    rw [sa (oE hY) S hrn hir]
    omega
  ·have hir:i=s.row:=by omega
   subst hir
   by_cases c2:s.M s.row s.col<0
   ·have ea:c8 n s = { s with M:=cN s.row s.M,U:=cN s.row s.U,V:=gG s.row s.V } := by
     unfold c8;rw [e1,if_neg S,if_neg c1,if_pos c2]
    rw [ea] at hfl ⊢
    have e2:fu { s with M:=cN s.row s.M,U:=cN s.row s.U,V:=gG s.row s.V } = dc (fu s) s.row (-s.M s.row s.col):=by
     funext a;show cN s.row s.M a s.col=_
     unfold cN dc
     by_cases ha:a=s.row
     ·rw [if_pos ha,if_pos ha,ha]
     ·rw [if_neg ha,if_neg ha]
    have u1:=ir (w:=wG (2^tR s.row)) (x:=fu s) (y := -s.M s.row s.col) hrn
    have u2:=ir (w:=wZ (2^tR s.row)) (x:=fu s) (y := -s.M s.row s.col) hrn
    have ha:=h.act s.row (Nat.le_refl _) hrn
    have g1:wG (2^tR s.row) (-s.M s.row s.col)≤wG (2^tR s.row) (s.M s.row s.col):=by
     unfold wG
     rw [if_neg S,if_pos S,if_neg S,if_neg S,Int.natAbs_neg]
     have:=Nat.le_mul_of_pos_right (s.M s.row s.col).natAbs hY
     omega
    have g2:4*wZ (2^tR s.row) (-s.M s.row s.col)≤wZ (2^tR s.row) (s.M s.row s.col):=by
     unfold wZ
     rw [if_neg S,if_pos S,if_neg S,if_neg S,Int.natAbs_neg]
     have:=Nat.mul_le_mul ha ha
     omega
    refine .inr ⟨rfl,rfl,⟨e,h.one,fun a j => ?_,fun a h1 h2 => ?_,?_,⟨s.row,Nat.le_refl _,hrn,?_⟩⟩,?_⟩
    ·show (cN s.row s.M a j).natAbs≤e
     have:=h.bnd a j
     unfold cN;split <;> omega
    ·show (cN s.row s.M a s.col).natAbs≤2^tR s.row
     have:=h.act a h1 h2
     unfold cN;split <;> omega
    ·rw [e2]
     refine Nat.le_trans (Nat.mul_le_mul_left e ?_) h.pot
     refine Nat.le_of_mul_le_mul_right (c:=wG (2^tR s.row) (s.M s.row s.col)) ?_ (oD hY _)
     show prW (wG (2^tR s.row)) (dc (fu s) s.row (-s.M s.row s.col)) n*wG (2^tR s.row) (fu s s.row)≤_
     rw [u1]; exact Nat.mul_le_mul_left _ g1
    ·show cN s.row s.M s.row s.col≠0
     unfold cN;rw [if_pos Z]; omega
    ·unfold oF
     rw [e2]
     exact sb hfl hfl1 u2 g2 (oE hY _)
   ·have hpos:0<s.M s.row s.col:=by omega
    by_cases c3:cQ (ct (fun i=>s.M i s.col) (s.M s.row s.col) s.row) n<n
    ·have hnd:=of_decide_eq_true (e6 _ _ c3)
     have ea:c8 n s = { s with M:=bW (cQ (ct (fun i=>s.M i s.col) (s.M s.row s.col) s.row) n) s.row (s.M (cQ (ct (fun i=>s.M i s.col) (s.M s.row s.col) s.row) n) s.col / s.M s.row s.col) s.M,U:=bW (cQ (ct (fun i=>s.M i s.col) (s.M s.row s.col) s.row) n) s.row (s.M (cQ (ct (fun i=>s.M i s.col) (s.M s.row s.col) s.row) n) s.col / s.M s.row s.col) s.U,V:=eQ s.row (cQ (ct (fun i=>s.M i s.col) (s.M s.row s.col) s.row) n) (s.M (cQ (ct (fun i=>s.M i s.col) (s.M s.row s.col) s.row) n) s.col / s.M s.row s.col) s.V } := by
      conv=>lhs;unfold c8
      rw [e1,if_neg S,if_neg c1,if_neg c2,if_pos c3]
     rw [ea] at hfl ⊢
     generalize cQ (ct (fun i=>s.M i s.col) (s.M s.row s.col) s.row) n=k at *
     obtain ⟨hkr,hnd⟩:=hnd
     try dsimp only at hnd
     have hp:=h.act s.row (Nat.le_refl _) hrn
     have e2:fu { s with M:=bW k s.row (s.M k s.col / s.M s.row s.col) s.M,U:=bW k s.row (s.M k s.col / s.M s.row s.col) s.U,V:=eQ s.row k (s.M k s.col / s.M s.row s.col) s.V } = dc (fu s) k (s.M k s.col - s.M k s.col / s.M s.row s.col*s.M s.row s.col):=uH
     have u1:=ir (w:=wG (2^tR s.row)) (x:=fu s) (y:=s.M k s.col - s.M k s.col / s.M s.row s.col*s.M s.row s.col) c3
     have u2:=ir (w:=wZ (2^tR s.row)) (x:=fu s) (y:=s.M k s.col - s.M k s.col / s.M s.row s.col*s.M s.row s.col) c3
     have key:(1+(s.M k s.col / s.M s.row s.col).natAbs)*wG (2^tR s.row) (s.M k s.col - s.M k s.col / s.M s.row s.col*s.M s.row s.col)≤wG (2^tR s.row) (s.M k s.col) ∧
       4*wZ (2^tR s.row) (s.M k s.col - s.M k s.col / s.M s.row s.col*s.M s.row s.col)≤wZ (2^tR s.row) (s.M k s.col) ∧
       (s.row≤k→(s.M k s.col - s.M k s.col / s.M s.row s.col*s.M s.row s.col).natAbs≤2^tR s.row):=by
      by_cases hx:0≤s.M k s.col
      ·have hle:s.M s.row s.col≤s.M k s.col:=by
        rcases hnd with ⟨_,h2⟩ | ⟨h1,h2⟩
        ·rcases Int.lt_or_le (s.M k s.col) (s.M s.row s.col) with h3 | h3
         ·exact absurd (Int.ediv_eq_zero_of_lt hx h3) h2
         ·exact h3
        ·have:=i4 k S S h2
         try dsimp only at this
         omega
       obtain ⟨d1,d2,d3⟩:=uI (Ad:=2^tR s.row) hpos hle
       obtain ⟨_,d4,_⟩:=oo hpos hle
       refine ⟨d1,?_,fun hk=>Nat.le_trans (Nat.le_of_lt d4) (h.act k hk c3)⟩
       have hx0:1≤(s.M k s.col).natAbs:=by omega
       have hx1:=Nat.mul_le_mul hx0 hx0
       have w1:wZ (2^tR s.row) (s.M k s.col)=4*((s.M k s.col).natAbs*(s.M k s.col).natAbs):=by unfold wZ;rw [if_neg S,if_pos S]
       rw [w1]
       generalize s.M k s.col - s.M k s.col / s.M s.row s.col*s.M s.row s.col=y at *
       unfold wZ;split
       ·omega
       ·split
        ·omega
        ·omega
      ·obtain ⟨d1,d3,d4⟩:=uJ (x:=s.M k s.col) hpos S hp
       refine ⟨d1,?_,fun _=>d4⟩
       have w1:wZ (2^tR s.row) (s.M k s.col)=16*(2^tR s.row*2^tR s.row):=by unfold wZ;rw [if_neg S,if_neg S]
       rw [w1]
       have hYY:=Nat.mul_le_mul hY hY
       have hyy:=Nat.mul_le_mul d4 d4
       generalize s.M k s.col - s.M k s.col / s.M s.row s.col*s.M s.row s.col=y at *
       unfold wZ;split
       ·omega
       ·split
        ·omega
        ·omega
     obtain ⟨k1,k2,k3⟩:=key
     refine .inr ⟨rfl,rfl,⟨e*(1+(s.M k s.col / s.M s.row s.col).natAbs),Nat.le_trans h.one (Nat.le_mul_of_pos_right _ S),fun a j => ?_,fun a h1 h2 => ?_,?_,⟨s.row,Nat.le_refl _,hrn,?_⟩⟩,?_⟩
     ·show (bW k s.row _ s.M a j).natAbs≤_
      unfold bW;split
      ·exact oq (h.bnd _ _) (h.bnd _ _)
      ·exact Nat.le_trans (h.bnd _ _) (Nat.le_mul_of_pos_right _ S)
     ·show (bW k s.row _ s.M a s.col).natAbs≤_
      unfold bW;split
      ·rename_i e3;subst e3;exact k3 h1
      ·exact h.act a h1 h2
     ·rw [e2]
      refine Nat.le_trans ?_ h.pot
      show e*(1+(s.M k s.col / s.M s.row s.col).natAbs)*prW (wG (2^tR s.row)) (dc (fu s) k (s.M k s.col - s.M k s.col / s.M s.row s.col*s.M s.row s.col)) n≤e*prW (wG (2^tR s.row)) (fu s) n
      refine Nat.le_of_mul_le_mul_right (c:=wG (2^tR s.row) (s.M k s.col)) ?_ (oD hY _)
      have u1:prW (wG (2^tR s.row)) (dc (fu s) k (s.M k s.col - s.M k s.col / s.M s.row s.col*s.M s.row s.col)) n*wG (2^tR s.row) (s.M k s.col)=_:=u1
      generalize prW (wG (2^tR s.row)) (dc (fu s) k (s.M k s.col - s.M k s.col / s.M s.row s.col*s.M s.row s.col)) n=A at *
      generalize prW (wG (2^tR s.row)) (fu s) n=B at *
      rw [show ∀ a b c d:Nat,a*b*c*d=a*b*(c*d) from fun a b c d=>Nat.mul_assoc _ _ _,u1]
      have e4 : ∀ a b c d:Nat,a*b*(c*d)=a*c*(b*d):=fun a b c d=>by ac_rfl
      rw [e4]
      exact Nat.mul_le_mul_left _ k1
     ·show bW k s.row _ s.M s.row s.col≠0
      unfold bW;rw [if_neg (fun e3=>hkr e3.symm)]; omega
     ·unfold oF
      rw [e2]
      exact sb hfl hfl1 u2 k2 (oE hY _)
    ·refine .inl ?_
     conv=>lhs;unfold c8
     rw [e1,if_neg S,if_neg c1,if_neg c2,if_neg c3]
end Tor
end
section
namespace Tor
theorem uK (n:Nat) (s:SS):0<oF n s:=Nat.mul_pos (Nat.two_pow_pos _) (oC (oE (Nat.two_pow_pos _)) _ _)
theorem gV {n m t:Nat} {s:SS} (h1:s.row<n) (h2:s.col<m):bN n m (t+1) s=bN n m t (c8 n s):=by
 rw [bN,if_neg]
 intro h
 have:=of_decide_eq_true h
 omega
theorem sc {n m:Nat} (hn:n≤4) : ∀ (B:Nat) (s:SS) (e:Nat),s.row<n→s.col<m→InC n s e→oF n s≤2^B →
  ∃ j,j≤B+1∧(bN n m j s).row=s.row+1∧(bN n m j s).col=s.col+1 ∧ ∃ e',1≤e'∧(∀ i j',((bN n m j s).M i j').natAbs≤e')∧e'≤2^tR (s.row+1)
 | B, s, e, h1, h2, h, hB => by
  rcases h.step hn h1 with ha | ⟨a1,a2,⟨e',he'⟩,a3⟩
  ·refine ⟨1,by omega,?_⟩
   rw [gV h1 h2,ha]
   exact ⟨rfl,rfl,e,h.one,h.bnd,h.le⟩
  ·have hp:=uK n (c8 n s)
   cases B with
   | zero => rw [Nat.pow_zero] at hB; omega
   | succ B =>
    rw [Nat.pow_succ] at hB
    obtain ⟨j,j1,j2,j3,j4⟩:=sc (m:=m) hn B (c8 n s) e' S S he' S
    refine ⟨j+1,by omega,?_⟩
    rw [gV h1 h2]
    rw [a1] at j2 j4
    rw [a2] at j3
    exact ⟨j2,j3,j4⟩
theorem tf {n e:Nat} {s:SS} (hn:n≤4) (h2 : ∀ i j,(s.M i j).natAbs≤e) (h3:e≤2^tR s.row):oF n s≤2^(17+8*tR s.row):=by
 have hY:=Nat.two_pow_pos (tR s.row)
 have h5:=q6 (w:=wZ (2^tR s.row)) (x:=fu s) (fun i=>xQ hY (Nat.le_trans (h2 i _) h3)) n
 have h6:(16*(2^tR s.row*2^tR s.row))^n≤(16*(2^tR s.row*2^tR s.row))^4:=Nat.pow_le_pow_right (by have:=Nat.mul_pos hY hY;omega) hn
 unfold oF
 refine Nat.le_trans (Nat.mul_le_mul (wR n s) (Nat.le_trans h5 h6)) (Nat.le_of_eq ?_)
 rw [show (16:Nat)=2^4 from rfl, ← Nat.pow_add, ← Nat.pow_add, ← Nat.pow_mul, ← Nat.pow_succ']
 congr 1
 omega
/-! ### The last row -/
def cnN (f:Nat→Bool):Nat→Nat
 | 0 => 0
 | n + 1 => cnN f n + if f n then 1 else 0
theorem q7 (f:Nat→Bool) : ∀ n,cnN f n≤n
 | 0 => Nat.le_refl _
 | n + 1 => by have := q7 f n; rw [cnN]; split <;> omega
theorem nE {f g:Nat→Bool} : ∀ {n:Nat},(∀ i,i<n→f i=g i)→cnN f n=cnN g n
 | 0, _ => rfl
 | n + 1, h => by rw [cnN, cnN, nE (fun i hi => h i S), h n S]
theorem pZ {f g:Nat→Bool} {k:Nat} (hf:f k=true) (hg:g k=false) : ∀ {n:Nat},k<n→(∀ i,i<n→i≠k→g i=f i)→cnN g n+1=cnN f n
 | n + 1, hk, h => by
  rw [cnN,cnN]
  rcases Nat.lt_or_eq_of_le (Nat.lt_succ_iff.1 hk) with h1 | h1
  ·have:=pZ hf hg h1 (fun i hi hne=>h i S hne)
   rw [h n S S]; omega
  ·subst h1
   rw [hf,hg,nE (f:=g) (g:=f) (fun i hi=>h i S S)]; rfl
theorem p5 {n:Nat} {s:SS} (h:s.row+1=n):c9 (fun i=>s.M i s.col) s.row (n - s.row)=if s.M s.row s.col=0 then -1 else (s.row:Int):=by
 rw [show n - s.row=1 by omega,c9,c9]
 by_cases h0:s.M s.row s.col=0
 ·rw [if_neg (fun hc=>hc.1 h0),if_pos h0]
 ·rw [if_pos ⟨h0, .inl Y⟩,if_neg h0,Nat.add_zero]
theorem mz {n m:Nat} : ∀ (N:Nat) (s:SS),s.row+1=n→s.col<m→0<s.M s.row s.col→cnN (ct (fun i=>s.M i s.col) (s.M s.row s.col) s.row) n≤N → ∃ j,j≤N+1∧(bN n m j s).row=n
 | N, s, h1, h2, h3, hN => by
  have hl:=p5 h1
  rw [if_neg S] at hl
  by_cases c3:cQ (ct (fun i=>s.M i s.col) (s.M s.row s.col) s.row) n<n
  ·have hnd:=e6 _ _ c3
   have ea:c8 n s = { s with M:=bW (cQ (ct (fun i=>s.M i s.col) (s.M s.row s.col) s.row) n) s.row (s.M (cQ (ct (fun i=>s.M i s.col) (s.M s.row s.col) s.row) n) s.col / s.M s.row s.col) s.M,U:=bW (cQ (ct (fun i=>s.M i s.col) (s.M s.row s.col) s.row) n) s.row (s.M (cQ (ct (fun i=>s.M i s.col) (s.M s.row s.col) s.row) n) s.col / s.M s.row s.col) s.U,V:=eQ s.row (cQ (ct (fun i=>s.M i s.col) (s.M s.row s.col) s.row) n) (s.M (cQ (ct (fun i=>s.M i s.col) (s.M s.row s.col) s.row) n) s.col / s.M s.row s.col) s.V } := by
    conv=>lhs;unfold c8
    rw [hl,if_neg S,if_neg S,if_neg S,if_pos c3]
   generalize cQ (ct (fun i=>s.M i s.col) (s.M s.row s.col) s.row) n=k at *
   have hkr:=(of_decide_eq_true hnd).1
   have hp':bW k s.row (s.M k s.col / s.M s.row s.col) s.M s.row s.col=s.M s.row s.col:=by unfold bW;rw [if_neg (fun e=>hkr e.symm)]
   have hless:cnN (ct (fun i=>bW k s.row (s.M k s.col / s.M s.row s.col) s.M i s.col) (s.M s.row s.col) s.row) n+1=cnN (ct (fun i=>s.M i s.col) (s.M s.row s.col) s.row) n:=by
    refine pZ hnd ?_ c3 (fun i hi hne => ?_)
    ·unfold ct
     refine decide_eq_false (fun hc => ?_)
     rcases hc.2 with ⟨_,h5⟩ | ⟨h5,_⟩
     ·refine h5 ?_
      have e0:bW k s.row (s.M k s.col / s.M s.row s.col) s.M k s.col=s.M k s.col - s.M k s.col / s.M s.row s.col*s.M s.row s.col:=by unfold bW;rw [if_pos Z]
      show bW k s.row (s.M k s.col / s.M s.row s.col) s.M k s.col / s.M s.row s.col=0
      rw [e0]
      have e1:=Int.mul_ediv_add_emod (s.M k s.col) (s.M s.row s.col)
      rw [Int.mul_comm] at e1
      rw [show s.M k s.col - s.M k s.col / s.M s.row s.col*s.M s.row s.col=s.M k s.col % s.M s.row s.col by omega]
      exact Int.ediv_eq_zero_of_lt (Int.emod_nonneg _ S) (Int.emod_lt_of_pos _ h3)
     ·omega
    ·have e5:(fun a=>bW k s.row (s.M k s.col / s.M s.row s.col) s.M a s.col) i=(fun a=>s.M a s.col) i:=by
      show bW k s.row (s.M k s.col / s.M s.row s.col) s.M i s.col=s.M i s.col
      unfold bW;rw [if_neg hne]
     unfold ct
     rw [e5]
   cases N with
   | zero => omega
   | succ N =>
    obtain ⟨j,j1,j2⟩:=mz (n:=n) (m:=m) N (c8 n s) (by rw [ea]; exact h1) (by rw [ea]; exact h2) (by rw [ea]; show 0<bW k s.row _ s.M s.row s.col;rw [hp']; exact h3) (by
     rw [ea]
     show cnN (ct (fun i=>bW k s.row _ s.M i s.col) (bW k s.row _ s.M s.row s.col) s.row) n≤N
     rw [hp']; omega)
    exact ⟨j+1,by omega,by rw [gV S h2]; exact j2⟩
  ·refine ⟨1,by omega,?_⟩
   rw [gV S h2]
   have ea:c8 n s = { s with row:=s.row+1,col:=s.col+1 } := by
    conv=>lhs;unfold c8
    rw [hl,if_neg S,if_neg S,if_neg S,if_neg c3]
   rw [ea]; exact h1
theorem uL {n m:Nat} (s:SS) (h1:s.row+1=n) (h2:s.col<m) (h3:s.M s.row s.col≠0) : ∃ j,j≤n+2∧(bN n m j s).row=n:=by
 by_cases hp:0<s.M s.row s.col
 ·obtain ⟨j,j1,j2⟩:=mz (n:=n) (m:=m) n s h1 h2 hp (q7 _ _)
  exact ⟨j,by omega,j2⟩
 ·have hl:=p5 h1
  rw [if_neg h3] at hl
  have ea:c8 n s = { s with M:=cN s.row s.M,U:=cN s.row s.U,V:=gG s.row s.V } := by
   conv=>lhs;unfold c8
   rw [hl,if_neg S,if_neg S,if_pos S]
  obtain ⟨j,j1,j2⟩:=mz (n:=n) (m:=m) n (c8 n s) (by rw [ea]; exact h1) (by rw [ea]; exact h2) (by rw [ea]; show 0<cN s.row s.M s.row s.col;unfold cN;rw [if_pos Z]; omega) (q7 _ _)
  exact ⟨j+1,by omega,by rw [gV S h2]; exact j2⟩
def tg:Nat→Nat→Nat
 | 0, _ => 6
 | k + 1, r => 18 + 8 * tR r + tg k (r + 1)
theorem oG {n m:Nat} (hn:n≤4) : ∀ (d:Nat) (s:SS) (e:Nat),m - s.col=d→s.row≤n→s.col≤m→1≤e→(∀ i j,(s.M i j).natAbs≤e)→e≤2^tR s.row → ∃ j,j≤d+tg (n - 1 - s.row) s.row∧cR n m (bN n m j s)=true
 | d, s, e, hd, hr, hc, he, hb, hbe => by
  by_cases hf:s.row=n∨s.col=m
  ·exact ⟨0,by omega,decide_eq_true hf⟩
  ·have hrn:s.row<n:=by omega
   have hcm:s.col<m:=by omega
   obtain ⟨d,rfl⟩ : ∃ d',d=d'+1:=⟨d - 1,by omega⟩
   by_cases hz : ∃ i,s.row≤i∧i<n∧s.M i s.col≠0
   ·by_cases hlast:s.row+1=n
    ·obtain ⟨i,z1,z2,z3⟩:=hz
     rw [show i=s.row by omega] at z3
     obtain ⟨j,j1,j2⟩:=uL (m:=m) s hlast hcm z3
     refine ⟨j,?_,decide_eq_true (.inl j2)⟩
     rw [show n - 1 - s.row=0 by omega,tg]; omega
    ·obtain ⟨j,j1,j2,j3,e',f1,f2,f3⟩:=sc (m:=m) hn _ s e hrn hcm (InC.fresh hn he hb hbe hz) (tf hn hb hbe)
     obtain ⟨i,i1,i2⟩:=oG (n:=n) (m:=m) hn d (bN n m j s) e' S S S f1 f2 (by rw [j2]; exact f3)
     refine ⟨j+i,?_,by rw [iP]; exact i2⟩
     rw [j2] at i1
     rw [show n - 1 - s.row=n - 1 - (s.row+1)+1 by omega,tg]
     omega
   ·have hl:c9 (fun i=>s.M i s.col) s.row (n - s.row) = -1:=by
     rcases dW (fun i=>s.M i s.col) s.row (n - s.row) with ⟨h,_⟩ | ⟨i,_,i1,i2,i3,_⟩
     ·exact h
     ·exact absurd ⟨i,i1,by omega,i3⟩ hz
    have ea:c8 n s = { s with col:=s.col+1 } := by
     conv=>lhs;unfold c8
     rw [hl,if_pos Y]
    obtain ⟨j,j1,j2⟩:=oG (n:=n) (m:=m) hn d (c8 n s) e (by rw [ea]; show m - (s.col+1)=d;omega) (by rw [ea]; exact hr) (by rw [ea]; exact hcm) he (by rw [ea]; exact hb) (by rw [ea]; exact hbe)
    refine ⟨j+1,?_,by rw [gV hrn hcm]; exact j2⟩
    rw [ea] at j1
    have j1:j≤d+tg (n - 1 - s.row) s.row:=j1
    omega
theorem xr : ∀ n,n≤4→tg (n - 1) 0≤3676:=by
 intro n hn
 rcases (show n=0∨n=1∨n=2∨n=3∨n=4 by omega) with rfl | rfl | rfl | rfl | rfl <;> decide
theorem th {n m:Nat} {s:SS} (hn:n≤4) (hm:m≤4) (h0:s.row=0) (h1:s.col=0) (hb : ∀ i j,(s.M i j).natAbs≤9) : ∃ j,j≤4000∧cR n m (bN n m j s)=true:=by
 obtain ⟨j,j1,j2⟩:=oG (n:=n) (m:=m) hn m s 9 S S S Y hb (by rw [h0]; decide)
 rw [h0,Nat.sub_zero] at j1
 have:=xr n hn
 exact ⟨j,by omega,j2⟩
end Tor
end
section
namespace Tor
def idF:Nat→Nat→Int:=fun i j=>if i=j then 1 else 0
def bT (A:Nat→Nat→Int):SS:=⟨A,idF,idF,0,0⟩
theorem p6 {n m:Nat} (P:SS→Prop) (hs : ∀ s,P s→cR n m s=false→P (c8 n s)) : ∀ (t:Nat) (s:SS),P s→P (bN n m t s)
 | 0, _, h => h
 | t + 1, s, h => by
  rw [bN]
  by_cases hf:cR n m s=true
  ·rw [if_pos hf]; exact h
  ·rw [if_neg hf]; exact p6 P hs t _ (hs s h (by simpa using hf))
theorem p7 {n e t T:Nat} {x:Nat→Int} (hn:n≤4) (hT:80*t+144≤T) (he:1≤e) (het:e≤2^t) (h : ∀ i,(x i).natAbs≤e):gQ n e x≤2^T :=
 Nat.le_trans (rY hn he het h) (Nat.pow_le_pow_right Y hT)
structure AllS (n m:Nat) (A:Nat→Nat→Int) (s:SS):Prop where
 eqs:SSJ n m A s
 frm : ∃ pv,FrmS n s pv
 pot : ∃ e,PotI n s e
theorem AllS.step {n m:Nat} {A:Nat→Nat→Int} {s:SS} (hn:n≤4) (h:AllS n m A s) (hf:cR n m s=false):AllS n m A (c8 n s):=by
 have hf2 : ¬ (s.row=n∨s.col=m):=of_decide_eq_false hf
 have hr:=h.eqs.hr
 have hrn:s.row<n:=by omega
 obtain ⟨pv,hp⟩:=h.frm
 obtain ⟨e,he⟩:=h.pot
 exact ⟨h.eqs.step hf,hp.step (m:=m) hrn,he.step hn hrn⟩
theorem AllS.start {n m:Nat} {A:Nat→Nat→Int} (hn:n≤4) (hA : ∀ i j,(A i j).natAbs≤9):AllS n m A (bT A):=by
 have hid:iD n idF idF:=fun i j hi hj=>by
  unfold idF
  rw [fp (k:=i) hi (fun t _ hne=>by rw [if_neg (fun e=>hne e.symm),Int.zero_mul]),if_pos Z,Int.one_mul]
 have hidb : ∀ i j,(idF i j).natAbs≤9:=fun i j=>by unfold idF;split <;> decide
 refine ⟨⟨⟨fun i j hi hj => ?_,hid,Nat.zero_le _,Nat.zero_le _⟩,hid⟩,⟨fun _=>0,⟨fun i hi=>absurd hi (Nat.not_lt_zero _),fun i hi=>absurd hi (Nat.not_lt_zero _),fun i j hi=>absurd hi (Nat.not_lt_zero _),fun i k hi=>absurd hi (Nat.not_lt_zero _),fun i j _ _ hj=>absurd hj (Nat.not_lt_zero _)⟩⟩,⟨9,by decide,⟨hA,hidb,hidb⟩,?_⟩⟩
 ·show A i j=c5 n (fun k=>idF i k*A k j)
  unfold idF
  rw [fp (k:=i) hi (fun t _ hne=>by rw [if_neg (fun e=>hne e.symm),Int.zero_mul]),if_pos Z,Int.one_mul]
 ·exact p7 (T:=tB 0) hn (t:=4) Y Y Y (fun i=>hA i 0)
theorem AllS.run {n m:Nat} {A:Nat→Nat→Int} (hn:n≤4) (hA : ∀ i j,(A i j).natAbs≤9) (t:Nat):AllS n m A (bN n m t (bT A)) :=
 p6 (AllS n m A) (fun s h hf=>h.step hn hf) t _ (AllS.start hn hA)
/-! ### Sizes -/
theorem xR : ∀ c,c≤4→tB c≤19080101264:=by
 intro c hc
 rcases (show c=0∨c=1∨c=2∨c=3∨c=4 by omega) with rfl | rfl | rfl | rfl | rfl <;> decide
theorem p8 {x:Int} {t k:Nat} (h:x.natAbs≤2^t) (hk:t<32*k):(aK x.natAbs).length≤k:=di (by
 rw [show (4294967296:Nat)=2^32 from rfl, ← Nat.pow_mul]
 exact Nat.lt_of_le_of_lt h (Nat.pow_lt_pow_right Y hk))
theorem oH {x:Int} {e c:Nat} (h:x.natAbs≤e) (he:e≤2^tB c) (hc:c≤4):(aK x.natAbs).length≤600000000 :=
 p8 (Nat.le_trans h he) (by have:=xR c hc;omega)
theorem AllS.modM {n m:Nat} {A:Nat→Nat→Int} {s:SS} (h:AllS n m A s) (hm:m≤4) (i j:Nat):(aK (s.M i j).natAbs).length≤600000000∧(aK (s.U i j).natAbs).length≤600000000∧(aK (s.V i j).natAbs).length≤600000000:=by
 obtain ⟨e,he⟩:=h.pot
 have hc:s.col≤4:=Nat.le_trans h.eqs.hc hm
 exact ⟨oH (he.bnd.m i j) he.le hc,oH (he.bnd.u i j) he.le hc,oH (he.bnd.v i j) he.le hc⟩
/-! ### Rows and columns do not go back; the first finished state -/
theorem tj {n m:Nat} (s:SS) (h : ∃ t,cR n m (bN n m t s)=true) : ∃ t,cR n m (bN n m t s)=true ∧ ∀ j,j<t→cR n m (bN n m j s)=false:=by
 obtain ⟨t,ht⟩:=h
 induction t using Nat.strongRecOn with
 | _ t ih =>
  by_cases hx : ∃ j,j<t∧cR n m (bN n m j s)=true
  ·obtain ⟨j,j1,j2⟩:=hx
   exact ih j j1 j2
  ·exact ⟨t,ht,fun j hj=>by
    cases hc:cR n m (bN n m j s) with
    | false => rfl
    | true => exact absurd ⟨j, hj, hc⟩ hx⟩
theorem nF {n m t:Nat} {s:SS} (h:cR n m (bN n m t s)=false):bN n m (t+1) s=c8 n (bN n m t s):=by
 rw [iP t 1,bN,if_neg (by rw [h]; decide)]; rfl
theorem tk {n m t j:Nat} {s:SS} (h:cR n m (bN n m t s)=true) (hj:t≤j):bN n m j s=bN n m t s:=by
 obtain ⟨k,rfl⟩ : ∃ k,j=t+k:=⟨j - t,by omega⟩
 rw [iP,mf h]
end Tor
end
section
namespace Tor
def p9 (c:Nat) (F:Nat→Nat→Int) (i:Nat):Prop:=bH c (F i)<c→0<F i (bH c (F i)) ∧ ∀ k,k<i→bH c (F k)<bH c (F i)∧0≤F k (bH c (F i))∧F k (bH c (F i))<F i (bH c (F i))
theorem IsH.at {r c i:Nat} {F:Nat→Nat→Int} (h:IsH r c F) (hi:i<r):p9 c F i:=h i hi
theorem IsH.zero {c:Nat} {F:Nat→Nat→Int} : IsH 0 c F:=fun i hi=>absurd hi (Nat.not_lt_zero i)
theorem IsH.succ {r c:Nat} {F:Nat→Nat→Int} (h:IsH r c F) (h2:p9 c F r):IsH (r+1) c F:=fun i hi=>by
 rcases Nat.lt_or_eq_of_le (Nat.lt_succ_iff.1 hi) with h3 | h3
 ·exact h i h3
 ·subst h3;exact h2
theorem sd {c j:Nat} {f:Nat→Int} (hj:j<c) (h0 : ∀ k,k<j→f k=0) (h:f j≠0):bH c f=j:=ol hj (fun k hk=>decide_eq_false (fun e=>e (h0 k hk))) (decide_eq_true h)
theorem oI {c:Nat} {f:Nat→Int} (h0 : ∀ k,k<c→f k=0):bH c f=c:=rS (fun k hk=>decide_eq_false (fun e=>e (h0 k hk)))
theorem uM {c:Nat} {f:Nat→Int} : bH c f=c ↔ ∀ k,k<c→f k=0:=⟨fun h k hk=>eh (c:=c) S,oI⟩
def oJ (c:Nat) (F:Nat→Nat→Int) (i:Nat) (last:Int) (ended:Bool):Prop := ∀ L,L<c→((∀ k,k<i→bH c (F k)<L)↔(ended=false∧last<(L:Int)))
theorem oJ.start {c:Nat} {F:Nat→Nat→Int} : oJ c F 0 (-1) false:=fun L _=>⟨fun _=>⟨rfl,by omega⟩,fun _ k hk=>absurd hk (Nat.not_lt_zero k)⟩
theorem oJ.none {c i:Nat} {F:Nat→Nat→Int} {last':Int} {e':Bool} (h0 : ¬ bH c (F i)<c) (h:e'=true∨(c:Int)≤last'):oJ c F (i+1) last' e':=fun L hL=>by
 constructor
 ·intro h1
  have:=h1 i (Nat.lt_succ_self i)
  omega
 ·rintro ⟨h1,h2⟩
  rcases h with h | h
  ·rw [h1] at h;cases h
  ·omega
theorem oJ.some {c i:Nat} {F:Nat→Nat→Int} {last:Int} {e:Bool} (h:oJ c F i last e) (h1:bH c (F i)<c) (h2:p9 c F i):oJ c F (i+1) (bH c (F i)) false:=fun L hL=>by
 constructor
 ·intro h3
  exact ⟨rfl,by have:=h3 i (Nat.lt_succ_self i);omega⟩
 ·rintro ⟨_,h4⟩ k hk
  rcases Nat.lt_or_eq_of_le (Nat.lt_succ_iff.1 hk) with h5 | h5
  ·have:=((h2 h1).2 k h5).1;omega
  ·subst h5;omega
def xS (F:Nat→Nat→Int) (i L:Nat):Prop := ∃ k,k<i∧(F k L<0∨F i L≤F k L)
theorem p9.of {c i:Nat} {F:Nat→Nat→Int} {last:Int} {e:Bool} (h:oJ c F i last e) (h1:bH c (F i)<c):p9 c F i↔(e=false∧last<(bH c (F i):Int)∧0<F i (bH c (F i)) ∧ ¬ xS F i (bH c (F i))):=by
 have h2:=h _ h1
 constructor
 ·intro hR
  obtain ⟨h3,h4⟩:=hR h1
  have h5:=h2.1 (fun k hk=>(h4 k hk).1)
  refine ⟨h5.1,h5.2,h3,?_⟩
  rintro ⟨k,hk,h6⟩
  have:=h4 k hk
  omega
 ·rintro ⟨h3,h4,h5,h6⟩ _
  refine ⟨h5,fun k hk=>⟨h2.2 ⟨h3,h4⟩ k hk,?_⟩⟩
  constructor
  ·exact Int.not_lt.1 fun h7=>h6 ⟨k,hk, .inl h7⟩
  ·exact Int.not_le.1 fun h7=>h6 ⟨k,hk, .inr h7⟩
end Tor
end
section
namespace Tor
open Go Go.RowKit Go.Proofs
def gi:Nat→Nat→Nat
 | 0, _ => 0
 | f + 1, x => if x = 0 then 0 else gi f (x / 2) + 1
def gI (x:Nat):Nat:=gi 64 x
theorem gk : ∀ (f x:Nat),x<2^f→x<2^gi f x∧(x=0→gi f x=0)∧(x≠0→0<gi f x∧2^(gi f x - 1)≤x)∧gi f x≤f
 | 0, x, h => by simp at h; subst h; simp [gi]
 | f + 1, x, h => by
  rw [gi]
  split
  ·rename_i h0;subst h0;simp
  ·rename_i h0
   have h1:x / 2<2^f:=by rw [Nat.pow_succ] at h;omega
   obtain ⟨i1,i2,i3,i4⟩:=gk f (x / 2) h1
   refine ⟨by rw [Nat.pow_succ]; omega,fun h=>absurd h h0,fun _=>⟨by omega,?_⟩,by omega⟩
   rw [Nat.add_sub_cancel]
   by_cases h2:x / 2=0
   ·rw [i2 h2]; simp;omega
   ·obtain ⟨j1,j2⟩:=i3 h2
    obtain ⟨m,hm⟩ : ∃ m,gi f (x / 2)=m+1:=⟨gi f (x / 2) - 1,by omega⟩
    rw [hm] at j2 ⊢
    rw [Nat.add_sub_cancel] at j2
    rw [Nat.pow_succ]; omega
theorem se {x:Nat} (h:x<2^64):x<2^gI x:=(gk 64 x h).1
theorem oK {x:Nat} (h:x<2^64) (h0:x≠0):0<gI x∧2^(gI x - 1)≤x:=(gk 64 x h).2.2.1 h0
theorem tn {x n:Nat} (h:x<2^64) (h1:x<2^n) (h2:n=0∨2^(n - 1)≤x):gI x=n:=by
 obtain ⟨i1,i2,i3,_⟩:=gk 64 x h
 show gi 64 x=n
 by_cases h0:x=0
 ·rw [i2 h0]
  rcases h2 with h2 | h2
  ·exact h2.symm
  ·subst h0;have:=Nat.two_pow_pos (n - 1);omega
 ·obtain ⟨j1,j2⟩:=i3 h0
  rcases Nat.lt_trichotomy (gi 64 x) n with h3 | h3 | h3
  ·have:=Nat.pow_le_pow_right (n:=2) Y (show gi 64 x≤n - 1 by omega)
   rcases h2 with h2 | h2
   ·omega
   ·omega
  ·exact h3
  ·have:=Nat.pow_le_pow_right (n:=2) Y (show n≤gi 64 x - 1 by omega)
   omega
theorem oL {x n:Nat} (h:x<2^n) (hn:n≤64):gI x≤n:=by
 have hx:x<2^64:=Nat.lt_of_lt_of_le h (Nat.pow_le_pow_right Y hn)
 by_cases h0:x=0
 ·have:=(gk 64 x hx).2.1 h0
  unfold gI;omega
 ·obtain ⟨j1,j2⟩:=oK hx h0
  rcases Nat.lt_or_ge n (gI x) with h3 | h3
  ·have:=Nat.pow_le_pow_right (n:=2) Y (show n≤gI x - 1 by omega)
   omega
  ·exact h3
theorem mA {x k:Nat} (h:x<2^64) (hk:2^k≤x):gI x=k+gI (x / 2^k):=by
 have hp:=Nat.two_pow_pos k
 have hy:x / 2^k<2^64:=Nat.lt_of_le_of_lt (Nat.div_le_self _ _) h
 have hy0:x / 2^k≠0:=by
  have:=(Nat.le_div_iff_mul_le hp (x:=1) (y:=x)).2 S;omega
 obtain ⟨j1,j2⟩:=oK hy hy0
 have j3:=se hy
 refine tn h ?_ (.inr ?_)
 ·rw [Nat.pow_add]
  have:=Nat.lt_mul_div_succ x hp
  exact Nat.lt_of_lt_of_le this (Nat.mul_le_mul_left _ j3)
 ·have e:k+gI (x / 2^k) - 1=(gI (x / 2^k) - 1)+k:=by omega
  rw [e,Nat.pow_add]
  exact Nat.le_trans (Nat.mul_le_mul_right _ j2) (Nat.div_mul_le_self x (2^k))
theorem oM {s:ByteArray} (h:((List.range 256).all fun i=>(s[i]?).map UInt8.toNat == some (gI i))=true) {i:Nat} (hi:i<256):(s[i]?).map UInt8.toNat=some (gI i):=by
 have:=List.all_eq_true.1 h i (List.mem_range.2 hi)
 simpa using this
attribute [local irreducible] J PJ aQ one slT cA bG bZ exT cE eP aX a8 slV VT.le Ret bS
theorem uN (x:Nat) (hx:x<4294967296):Ok Tryz.prog 127 [one (.int .u32 x)] (one (.int .i64 (gI x))):=by
 refine Ok.enter Tryz.func127 Z Tryz.ntmps127 Z (fun w O => ?_)
 have key : ∀ y:Nat,y<256→gI y≤8:=fun y hy=>oL (n:=8) S Y
 by_cases h1:65536≤x
 ·have e1:=mA (k:=16) (x:=x) S S
  by_cases h2:256≤x / 2^16
  ·have e2:=mA (k:=8) (x:=x / 2^16) S S
   have k2:=key (x / 2^16 / 2^8) S
   refine ah (aj (An Z (Ap (aa (ah (ah (aj (Am Z (Al (sT S (fd Z Z)) ?_)))))))))
   refine Ap (aa (az Z (ah (aj (Am Z (Al (mc (s:=16) Z Z Y) (An Z (Ap (aa ?_)))))))))
   refine aj (An Z (Ap (aa (ah (ah (aj (Am Z (Al (sT S (fd Z Z)) (Ap ?_)))))))))
   refine aa (az Z (ah (aj (Am Z (Al (mc (s:=8) Z Z Y) (An Z (Ap (aa (aj ?_)))))))))
   refine Am Z (Al (cq Z Z (aR S S)) (An Z (Ap (aa (ah (aj (Am Z (Am Z (Al (lG Z S S) ?_)))))))))
   refine Al (ii X Z Z (oM H S)) (Al (fy Z S S) (Al (cq Z Z (aR S S)) (An Z (Ap (aa (aG ?_))))))
   refine aP Tryz.results127 (.tmp Z (aq (by congr 1;omega)))
  ·have k2:=key (x / 2^16) S
   refine ah (aj (An Z (Ap (aa (ah (ah (aj (Am Z (Al (sT S (fd Z Z)) ?_)))))))))
   refine Ap (aa (az Z (ah (aj (Am Z (Al (mc (s:=16) Z Z Y) (An Z (Ap (aa ?_)))))))))
   refine aj (An Z (Ap (aa (ah (ah (aj (Am Z (Al (sF S (fd Z Z)) (Ap ?_)))))))))
   refine aa (aA Z (au (aa (ah (aj (Am Z (Am Z (Al (lG Z S S) (Al (ii X Z Z (oM H S)) ?_)))))))))
   refine Al (fy Z S S) (Al (cq Z Z (aR S S)) (An Z (Ap (aa (aG ?_)))))
   refine aP Tryz.results127 (.tmp Z (aq (by congr 1;omega)))
 ·by_cases h2:256≤x
  ·have e2:=mA (k:=8) (x:=x) S S
   have k2:=key (x / 2^8) S
   refine ah (aj (An Z (Ap (aa (ah (ah (aj (Am Z (Al (sF S (fd Z Z)) ?_)))))))))
   refine Ap (aa (aA Z (au (aa (ah (ah (aj (Am Z (Al (sT S (fd Z Z)) ?_)))))))))
   refine Ap (aa (az Z (ah (aj (Am Z (Al (mc (s:=8) Z Z Y) (An Z (Ap (aa ?_)))))))))
   refine aj (Am Z (Al (cq Z Z (aR S S)) (An Z (Ap (aa (ah (aj (Am Z (Am Z ?_)))))))))
   refine Al (lG Z S S) (Al (ii X Z Z (oM H S)) (Al (fy Z S S) (Al (cq Z Z (aR S S)) (An Z (Ap (aa (aG ?_)))))))
   refine aP Tryz.results127 (.tmp Z (aq (by congr 1;omega)))
  ·have k2:=key x S
   refine ah (aj (An Z (Ap (aa (ah (ah (aj (Am Z (Al (sF S (fd Z Z)) ?_)))))))))
   refine Ap (aa (aA Z (au (aa (ah (ah (aj (Am Z (Al (sF S (fd Z Z)) ?_)))))))))
   refine Ap (aa (aA Z (au (aa (ah (aj (Am Z (Am Z (Al (lG Z S S) ?_)))))))))
   refine Al (ii X Z Z (oM H S)) (Al (fy Z S S) (Al (cq Z Z (aR S S)) (An Z (Ap (aa (aG ?_))))))
   refine aP Tryz.results127 (.tmp Z (aq (by congr 1;omega)))
theorem vY (x:Nat) (hx:x<4294967296):Ok Tryz.prog 123 [one (.int .u32 x)] (one (.int .i64 ((32 - gI x:Nat):Int))):=by
 have h:=oL (n:=32) (x:=x) S Y
 refine Ok.enter Tryz.func123 Z Tryz.ntmps123 Z (fun w O => ?_)
 refine ah (aj (An Z (Ap (aa (ah (aj (Am Z ?_)))))))
 refine Al (am (uN _ (by assumption)) Z ⟨W,Aq⟩) ?_
 refine Al (ey Z Z (aR S S)) (An Z (Ap (aa (aG ?_))))
 refine aP Tryz.results123 (.tmp Z (aq (by congr 1;omega)))
theorem uO (i:Nat):4294967296^i=2^(32*i):=by rw [Nat.pow_mul]
theorem mB {l:List Nat} (h:bB l) (i:Nat):lv (l.take i)<2^(32*i):=by
 have h1:=gf (h.take i)
 rw [← uO]
 exact Nat.lt_of_lt_of_le h1 (Nat.pow_le_pow_right Y (by simp;omega))
theorem q8 {d e i:Nat} (hd:d<4294967296) (hb:e<2^(32*i)) (hi:i≤1):d*2^(32*i)+e<18446744073709551616:=by
 rcases (show i=0∨i=1 by omega) with rfl | rfl
 ·rw [show 2^(32*0)=1 by simp] at hb ⊢; omega
 ·rw [show 2^(32*1)=4294967296 by simp] at hb ⊢
  have h1:d*4294967296+e<(d+1)*4294967296:=by rw [Nat.add_mul]; exact Nat.add_lt_add_left (by rw [Nat.one_mul]; exact hb) _
  exact Nat.lt_of_lt_of_le h1 (Nat.le_trans (Nat.mul_le_mul_right _ hd) (Nat.le_of_eq Z))
theorem sf (l:List Nat) (hl:bB l) (h2:l.length≤2):Ok Tryz.prog 121 [cg l] (one (.int .u64 (lv l))):=by
 refine Ok.enter Tryz.func121 Z Tryz.ntmps121 Z (fun w O => ?_)
 refine ah (aj (An Z (Ap (aa (ah (aj (An Z (Ap (aa ?_)))))))))
 refine ah (ah (aj (Am Z (Al (be Z) (Am Z (Ap (aa (ar (bV (Γ' := [(2,_),(3,_),(6,_),(7,_),(8,_)]) Ag (SubM.refl _) ?_)))))))))
 refine bv (σ:=Nat) (Γk := [(2,_),(6,_),(7,_)]) Ag (fun i => [(8,one (.int .i64 (i:Nat))),(3,one (.int .u64 (lv (l.take i))))]) (fun i M0=>M0) (fun i=>i≤l.length) (fun i=>l.length - i) (0) (Nat.zero_le _) Ah (.nil) (fun i hi => ?_)
 refine bK (Γ' := [(8,_),(3,_),(2,_),(6,_),(7,_)]) (M' := []) Z Z (ah (aj (Al (aS Z Z) (Ap (aa (ah ?_))))))
 refine mY Z (fun hc => ?_) (fun hc => ?_)
 ·have hi1:i≤1:=by omega
  have hd:=bk hl i
  have hb:=mB hl i
  have hab:=q8 hd hb hi1
  have ha:l.getD i 0*2^(32*i)<18446744073709551616:=Nat.lt_of_le_of_lt (Nat.le_add_right _ _) hab
  have hn:lv (l.take i)+l.getD i 0*2^(32*i)=lv (l.take (i+1)):=by
   rw [bI S,uO,Nat.mul_comm]
  refine au (aa (ah (ar (ah (aj (Am Z (Al (ax Z Z S) (Al (aH Z) (An Z ?_)))))))))
  refine An Z (Ap (aa (aj (Am Z (Am Z (Al (bL Z S) (Am Z (Al (xe 32 _ Z Z S) (Al (jC Z Z S S) ?_)))))))))
  refine Al (wP Z Z S S) (An Z (Ap (aD (aa (aj (Al (bn _ 1 Z Z S) (Am Z (Ap ?_))))))))
  rw [hn]
  refine aJ (i+1) S S Ah (.nil)
 ·have e:i=l.length:=by omega
  subst e
  rw [List.take_length]
  refine aU (av (av (aC (aa (ah (aj (Am Z (An Z (Ap ?_)))))))))
  refine aa (aG ?_)
  refine aP Tryz.results121 (.tmp Z W)
end Tor
end
section
namespace Tor
open Go Go.RowKit Go.Proofs
structure ShortR (l:List Nat) (d:Nat) (s:List Nat × Nat × Nat):Prop where
 le:s.2.1≤l.length
 len:s.1.length=l.length
 lim:bB s.1
 r:s.2.2<d
 zero : ∀ k,k<s.2.1→s.1.getD k 0=0
 val:lv l=lv (l.take s.2.1)+(lv s.1*d+4294967296^s.2.1*s.2.2)
theorem ShortR.start {l:List Nat} {d:Nat} (hd:0<d):ShortR l d (List.replicate l.length 0,l.length,0) :=
 ⟨Nat.le_refl _,by simp,bB.replicate _,hd,fun k _=>cH _ _,by simp [d7]⟩
theorem ShortR.bound {x r d:Nat} (hx:x<4294967296) (hr:r<d) (hd:d<4294967296):r*4294967296+x<18446744073709551616∧(r*4294967296+x) / d<4294967296:=by
 have h1:r*4294967296+x<d*4294967296:=by omega
 exact ⟨by omega,Nat.div_lt_of_lt_mul h1⟩
theorem ShortR.step {l:List Nat} {d:Nat} {z:List Nat} {n r:Nat} (h:ShortR l d (z,n+1,r)) (hl:bB l) (hd:d<4294967296) :
  ShortR l d (z.set n ((r*4294967296+l.getD n 0) / d),n,(r*4294967296+l.getD n 0) % d):=by
 have hn:n<l.length:=h.le
 have hz:n<z.length:=by have:=h.len;simp only at this;omega
 have hx:=bk hl n
 have hr:r<d:=h.r
 have hb:=ShortR.bound hx hr hd
 have h0:z.getD n 0=0:=h.zero n (Nat.lt_succ_self n)
 have hs:=fJ (l:=z) (v:=(r*4294967296+l.getD n 0) / d) hz
 rw [h0,Nat.mul_zero,Nat.add_zero] at hs
 refine ⟨Nat.le_of_lt hn,by rw [List.length_set]; exact h.len,bB.set h.lim hb.2,Nat.mod_lt _ S,fun k hk => ?_,?_⟩
 ·simp only at hk ⊢
  rw [dA hz,if_neg S]; exact h.zero k (Nat.lt_succ_of_lt hk)
 ·have hv:lv l=lv (l.take (n+1))+(lv z*d+4294967296^(n+1)*r):=h.val
  simp only
  rw [hs,hv,bI hn]
  have e:=Nat.div_add_mod (r*4294967296+l.getD n 0) d
  generalize (r*4294967296+l.getD n 0) / d=q at *
  generalize (r*4294967296+l.getD n 0) % d=m at *
  generalize l.getD n 0=x at *
  rw [Nat.pow_succ]
  generalize 4294967296^n=B at *
  have e2:B*(d*q+m)=B*(r*4294967296+x):=by rw [e]
  have e3:(lv z+B*q)*d=lv z*d+B*(d*q):=by rw [Nat.add_mul,Nat.mul_assoc,Nat.mul_comm q d]
  have e4:B*4294967296*r=B*(r*4294967296):=by rw [Nat.mul_assoc,Nat.mul_comm r]
  rw [e3,e4]
  rw [Nat.mul_add,Nat.mul_add] at e2
  omega
theorem ShortR.finish {l:List Nat} {d:Nat} {z:List Nat} {r:Nat} (h:ShortR l d (z,0,r)):lv z=lv l / d∧r=lv l % d:=by
 have hv:lv l=lv (l.take 0)+(lv z*d+4294967296^0*r):=h.val
 have hr:r<d:=h.r
 have e:lv l=lv z*d+r:=by simpa [lv] using hv
 rw [e]
 constructor
 ·rw [Nat.mul_comm,Nat.mul_add_div S,Nat.div_eq_of_lt hr]; rfl
 ·rw [Nat.mul_comm,Nat.mul_add_mod,Nat.mod_eq_of_lt hr]
theorem oN {b:Option Nat} {T:TypeId} {n cap:Nat} {z:List Nat} {k v v':Nat} (hk:k<z.length) (hv:v'=v):Own.le (a8 b T .one n cap (upd (fun q=>one (.int .u32 (z.getD q 0:Nat))) k (one (.int .u32 (v':Nat))))) (a8 b T .one n cap (fun q=>one (.int .u32 ((z.set k v).getD q 0:Nat)))):=by
 subst hv
 exact cy (fun q _=>by unfold upd;rw [dA hk]; split <;> rfl)
attribute [local irreducible] J PJ aQ one slT cA bG bZ exT cE eP aX a8 slV VT.le Ret bS
theorem uP (l:List Nat) (d:Nat) (hl:bB l) (h1:l.length≤1099511627776) (hd0:0<d) (hd:d<4294967296):Ok Tryz.prog 122 [cg l,one (.int .u32 (d:Nat))] (bZ [kQ (lv l / d),one (.int .u32 ((lv l % d:Nat):Int))]):=by
 refine Ok.enter Tryz.func122 Z Tryz.ntmps122 Z (fun w O => ?_)
 refine ah (aj (An Z (An Z (Ap (aa (ah (aj (Am Z (Al (be Z) ?_)))))))))
 refine cK l.length l.length Z Z Z Z (Nat.le_refl _) Z Z S Z Z (fun bz => ?_)
 refine An Z (Ap (aa (ah (aj (An Z (Ap (aa (ah (ah ?_)))))))))
 refine aj (Am Z (Al (be Z) (Al (ey Z Z (aR S S)) (An Z (Ap (aa (ar (bV (Γ' := [(0,_),(1,_),(4,_),(5,_),(6,_),(7,_),(8,_)]) Ag (SubM.refl _) ?_))))))))
 refine bv (σ:=List Nat × Nat × Nat) (Γk := [(0,_),(1,_),(4,_),(5,_),(6,_)]) Ag (fun s => [(8,one (.int .i64 ((s.2.1:Nat) - 1:Int))),(7,one (.int .u64 (s.2.2:Nat)))]) (fun s M0=>(M0.set 0 (a8 (some bz) 90 .one l.length l.length (fun q=>one (.int .u32 (s.1.getD q 0:Nat)))))) (fun s=>ShortR l d s) (fun s=>s.2.1) ((List.replicate l.length 0,l.length,0)) (ShortR.start hd0) Ah (.keep (cy (fun q _=>by rw [cH]; rfl)) (.nil)) (fun s hs => ?_)
 refine bK (Γ' := [(8,_),(7,_),(0,_),(1,_),(4,_),(5,_),(6,_)]) (M' := [_]) Z Z ?_
 obtain ⟨z,n,r⟩:=s
 dsimp only at hs ⊢
 refine ah (ah (aj (Am Z (Al (fd Z Z) (Ap (aa ?_))))))
 cases n with
 | zero =>
  obtain ⟨f1,f2⟩:=hs.finish
  have hlen:z.length=l.length:=hs.len
  have hr:r<d:=hs.r
  rw [← f1, ← f2]
  refine lF Z S (aU (av (av (aC (aa (ah (aj (Am Z (Am Z ?_)))))))))
  refine Al (cM Z) (An Z (An Z (Ap (aa (aG (dz (t:=4) (i:=0) Z Z ?_))))))
  refine gr Tryz.results122 (.tmp Z (VT.le_trans (cL (m:=z.length) (ψ:=fun i=>one (.int .u32 (z.getD i 0:Nat))) hlen.symm (fun q hq=>rfl)) (fA (l:=z) hs.lim Z))) (.tmp Z (aq (by congr 1;omega)))
 | succ n =>
  have hx:=bk hl n
  have hr:r<d:=hs.r
  have hb:=ShortR.bound hx hr hd
  have hst:=hs.step hl hd
  have hn:n<l.length:=hs.le
  have hzn:n<z.length:=by have:=hs.len;dsimp only at this;omega
  have en:((n+1:Nat):Int) - 1=(n:Nat):=by omega
  rw [en]
  refine lE Z S (au (aa (ah (ar (ah (aj (Am Z (Al (jC (s:=32) Z Z S S) (Am Z ?_)))))))))
  refine Am Z (Al (ax Z Z S) (Al (aH Z) (Al (bL Z S) (Al (kN Z Z S S) (An Z (Ap (aa (ah (aj ?_)))))))))
  refine Am Z (Am Z (Am Z (Am Z (Al (bL Z S) (Al (jz Z Z S S) (Al (cM Z) (Al (an Z Z S) ?_)))))))
  (refine bD 0 Z Z Z ?_ Z ?_;omega)
  refine Ap (aa (aj (Am Z (Am Z (Al (bL Z S) (Al (oc _ Z Z Z S) (An Z (Ap (aD ?_)))))))))
  refine aa (aj (Am Z (Al (ey Z Z (aR S S)) (An Z (Ap ?_)))))
  refine aJ ((z.set n ((r*4294967296+l.getD n 0) / d),n,(r*4294967296+l.getD n 0) % d)) (hst) (by (simp only []; omega)) Ah (.keep (oN hzn (Nat.mod_eq_of_lt hb.2)) (.nil))
end Tor
end
section
namespace Tor
open Go Go.RowKit Go.Proofs
structure ShiftR (l:List Nat) (s:Nat) (p:List Nat × Nat × Nat):Prop where
 le:p.2.1≤l.length
 len:p.1.length=l.length+1
 lim:bB p.1
 c:p.2.2<2^s
 zero : ∀ k,p.2.1≤k→p.1.getD k 0=0
 val:lv p.1+4294967296^p.2.1*p.2.2=lv (l.take p.2.1)*2^s
theorem ShiftR.start (l:List Nat) (s:Nat):ShiftR l s (List.replicate (l.length+1) 0,0,0) :=
 ⟨Nat.zero_le _,by simp,bB.replicate _,Nat.two_pow_pos s,fun k _=>cH _ _,by simp [d7,lv]⟩
theorem ShiftR.bound {d c s:Nat} (hd:d<4294967296) (hc:c<2^s) (hs:s<32):d*2^s+c<4294967296*2^s∧d*2^s+c<18446744073709551616∧d*2^s<18446744073709551616∧2^s<4294967296:=by
 have h1:(d+1)*2^s≤4294967296*2^s:=Nat.mul_le_mul_right _ hd
 have h2:2^s≤2^31:=Nat.pow_le_pow_right Y S
 rw [Nat.add_mul,Nat.one_mul] at h1
 have h3:(2:Nat)^31=2147483648:=rfl
 generalize d*2^s=x at *
 generalize 2^s=y at *
 omega
theorem ShiftR.step {l:List Nat} {s:Nat} {z:List Nat} {i c:Nat} (h:ShiftR l s (z,i,c)) (hl:bB l) (hs:s<32) (hi:i<l.length) :
  ShiftR l s (z.set i ((c+l.getD i 0*2^s) % 4294967296),i+1,(c+l.getD i 0*2^s) / 4294967296):=by
 have hlen:z.length=l.length+1:=h.len
 have hz:i<z.length:=by omega
 have hc:c<2^s:=h.c
 have hb:=ShiftR.bound (bk hl i) hc hs
 have h0:z.getD i 0=0:=h.zero i (Nat.le_refl _)
 have hv:lv z+4294967296^i*c=lv (l.take i)*2^s:=h.val
 have hse:=fJ (l:=z) (v:=(c+l.getD i 0*2^s) % 4294967296) hz
 rw [h0,Nat.mul_zero,Nat.add_zero] at hse
 refine ⟨hi,by rw [List.length_set]; exact hlen,bB.set h.lim (Nat.mod_lt _ Y),?_,fun k hk => ?_,?_⟩
 ·show (c+l.getD i 0*2^s) / 4294967296<2^s
  exact Nat.div_lt_of_lt_mul S
 ·simp only at hk ⊢
  rw [dA hz,if_neg S]; exact h.zero k (by show i≤k;omega)
 ·show lv (z.set i _)+4294967296^(i+1)*_=lv (l.take (i+1))*2^s
  dsimp only
  rw [hse,bI hi,Nat.pow_succ,Nat.add_mul, ← hv]
  generalize l.getD i 0=x at *
  generalize 2^s=p at *
  have e:=Nat.div_add_mod (c+x*p) 4294967296
  generalize (c+x*p) / 4294967296=q at *
  generalize (c+x*p) % 4294967296=m at *
  generalize 4294967296^i=B at *
  have e2:B*(4294967296*q+m)=B*(c+x*p):=by rw [e]
  rw [Nat.mul_add,Nat.mul_add, ← Nat.mul_assoc, ← Nat.mul_assoc] at e2
  omega
theorem ShiftR.finish {l:List Nat} {s:Nat} {z:List Nat} {c:Nat} (h:ShiftR l s (z,l.length,c)) (hs:s<32) :
  (z.set l.length c).length=l.length+1∧bB (z.set l.length c)∧lv (z.set l.length c)=lv l*2^s∧c<4294967296∧l.length<z.length:=by
 have hlen:z.length=l.length+1:=h.len
 have hc:c<2^s:=h.c
 have hb:=ShiftR.bound (d:=0) Y hc hs
 have h0:z.getD l.length 0=0:=h.zero _ (Nat.le_refl _)
 have hv:lv z+4294967296^l.length*c=lv (l.take l.length)*2^s:=h.val
 have hse:=fJ (l:=z) (k:=l.length) (v:=c) S
 rw [h0,Nat.mul_zero,Nat.add_zero] at hse
 rw [List.take_length] at hv
 exact ⟨by rw [List.length_set]; exact hlen,bB.set h.lim S,by rw [hse,hv],by omega,by omega⟩
abbrev fK (z:List Nat):Nat→VT:=fun q=>one (.int .u32 (z.getD q 0:Nat))
theorem fH {b:Option Nat} {T:TypeId} {n cap:Nat} {z:List Nat} {k v v':Nat} (hk:k<z.length) (hv:v'=v):Own.le (a8 b T .one n cap (upd (fK z) k (one (.int .u32 (v':Nat))))) (a8 b T .one n cap (fK (z.set k v))):=oN hk hv
abbrev oO (l:List Nat) (s:Nat):Type := {p:Nat × List Nat // p.2.length=l.length+1∧bB p.2∧lv p.2=lv l*2^s}
attribute [local irreducible] J PJ aQ one slT cA bG bZ exT cE eP aX a8 slV VT.le Ret bS
theorem qa (l:List Nat) (s:Nat) (hl:bB l) (h1:l.length≤1099511627776) (hs:s<32):OkM Tryz.prog 124 [cg l,one (.int .i64 (s:Nat))] (fun p:oO l s=>one (slV (some p.1.1) (l.length+1) (l.length+1))) (fun p => [a8 (some p.1.1) 90 .one (l.length+1) (l.length+1) (fK p.1.2)]):=by
 refine OkM.enter Tryz.func124 Z Tryz.ntmps124 Z (fun w O => ?_)
 refine ah (aj (An Z (Ap (aa (ah (aj (Am Z (Al (be Z) (Al (bn _ 1 Z Z S) ?_)))))))))
 refine cK (l.length+1) (l.length+1) Z Z (by simp) (by simp) (Nat.le_refl _) Z Z S Z Z (fun bz => ?_)
 refine An Z (Ap (aa (ah (aj (An Z (Ap (aa (ah (ah ?_)))))))))
 refine aj (Am Z (Al (be Z) (Am Z (Ap (aa (ar (bV (Γ' := [(0,_),(1,_),(4,_),(5,_),(6,_),(13,_),(14,_),(15,_)]) Ag (SubM.refl _) ?_)))))))
 refine bv (σ:=List Nat × Nat × Nat) (Γk := [(0,_),(1,_),(4,_),(5,_),(13,_),(14,_)]) Ag (fun p => [(15,one (.int .i64 (p.2.1:Nat))),(6,one (.int .u64 (p.2.2:Nat)))]) (fun p M0=>(M0.set 0 (a8 (some bz) 90 .one (l.length+1) (l.length+1) (fK p.1)))) (fun p=>ShiftR l s p) (fun p=>l.length - p.2.1) ((List.replicate (l.length+1) 0,0,0)) (ShiftR.start l s) Ah (.keep (cy (fun q _=>by unfold fK;rw [cH]; rfl)) (.nil)) (fun p hp => ?_)
 refine bK (Γ' := [(15,_),(6,_),(0,_),(1,_),(4,_),(5,_),(13,_),(14,_)]) (M' := [_]) Z Z ?_
 obtain ⟨z,i,c⟩:=p
 dsimp only at hp ⊢
 refine ah (aj (Al (aS Z Z) (Ap (aa (ah ?_)))))
 refine mY Z (fun hcc => ?_) (fun hcc => ?_)
 ·have hc:c<2^s:=hp.c
  have hi:i<l.length:=by omega
  have hb:=ShiftR.bound (bk hl i) hc hs
  have hst:=hp.step hl hs hi
  have hx:=bk hl i
  have hzn:i<z.length:=by have:=hp.len;dsimp only at this;omega
  refine au (aa (ah (ar (ah (aj (Am Z (Al (ax Z Z S) (Al (aH Z) (An Z ?_)))))))))
  refine An Z (Ap (aa (ah (aj (Am Z (Am Z (Al (bL Z S) (Am Z (Al (jC Z Z S S) ?_)))))))))
  refine Al (wP Z Z S S) (An Z (Ap (aa (ah (aj (Am Z (Am Z (Am Z (Al (cM Z) ?_)))))))))
  refine Al (an Z Z S) ?_
  (refine bD 0 Z Z Z ?_ Z ?_;omega)
  refine Ap (aa (aj (Am Z (Al (fP Z) (An Z (Ap (aD (aa (aj ?_)))))))))
  refine Al (bn _ 1 Z Z S) (Am Z (Ap ?_))
  refine aJ ((z.set i ((c+l.getD i 0*2^s) % 4294967296),i+1,(c+l.getD i 0*2^s) / 4294967296)) (hst) (by (simp only []; omega)) Ah (.keep (fH hzn Z) (.nil))
 ·have e:i=l.length:=by have:=hp.le;dsimp only at this;omega
  subst e
  obtain ⟨f1,f2,f3,f4,f5⟩:=hp.finish hs
  have hc:c<2^s:=hp.c
  refine aU (av (av (aC (aa (ah (aj (Am Z (Am Z (Al (be Z) ?_)))))))))
  refine Am Z (Al (cM Z) (Al (an Z Z S) ?_))
  (refine bD 0 Z Z Z ?_ Z ?_;omega)
  refine Ap (aa (ah (aj (Am Z (An Z (Ap (aa (aG ?_))))))))
  refine iB (⟨(bz,z.set l.length c),f1,f2,f3⟩:oO l s) Tryz.results124 (.tmp Z W) (.keep (fH f5 (Nat.mod_eq_of_lt f4)) .nil)
end Tor
end
section
namespace Tor
def win (Af:List Nat) (j m:Nat):List Nat:=(Af.drop j).take m
theorem sg {Af:List Nat} {j m:Nat} (h:j+m≤Af.length):(win Af j m).length=m:=by unfold win;simp;omega
theorem gl {Af:List Nat} {j m i:Nat} (h:i<m):(win Af j m).getD i 0=Af.getD (j+i) 0:=by
 unfold win;simp [List.getD,List.getElem?_take,h]
theorem kq {Af:List Nat} {j m i x:Nat} (h:i<m):win (Af.set (j+i) x) j m=(win Af j m).set i x:=by
 unfold win;rw [List.drop_set,if_neg S,Nat.add_sub_cancel_left,List.take_set]
theorem bB.win {Af:List Nat} (h:bB Af) (j m:Nat):bB (win Af j m):=fun d hd=>h d (List.mem_of_mem_drop (List.mem_of_mem_take hd))
theorem vZ {l:List Nat} {k:Nat} (h:l.length=k+2):lv l=lv (l.take k)+4294967296^k*(l.getD k 0+4294967296*l.getD (k+1) 0):=by
 have e:l=l.take (k+2):=by rw [List.take_of_length_le S]
 conv=>lhs;rw [e]
 rw [bI S,bI S,Nat.pow_succ,Nat.mul_add,Nat.mul_assoc]; omega
theorem v6 {l:List Nat} {k:Nat} (h:l.length=k+3):lv l=lv (l.take k)+4294967296^k*(l.getD k 0+4294967296*(l.getD (k+1) 0+4294967296*l.getD (k+2) 0)):=by
 have e:l=l.take (k+3):=by rw [List.take_of_length_le S]
 conv=>lhs;rw [e]
 rw [bI S,bI S,bI S]
 simp only [Nat.pow_succ,Nat.mul_add,Nat.mul_assoc]; omega
structure Gss (U V B P h v2 top u2:Nat):Prop where
 P0:0<P
 iv1:(h*B+v2)*P≤V
 iv2:V<(h*B+v2+1)*P
 iu1:(top*B+u2)*P≤U
 iu2:U<(top*B+u2+1)*P
 l2:v2<B
 m2:u2<B
 h0:0<h
 lt:U<V*B
theorem Gss.V0 {U V B P h v2 top u2:Nat} (g:Gss U V B P h v2 top u2):0<V:=by
 rcases Nat.eq_zero_or_pos V with h | h
 ·have:=g.lt;rw [h] at this;simp at this
 ·exact h
theorem Gss.top {U V B P h v2 top u2:Nat} (g:Gss U V B P h v2 top u2):top<(h+1)*B:=by
 have h1:top*(B*P)<(h+1)*B*(B*P):=by
  calc top*(B*P)=top*B*P:=(Nat.mul_assoc _ _ _).symm
   _≤(top*B+u2)*P:=Nat.mul_le_mul_right _ (Nat.le_add_right _ _)
   _≤U:=g.iu1
   _<V*B:=g.lt
   _≤(h*B+v2+1)*P*B:=Nat.mul_le_mul_right _ (Nat.le_of_lt g.iv2)
   _≤((h+1)*B)*P*B:=Nat.mul_le_mul_right _ (Nat.mul_le_mul_right _ (by rw [Nat.add_mul,Nat.one_mul]; have:=g.l2;omega))
   _=(h+1)*B*(B*P):=by rw [Nat.mul_assoc,Nat.mul_comm P B]
 exact Nat.lt_of_mul_lt_mul_right h1
theorem Gss.q_lt {U V B P h v2 top u2:Nat} (g:Gss U V B P h v2 top u2):U / V<B:=Nat.div_lt_of_lt_mul g.lt
theorem Gss.start {U V B P h v2 top u2:Nat} (g:Gss U V B P h v2 top u2):U / V≤top / h:=by
 rw [Nat.le_div_iff_mul_le g.h0]
 have h1:(U / V*h)*(B*P)<(top+1)*(B*P):=by
  calc (U / V*h)*(B*P)=U / V*(h*B*P):=by rw [Nat.mul_assoc,Nat.mul_assoc]
   _≤U / V*((h*B+v2)*P):=Nat.mul_le_mul_left _ (Nat.mul_le_mul_right _ (Nat.le_add_right _ _))
   _≤U / V*V:=Nat.mul_le_mul_left _ g.iv1
   _≤U:=Nat.div_mul_le_self _ _
   _<(top*B+u2+1)*P:=g.iu2
   _≤((top+1)*B)*P:=Nat.mul_le_mul_right _ (by rw [Nat.add_mul,Nat.one_mul]; have:=g.m2;omega)
   _=(top+1)*(B*P):=Nat.mul_assoc _ _ _
 exact Nat.lt_succ_iff.1 (Nat.lt_of_mul_lt_mul_right h1)
theorem Gss.low {U V B P h v2 top u2:Nat} (g:Gss U V B P h v2 top u2) {q r:Nat} (e:q*h+r=top) (hc:r*B+u2<q*v2):U / V<q:=by
 have h1:(U / V*(h*B+v2))*P<(top*B+u2+1)*P:=by
  calc (U / V*(h*B+v2))*P=U / V*((h*B+v2)*P):=Nat.mul_assoc _ _ _
   _≤U / V*V:=Nat.mul_le_mul_left _ g.iv1
   _≤U:=Nat.div_mul_le_self _ _
   _<(top*B+u2+1)*P:=g.iu2
 have h2:=Nat.lt_of_mul_lt_mul_right h1
 have h3:top*B+u2<q*(h*B+v2):=by
  rw [← e,Nat.add_mul,Nat.mul_add,Nat.mul_assoc]; omega
 exact Nat.lt_of_mul_lt_mul_right (Nat.lt_of_lt_of_le h2 h3)
theorem Gss.done {U V B P h v2 top u2:Nat} (g:Gss U V B P h v2 top u2) {q r:Nat} (e:q*h+r=top) (hq:q<B) (hc:q*v2≤r*B+u2∨B≤r):q≤U / V+1:=by
 rcases Nat.eq_zero_or_pos q with h0 | h0
 ·rw [h0]; exact Nat.zero_le _
 obtain ⟨p,rfl⟩ : ∃ p,q=p+1:=⟨q - 1,by omega⟩
 have hh:(p+1)*v2≤r*B+u2:=by
  rcases hc with hc | hc
  ·exact hc
  ·have h1:(p+1)*v2≤B*B:=Nat.mul_le_mul (Nat.le_of_lt hq) (Nat.le_of_lt g.l2)
   have h2:B*B≤r*B:=Nat.mul_le_mul_right _ hc
   omega
 have h3:(p+1)*(h*B+v2)≤top*B+u2:=by
  rw [← e,Nat.add_mul _ r,Nat.mul_add,Nat.mul_assoc]; omega
 have h4:p*(h*B+v2+1)≤top*B+u2:=by
  refine Nat.le_trans ?_ h3
  rw [Nat.add_mul p 1,Nat.mul_add p (h*B+v2) 1,Nat.one_mul,Nat.mul_one]
  have:B≤h*B:=Nat.le_mul_of_pos_left _ g.h0
  omega
 have h5:p*V≤U:=by
  calc p*V≤p*((h*B+v2+1)*P):=Nat.mul_le_mul_left _ (Nat.le_of_lt g.iv2)
   _=p*(h*B+v2+1)*P:=(Nat.mul_assoc _ _ _).symm
   _≤(top*B+u2)*P:=Nat.mul_le_mul_right _ h4
   _≤U:=g.iu1
 have:=(Nat.le_div_iff_mul_le g.V0).2 h5
 omega
theorem xt {u v:List Nat} {k:Nat} (hu:bB u) (hv:bB v) (lu:u.length=k+3) (lw:v.length=k+2) (hh:0<v.getD (k+1) 0) (hlt:lv u<lv v*4294967296) :
  Gss (lv u) (lv v) 4294967296 (4294967296^k) (v.getD (k+1) 0) (v.getD k 0) (u.getD (k+2) 0*4294967296+u.getD (k+1) 0) (u.getD k 0):=by
 have e1:=v6 lu
 have e2:=vZ lw
 have h1:=gf (hu.take k)
 have h2:=gf (hv.take k)
 rw [List.length_take_of_le S] at h1 h2
 have g1:=bk hu k
 have g2:=bk hv k
 refine ⟨Nat.pow_pos Y,?_,?_,?_,?_,g2,g1,hh,hlt⟩
 ·rw [e2,Nat.mul_comm _ (4294967296^k),show v.getD (k+1) 0*4294967296+v.getD k 0=v.getD k 0+4294967296*v.getD (k+1) 0 by omega]; omega
 ·rw [e2,Nat.mul_comm _ (4294967296^k),show v.getD (k+1) 0*4294967296+v.getD k 0+1=v.getD k 0+4294967296*v.getD (k+1) 0+1 by omega,Nat.mul_add (4294967296^k) _ 1]; omega
 ·rw [e1,Nat.mul_comm _ (4294967296^k),show (u.getD (k+2) 0*4294967296+u.getD (k+1) 0)*4294967296+u.getD k 0=u.getD k 0+4294967296*(u.getD (k+1) 0+4294967296*u.getD (k+2) 0) by omega]; omega
 ·rw [e1,Nat.mul_comm _ (4294967296^k),show (u.getD (k+2) 0*4294967296+u.getD (k+1) 0)*4294967296+u.getD k 0+1=u.getD k 0+4294967296*(u.getD (k+1) 0+4294967296*u.getD (k+2) 0)+1 by omega,Nat.mul_add (4294967296^k) _ 1]; omega
structure GuessR (h top Q:Nat) (p:Nat × Nat):Prop where
 e:p.1*h+p.2=top
 r:p.2<4294967296
 q:Q≤p.1
 m:p.1≤4294967297
structure SubR (u v:List Nat) (q:Nat) (z:List Nat) (i b c:Nat):Prop where
 le:i≤v.length
 len:z.length=u.length
 lim:bB z
 hb:b≤1
 hc:c<4294967296
 val:lv z+q*lv (v.take i)=lv u+4294967296^i*(b+c)
theorem oP {x y b d:Nat} (hx:x<4294967296) (hy:y<4294967296) (hb:b≤1) (hd:d=((x+18446744073709551616 - y) % 18446744073709551616+18446744073709551616 - b) % 18446744073709551616) :
  d % 4294967296+y+b=x+4294967296*(d / 9223372036854775808)∧d / 9223372036854775808≤1:=by
 rcases Nat.lt_or_ge x (y+b) with h | h
 ·have h1:d=x+18446744073709551616 - (y+b):=by omega
  omega
 ·have h1:d=x - (y+b):=by omega
  omega
theorem SubR.start {u v:List Nat} {q:Nat} (hu:bB u):SubR u v q u 0 0 0:=⟨Nat.zero_le _,rfl,hu,by decide,by decide,by simp [lv]⟩
theorem oQ {q y c:Nat} (hq:q<4294967296) (hy:y<4294967296) (hc:c<4294967296):q*y<18446744073709551616∧c+q*y<18446744073709551616∧(c+q*y) / 4294967296<4294967296:=by
 have h1:q*y≤4294967295*4294967295:=Nat.mul_le_mul S S
 omega
theorem SubR.step {u v z:List Nat} {q i b c d:Nat} (h:SubR u v q z i b c) (hv:bB v) (hq:q<4294967296) (hi:i<v.length) (hl:v.length≤u.length)
  (hd:d=((z.getD i 0+18446744073709551616 - (c+q*v.getD i 0) % 4294967296) % 18446744073709551616+18446744073709551616 - b) % 18446744073709551616) :
  SubR u v q (z.set i (d % 4294967296)) (i+1) (d / 9223372036854775808) ((c+q*v.getD i 0) / 4294967296):=by
 have hlim:=oQ hq (bk hv i) h.hc
 obtain ⟨h1,h2⟩:=oP (bk h.lim i) (Nat.mod_lt _ Y) h.hb hd
 have hz:i<z.length:=by rw [h.len]; omega
 have hs:=fJ (l:=z) (v:=d % 4294967296) hz
 have hvv:=h.val
 refine ⟨hi,by rw [List.length_set]; exact h.len,h.lim.set (Nat.mod_lt _ Y),h2,hlim.2.2,?_⟩
 rw [bI hi,Nat.pow_succ,Nat.mul_add q]
 have e:=Nat.div_add_mod (c+q*v.getD i 0) 4294967296
 have e5:q*(4294967296^i*v.getD i 0)=4294967296^i*(q*v.getD i 0):=Nat.mul_left_comm _ _ _
 rw [e5]
 clear hd
 generalize z.getD i 0=x at *
 generalize q*v.getD i 0=y at *
 generalize 4294967296^i=B at *
 generalize (c+y) / 4294967296=t1 at *
 generalize (c+y) % 4294967296=t2 at *
 generalize d % 4294967296=r at *
 generalize d / 9223372036854775808=q' at *
 have e2:B*(r+t2+b)=B*(x+4294967296*q'):=by rw [h1]
 have e3:B*(4294967296*t1+t2)=B*(c+y):=by rw [e]
 simp only [Nat.mul_add,Nat.mul_assoc] at e2 e3 hvv ⊢
 omega
structure BackR (u v:List Nat) (z:List Nat) (i c:Nat):Prop where
 le:i≤v.length
 len:z.length=u.length
 lim:bB z
 hc:c≤1
 val:lv z+4294967296^i*c=lv u+lv (v.take i)
theorem BackR.start {u v:List Nat} (hu:bB u):BackR u v u 0 0:=⟨Nat.zero_le _,rfl,hu,by decide,by simp [lv]⟩
theorem BackR.step {u v z:List Nat} {i c:Nat} (h:BackR u v z i c) (hv:bB v) (hi:i<v.length) (hl:v.length≤u.length) :
  BackR u v (z.set i ((c+(z.getD i 0+v.getD i 0)) % 4294967296)) (i+1) ((c+(z.getD i 0+v.getD i 0)) / 4294967296):=by
 have hz:i<z.length:=by rw [h.len]; omega
 have hs:=fJ (l:=z) (v:=(c+(z.getD i 0+v.getD i 0)) % 4294967296) hz
 have hvv:=h.val
 have g1:=bk h.lim i
 have g2:=bk hv i
 have hc:=h.hc
 refine ⟨hi,by rw [List.length_set]; exact h.len,h.lim.set (Nat.mod_lt _ Y),by omega,?_⟩
 rw [bI hi,Nat.pow_succ]
 generalize z.getD i 0=x at *
 generalize v.getD i 0=y at *
 generalize 4294967296^i=B at *
 have e:4294967296*((c+(x+y)) / 4294967296)+(c+(x+y)) % 4294967296=c+(x+y):=by omega
 generalize (c+(x+y)) / 4294967296=t1 at *
 generalize (c+(x+y)) % 4294967296=t2 at *
 have e3:B*(4294967296*t1+t2)=B*(c+(x+y)):=by rw [e]
 simp only [Nat.mul_add,Nat.mul_assoc] at e3 hvv ⊢
 omega
theorem SubR.good {u v z:List Nat} {q b c d:Nat} (h:SubR u v q z v.length b c) (hl:u.length=v.length+1) (hV:0<lv v)
  (hQ:lv u / lv v≤q) (hd:d=((z.getD v.length 0+18446744073709551616 - c) % 18446744073709551616+18446744073709551616 - b) % 18446744073709551616) (h0:d / 9223372036854775808=0) :
  q=lv u / lv v∧bB (z.set v.length (d % 4294967296))∧lv (z.set v.length (d % 4294967296))=lv u % lv v:=by
 obtain ⟨h1,h2⟩:=oP (bk h.lim v.length) h.hc h.hb hd
 have hz:v.length<z.length:=by rw [h.len]; omega
 have hs:=fJ (l:=z) (v:=d % 4294967296) hz
 have hvv:=h.val
 rw [List.take_length] at hvv
 have e:lv (z.set v.length (d % 4294967296))+q*lv v=lv u:=by
  rw [h0] at h1
  generalize z.getD v.length 0=x at *
  clear hd
  generalize d % 4294967296=r at *
  generalize 4294967296^v.length=B at *
  have e2:B*(r+c+b)=B*(x+4294967296*0):=by rw [h1]
  simp only [Nat.mul_add] at e2 hvv
  omega
 have e4:lv (z.set v.length (d % 4294967296))=lv u - q*lv v:=by omega
 have hle:q≤lv u / lv v:=(Nat.le_div_iff_mul_le hV).2 S
 have eq:q=lv u / lv v:=by omega
 refine ⟨eq,h.lim.set (Nat.mod_lt _ Y),?_⟩
 have:=Nat.div_add_mod (lv u) (lv v)
 rw [e4,eq,Nat.mul_comm]; omega
theorem SubR.bad {u v z:List Nat} {q b c d:Nat} (h:SubR u v q z v.length b c) (hl:u.length=v.length+1) (hV:0<lv v)
  (hQ:lv u / lv v≤q) (hq:q≤lv u / lv v+1) (hd:d=((z.getD v.length 0+18446744073709551616 - c) % 18446744073709551616+18446744073709551616 - b) % 18446744073709551616) (h0:d / 9223372036854775808≠0) :
  q=lv u / lv v+1∧bB (z.set v.length (d % 4294967296))∧lv (z.set v.length (d % 4294967296))+lv v=lv u % lv v+4294967296^(v.length+1):=by
 obtain ⟨h1,h2⟩:=oP (bk h.lim v.length) h.hc h.hb hd
 have hz:v.length<z.length:=by rw [h.len]; omega
 have hs:=fJ (l:=z) (v:=d % 4294967296) hz
 have hvv:=h.val
 rw [List.take_length] at hvv
 have hL:bB (z.set v.length (d % 4294967296)):=h.lim.set (Nat.mod_lt _ Y)
 have hlt:=gf hL
 rw [List.length_set,h.len,hl] at hlt
 have h3:d / 9223372036854775808=1:=by omega
 have e:lv (z.set v.length (d % 4294967296))+q*lv v=lv u+4294967296^(v.length+1):=by
  rw [h3] at h1
  generalize z.getD v.length 0=x at *
  clear hd hL hlt h0 h2 h3
  generalize lv (z.set v.length (d % 4294967296))=y at *
  generalize d % 4294967296=r at *
  rw [Nat.pow_succ]
  generalize 4294967296^v.length=B at *
  have e2:B*(r+c+b)=B*(x+4294967296*1):=by rw [h1]
  simp only [Nat.mul_add] at e2 hvv
  omega
 have hm:=Nat.div_add_mod (lv u) (lv v)
 have hne:q≠lv u / lv v:=fun hx=>by
  rw [hx,Nat.mul_comm] at e;omega
 have eq:q=lv u / lv v+1:=by omega
 refine ⟨eq,hL,?_⟩
 rw [eq,Nat.add_mul,Nat.one_mul,Nat.mul_comm] at e
 omega
theorem BackR.good {u v z:List Nat} {c R x:Nat} (h:BackR u v z v.length c) (hl:u.length=v.length+1) (hV:R<lv v) (hv:bB v)
  (hu:lv u+lv v=R+4294967296^(v.length+1)) (hx:x=(z.getD v.length 0+c) % 4294967296):bB (z.set v.length x)∧lv (z.set v.length x)=R:=by
 have hz:v.length<z.length:=by rw [h.len]; omega
 have hs:=fJ (l:=z) (v:=x) hz
 have hvv:=h.val
 rw [List.take_length] at hvv
 have hL:bB (z.set v.length x):=h.lim.set (by rw [hx]; exact Nat.mod_lt _ Y)
 have hlt:=gf hL
 rw [List.length_set,h.len,hl] at hlt
 have hzl:=bk h.lim v.length
 have hc:=h.hc
 have hvl:=gf hv
 refine ⟨hL,?_⟩
 rcases Nat.lt_or_ge (z.getD v.length 0+c) 4294967296 with h5 | h5
 ·have h6:x=z.getD v.length 0+c:=by omega
  have e:lv (z.set v.length x)=lv u+lv v:=by
   rw [h6] at hs
   rw [h6]
   rw [Nat.mul_add] at hs
   omega
  omega
 ·have h6:x+4294967296=z.getD v.length 0+c:=by omega
  have e:lv (z.set v.length x)+4294967296^(v.length+1)=lv u+lv v:=by
   generalize lv (z.set v.length x)=y at *
   clear hlt
   rw [hu,Nat.pow_succ]
   generalize z.getD v.length 0=t at *
   rw [hu,Nat.pow_succ] at hvv
   generalize 4294967296^v.length=B at *
   have e2:B*(x+4294967296)=B*(t+c):=by rw [h6]
   simp only [Nat.mul_add] at e2
   omega
  omega
end Tor
end
section
namespace Tor
open Go Go.RowKit Go.Proofs
def gz (W0 Af:List Nat) (j m:Nat):Prop:=Af.length=W0.length∧Af.take j=W0.take j∧Af.drop (j+m)=W0.drop (j+m)
theorem gz.refl (Af:List Nat) (j m:Nat):gz Af Af j m:=⟨rfl,rfl,rfl⟩
theorem gz.set {W0 Af:List Nat} {j m i x:Nat} (h:gz W0 Af j m) (hi:i<m):gz W0 (Af.set (j+i) x) j m :=
 ⟨by rw [List.length_set]; exact h.1,by rw [List.take_set_of_le S]; exact h.2.1,by rw [List.drop_set_of_lt S]; exact h.2.2⟩
theorem xT {q Q:Nat} (h:q=Q+1) (hq:q<4294967296):(q+18446744073709551616 - 1) % 18446744073709551616 % 4294967296=Q:=by omega
structure DgS (W0 v:List Nat) (j k q:Nat) (s:List Nat × Nat × Nat × Nat):Prop where
 out:gz W0 s.1 j (k+3)
 lim:bB s.1
 sub:SubR (win W0 j (k+3)) v q (win s.1 j (k+3)) s.2.1 s.2.2.1 s.2.2.2
structure DgB (W0 W1 v:List Nat) (j k:Nat) (s:List Nat × Nat × Nat):Prop where
 out:gz W0 s.1 j (k+3)
 lim:bB s.1
 back:BackR (win W1 j (k+3)) v (win s.1 j (k+3)) s.2.1 s.2.2
abbrev xu (Af v:List Nat) (j k:Nat):Type := {W':List Nat // gz Af W' j (k+3)∧bB W'∧lv (win W' j (k+3))=lv (win Af j (k+3)) % lv v}
theorem GuessR.aux {top h:Nat} (ht:top<(h+1)*4294967296) (hh:2147483648≤h):top<h*4294967298:=by
 have e1:h*4294967298=h*4294967296+h*2:=by rw [← Nat.mul_add]
 have e2:(h+1)*4294967296=h*4294967296+4294967296:=by rw [Nat.add_mul]
 have e3:4294967296≤h*2:=Nat.mul_le_mul_right 2 hh
 rw [e1]; rw [e2] at ht
 exact Nat.lt_of_lt_of_le ht (Nat.add_le_add_left e3 _)
theorem GuessR.start {U V P h v2 top u2:Nat} (g:Gss U V 4294967296 P h v2 top u2) (hh:2147483648≤h) (hl:h<4294967296):GuessR h top (U / V) (top / h,top % h):=by
 have hm:=Nat.mod_lt top (show 0<h by omega)
 refine ⟨?_,?_,g.start,?_⟩
 ·show top / h*h+top % h=top
  rw [Nat.mul_comm]; exact Nat.div_add_mod top h
 ·show top % h<_;omega
 ·have ht:=g.top
  have h1:top<h*4294967298:=GuessR.aux ht hh
  exact Nat.lt_succ_iff.1 (Nat.div_lt_of_lt_mul h1)
theorem GuessR.next {h top Q q r:Nat} (s:GuessR h top Q (q,r)) (hQ:Q<q) (hr:r+h<4294967296):GuessR h top Q (q - 1,r+h):=by
 obtain ⟨p,rfl⟩ : ∃ p,q=p+1:=⟨q - 1,by omega⟩
 have e:(p+1)*h+r=top:=s.e
 have m:p+1≤4294967297:=s.m
 refine ⟨?_,hr,?_,?_⟩
 ·show (p+1 - 1)*h+(r+h)=top
  rw [Nat.add_mul,Nat.one_mul] at e
  rw [Nat.add_sub_cancel]; omega
 ·show Q≤p+1 - 1;omega
 ·show p+1 - 1≤_;omega
theorem GuessR.last {U V P h v2 top u2 q r:Nat} (g:Gss U V 4294967296 P h v2 top u2) (s:GuessR h top (U / V) (q,r)) (hQ:U / V<q) (hr:4294967296≤r+h):q - 1<4294967296∧U / V≤q - 1∧q - 1≤U / V+1:=by
 obtain ⟨p,rfl⟩ : ∃ p,q=p+1:=⟨q - 1,by have:=Nat.lt_of_le_of_lt (Nat.zero_le _) hQ;omega⟩
 have e:(p+1)*h+r=top:=s.e
 have ht:=g.top
 have e2:p*h+(r+h)=top:=by rw [Nat.add_mul,Nat.one_mul] at e;omega
 have h1:p<4294967296:=by
  rcases Nat.lt_or_ge p 4294967296 with h1 | h1
  ·exact h1
  ·have:=Nat.mul_le_mul_right h h1
   omega
 rw [Nat.add_sub_cancel]
 exact ⟨h1,Nat.lt_succ_iff.1 hQ,g.done e2 h1 (.inr hr)⟩
attribute [local irreducible] J PJ aQ one slT cA bG bZ exT cE eP aX a8 slV VT.le Ret bS
set_option maxRecDepth 20000 in
theorem uQ (b N j cap k:Nat) (Af v:List Nat) (hW:bB Af) (hv:bB v) (hN:Af.length=N) (hj:j+(k+3)≤N) (hk:v.length=k+2) (hb31:v.length≤1099511627776) (hh:2147483648≤v.getD (k+1) 0) (hlt:lv (win Af j (k+3))<lv v*4294967296) :
  OkI Tryz.prog 125 [one (vM b j 1 (k+3) cap),cg v] [a8 (some b) 90 .one N N (fK Af)] (fun _:xu Af v j k=>one (.int .u32 ((lv (win Af j (k+3)) / lv v:Nat):Int))) (fun s => [a8 (some b) 90 .one N N (fK s.1)]):=by
 unfold cg
 rw [hk]
 refine OkI.enter Tryz.func125 Z Tryz.ntmps125 Z (fun w O => ?_)
 have lw:=sg (Af:=Af) (j:=j) (m:=k+3) S
 have g:=xt (hW.win j (k+3)) hv lw hk S hlt
 rw [gl S,gl S,gl S] at g
 have x0:=bk hW (j+k)
 have x1:=bk hW (j+(k+1))
 have x2:=bk hW (j+(k+2))
 have y1:=bk hv (k+1)
 have y0:=bk hv k
 rw [hk] at hb31
 have y1':v.getD (k+2 - 1) 0<4294967296:=y1
 have y0':v.getD (k+2 - 2) 0<4294967296:=y0
 have yh':2147483648≤v.getD (k+2 - 1) 0:=hh
 have x1':Af.getD (j+(k+2 - 1)) 0<4294967296:=x1
 have x0':Af.getD (j+(k+2 - 2)) 0<4294967296:=x0
 refine ah (aj (An Z (Ap (aa (ah (aj (Am Z (Al (be Z) (An Z ?_)))))))))
 refine Ap (aa (ah (aj (Am Z (Am Z (Al (dt _ 1 Z Z S S) (Al (ax Z Z S) (Al (aH Z) (Al (bL Z S) ?_)))))))))
 refine An Z (Ap (aa (ah (aZ 13 aV X Y (Am Z (Am Z (Al (dV Z Z S) (Al (aI 0 Z Z S) (Al (bL Z S) ?_)))))))))
 refine Al (jC (s:=32) Z Z S S) (Am Z (Am Z (Al (dt _ 1 Z Z S S) (Al (dV Z Z S) (Al (aI 0 Z Z S) (Al (bL Z S) (Al (kN Z Z S S) (Ap (An Z ?_)))))))))
 refine Ap (aa (ah (aZ 7 aV X Y (Am Z (Am Z (Al (jz Z Z S S) (Am Z (Am Z (Al (oc _ Z Z Z S) ?_)))))))))
 refine An Z (Ap (An Z (Ap (aa (ah (ar (bV (Γ' := [(0,_),(1,_),(4,_),(5,_),(6,_),(8,_),(9,_)]) Ag (SubM.refl _) ?_)))))))
 refine vN (σ:=Nat) (Γk := [(0,_),(1,_),(4,_),(5,_)]) (eS.cons Z W (eS.cons Z W (eS.cons Z W (eS.cons Z W eS.nil)))) (fun q => [(8,one (.int .u64 (q:Nat)))]) (fun _ M0=>M0) (fun q=>q<4294967296∧lv (win Af j (k+3)) / lv v≤q∧q≤lv (win Af j (k+3)) / lv v+1) ?_ (fun q hq => ?_)
 ·refine bV (Γ' := [(0,_),(1,_),(4,_),(5,_),(6,_),(8,_),(9,_)]) Ag (SubM.refl _) ?_
  refine bv (σ:=Nat × Nat) (Γk := [(0,_),(1,_),(4,_),(5,_),(6,_)]) Ag (fun p => [(8,one (.int .u64 (p.1:Nat))),(9,one (.int .u64 (p.2:Nat)))]) (fun p M0=>M0) (fun p=>GuessR (v.getD (k+1) 0) (Af.getD (j+(k+2)) 0*4294967296+Af.getD (j+(k+1)) 0) (lv (win Af j (k+3)) / lv v) p) (fun p=>p.1) (((Af.getD (j+(k+2)) 0*4294967296+Af.getD (j+(k+1)) 0) / v.getD (k+1) 0,(Af.getD (j+(k+2)) 0*4294967296+Af.getD (j+(k+1)) 0) % v.getD (k+1) 0)) (GuessR.start g hh y1) Ah (.keep Ak (.nil)) (fun p hp => ?_)
  refine bK (Γ' := [(8,_),(9,_),(0,_),(1,_),(4,_),(5,_),(6,_)]) (M' := [_]) Z Z ?_
  obtain ⟨q,r⟩:=p
  dsimp only at hp ⊢
  have hr:r<4294967296:=hp.r
  have hqm:q≤4294967297:=hp.m
  by_cases hA:4294967295<q
  ·have hQ:lv (win Af j (k+3)) / lv v<q:=Nat.lt_of_lt_of_le g.q_lt hA
   have hq1:1≤q:=Nat.lt_of_le_of_lt (Nat.zero_le _) hQ
   have hq2:(q+18446744073709551616 - 1) % 18446744073709551616=q - 1:=by omega
   by_cases hC:4294967296≤r+v.getD (k+2 - 1) 0
   ·refine ah (ah (aZ 22 aV X Y (Am Z (Al (sT S (dS Z Z)) (Am Z (sg0 Z Z Z Z (sg0 Z Z Z Z (sg0 Z Z Z Z (sg0 Z Z Z Z ?_)))))))))
    refine sg0 Z Z Z Z (sg0 Z Z Z Z (sg0 Z Z Z Z (sg0 Z Z Z Z (sg0 Z Z Z Z (sg0 Z Z Z Z (sg0 Z Z Z Z (sg0 Z Z Z Z (sg0 Z Z Z Z (sg0 Z Z Z Z ?_)))))))))
    refine sg0 Z Z Z Z (sg0 Z Z Z Z (sg0 Z Z Z Z (sg0 Z Z Z Z (Al (aE Z Z) (Ap (Ap (aa (az Z (au ?_)))))))))
    refine aa (ar (ah (aj (Am Z (Al (f9 Z Z S Y) (An Z (Ap (aa (ah ?_)))))))))
    refine aj (Am Z (Am Z (Al (d5 Z Z S) (An Z (Ap (aa (ah (aj (Am Z ?_)))))))))
    refine Al (sT S (dS Z Z)) (Ap (aa (az Z (aU (dg Z (av (aC ?_)))))))
    rw [hq2]
    refine cZ (q - 1) (hp.last g hQ hC) Ah (.keep Ak (.nil))
   ·refine ah (ah (aZ 22 aV X Y (Am Z (Al (sT S (dS Z Z)) (Am Z (sg0 Z Z Z Z (sg0 Z Z Z Z (sg0 Z Z Z Z (sg0 Z Z Z Z ?_)))))))))
    refine sg0 Z Z Z Z (sg0 Z Z Z Z (sg0 Z Z Z Z (sg0 Z Z Z Z (sg0 Z Z Z Z (sg0 Z Z Z Z (sg0 Z Z Z Z (sg0 Z Z Z Z (sg0 Z Z Z Z (sg0 Z Z Z Z ?_)))))))))
    refine sg0 Z Z Z Z (sg0 Z Z Z Z (sg0 Z Z Z Z (sg0 Z Z Z Z (Al (aE Z Z) (Ap (Ap (aa (az Z (au ?_)))))))))
    refine aa (ar (ah (aj (Am Z (Al (f9 Z Z S Y) (An Z (Ap (aa (ah ?_)))))))))
    refine aj (Am Z (Am Z (Al (d5 Z Z S) (An Z (Ap (aa (ah (aj (Am Z ?_)))))))))
    refine Al (sF S (dS Z Z)) (Ap (aa (aA Z (au (aD ?_)))))
    rw [hq2]
    refine aJ ((q - 1,r+v.getD (k+1) 0)) (hp.next hQ (Nat.lt_of_not_le hC)) S Ah (.keep Ak (.nil))
  ·have hqv:=oQ (q:=q) (c:=0) S y0 Y
   have hqv1:q*v.getD (k+2 - 2) 0<18446744073709551616:=hqv.1
   by_cases hB:r*4294967296+Af.getD (j+(k+2 - 2)) 0<q*v.getD (k+2 - 2) 0
   ·have hQ:lv (win Af j (k+3)) / lv v<q:=g.low hp.e hB
    have hq1:1≤q:=Nat.lt_of_le_of_lt (Nat.zero_le _) hQ
    have hq2:(q+18446744073709551616 - 1) % 18446744073709551616=q - 1:=by omega
    by_cases hC:4294967296≤r+v.getD (k+2 - 1) 0
    ·refine ah (ah (aZ 22 aV X Y (Am Z (Al (sF S (dS Z Z)) (Am Z (Ao (ae Z) (Ao (ae Z) (Ao (ae Z) (Ao (dt _ 2 Z Z S S) ?_)))))))))
     refine Ao (ax Z Z S) (Ao (aH Z) (Ao (bL Z S) (Ao (gF Z Z S) (Ao (ae Z) (Ao (rR Z S) (Ao (ae Z) (Ao (ae Z) (Ao (dt _ 2 Z Z S S) (Ao (dV Z Z S) ?_)))))))))
     refine Ao (aI 0 Z Z S) (Ao (bL Z S) (Ao (kN Z Z S S) (Ao (sT S (dS Z Z)) (Al (ay Z Z) (Ap (Ap (aa (az Z (au ?_)))))))))
     refine aa (ar (ah (aj (Am Z (Al (f9 Z Z S Y) (An Z (Ap (aa (ah ?_)))))))))
     refine aj (Am Z (Am Z (Al (d5 Z Z S) (An Z (Ap (aa (ah (aj (Am Z ?_)))))))))
     refine Al (sT S (dS Z Z)) (Ap (aa (az Z (aU (dg Z (av (aC ?_)))))))
     rw [hq2]
     refine cZ (q - 1) (hp.last g hQ hC) Ah (.keep Ak (.nil))
    ·refine ah (ah (aZ 22 aV X Y (Am Z (Al (sF S (dS Z Z)) (Am Z (Ao (ae Z) (Ao (ae Z) (Ao (ae Z) (Ao (dt _ 2 Z Z S S) ?_)))))))))
     refine Ao (ax Z Z S) (Ao (aH Z) (Ao (bL Z S) (Ao (gF Z Z S) (Ao (ae Z) (Ao (rR Z S) (Ao (ae Z) (Ao (ae Z) (Ao (dt _ 2 Z Z S S) (Ao (dV Z Z S) ?_)))))))))
     refine Ao (aI 0 Z Z S) (Ao (bL Z S) (Ao (kN Z Z S S) (Ao (sT S (dS Z Z)) (Al (ay Z Z) (Ap (Ap (aa (az Z (au ?_)))))))))
     refine aa (ar (ah (aj (Am Z (Al (f9 Z Z S Y) (An Z (Ap (aa (ah ?_)))))))))
     refine aj (Am Z (Am Z (Al (d5 Z Z S) (An Z (Ap (aa (ah (aj (Am Z ?_)))))))))
     refine Al (sF S (dS Z Z)) (Ap (aa (aA Z (au (aD ?_)))))
     rw [hq2]
     refine aJ ((q - 1,r+v.getD (k+1) 0)) (hp.next hQ (Nat.lt_of_not_le hC)) S Ah (.keep Ak (.nil))
   ·refine ah (ah (aZ 22 aV X Y (Am Z (Al (sF S (dS Z Z)) (Am Z (Ao (ae Z) (Ao (ae Z) (Ao (ae Z) (Ao (dt _ 2 Z Z S S) ?_)))))))))
    refine Ao (ax Z Z S) (Ao (aH Z) (Ao (bL Z S) (Ao (gF Z Z S) (Ao (ae Z) (Ao (jC (s:=32) Z Z S S) (Ao (ae Z) (Ao (ae Z) (Ao (dt _ 2 Z Z S S) (Ao (dV Z Z S) ?_)))))))))
    refine Ao (aI 0 Z Z S) (Ao (bL Z S) (Ao (kN Z Z S S) (Ao (sF S (dS Z Z)) (Al (ay Z Z) (Ap (Ap (aa (aA Z (aU ?_)))))))))
    refine av (av (aC ?_))
    have hqB:q<4294967296:=by omega
    refine cZ (q) (⟨hqB,hp.q,g.done hp.e hqB (.inl (Nat.le_of_not_lt hB))⟩) Ah (.keep Ak (.nil))
 ·obtain ⟨hq1,hq2,hq3⟩:=hq
  have lu:=lw
  refine aa (ah (aj (An Z (An Z (Ap (aa (ah (ah (aj ?_)))))))))
  refine Am Z (Al (be Z) (Am Z (Ap (aa (ar (bV (Γ' := [(0,_),(1,_),(4,_),(5,_),(8,_),(10,_),(11,_),(74,_),(75,_),(76,_)]) Ag (SubM.refl _) ?_))))))
  refine bv (σ:=List Nat × Nat × Nat × Nat) (Γk := [(0,_),(1,_),(4,_),(5,_),(8,_),(74,_),(75,_)]) Ag (fun s => [(76,one (.int .i64 (s.2.1:Nat))),(10,one (.int .u64 (s.2.2.1:Nat))),(11,one (.int .u64 (s.2.2.2:Nat)))]) (fun s M0=>(M0.set 0 (a8 (some b) 90 .one N N (fK s.1)))) (fun s=>DgS Af v j k q s) (fun s=>k+2 - s.2.1) ((Af,0,0,0)) (⟨gz.refl _ _ _,hW,SubR.start (hW.win _ _)⟩) Ah (.keep Ak (.nil)) (fun s hs => ?_)
  refine bK (Γ' := [(76,_),(10,_),(11,_),(0,_),(1,_),(4,_),(5,_),(8,_),(74,_),(75,_)]) (M' := [_]) Z Z ?_
  obtain ⟨W1,i,br,c⟩:=s
  dsimp only at hs ⊢
  have h1o:=hs.out
  have h1l:=hs.lim
  have h1s:=hs.sub
  dsimp only at h1o h1l h1s
  have hbr:=h1s.hb
  have hcr:=h1s.hc
  have hN1:W1.length=N:=h1o.1.trans hN
  refine ah (aj (Al (aS Z Z) (Ap (aa (ah ?_)))))
  refine mY Z (fun hc => ?_) (fun hc => ?_)
  ·have hi:i<k+2:=by omega
   have z1:=bk h1l (j+i)
   have v1:=bk hv i
   have sl:=oQ hq1 v1 hcr
   have sl1:=sl.1
   have sl2:=sl.2.1
   have sl3:=sl.2.2
   obtain ⟨d,hd⟩ : ∃ d,d=((W1.getD (j+i) 0+18446744073709551616 - (c+q*v.getD i 0) % 4294967296) % 18446744073709551616+18446744073709551616 - br) % 18446744073709551616:=⟨_,rfl⟩
   have hst:=h1s.step hv hq1 S (by rw [lu,hk]; omega) (d:=d) (by rw [gl S]; exact hd)
   rw [← kq S] at hst
   refine au (aa (ah (ar (ah (aj (Am Z (Al (ax Z Z S) (Al (aH Z) (An Z ?_)))))))))
   refine An Z (Ap (aa (ah (aj (Am Z (Am Z (Am Z (Al (bL Z S) (Al (gF Z Z S) ?_)))))))))
   refine Al (d5 Z Z S) (An Z (Ap (aa (ah (aj (Am Z (Am Z (Al (dV Z Z S) (Al (aI 0 Z Z S) ?_)))))))))
   refine Al (bL Z S) (Am Z (Al (xf Z S) (Al (f9 Z Z S S) (Am Z (Al (f9 Z Z S S) (An Z (Ap (aa (ah ?_)))))))))
   refine aj (Am Z (Am Z (Am Z (Al (cM Z) (Al (dV Z Z S) ?_)))))
   (refine bD 0 Z Z Z ?_ Z ?_;omega)
   refine Ap (aa (ah (aj (Am Z (Al (nZ Z) (An Z (Ap (aa (aj ?_)))))))))
   refine Am Z (Al (fP Z) (An Z (Ap (aD (aa (aj (Al (bn _ 1 Z Z S) (Am Z (Ap ?_)))))))))
   rw [← hd]
   refine aJ ((W1.set (j+i) (d % 4294967296),i+1,d / 9223372036854775808,(c+q*v.getD i 0) / 4294967296)) (⟨h1o.set S,h1l.set (Nat.mod_lt _ Y),hst⟩) (by (simp only []; omega)) Ah (.keep (fH S Z) (.nil))
  ·have hi:i=k+2:=by have:=h1s.le;omega
   subst hi
   have z1:=bk h1l (j+(k+2))
   obtain ⟨d,hd⟩ : ∃ d,d=((W1.getD (j+(k+2)) 0+18446744073709551616 - c) % 18446744073709551616+18446744073709551616 - br) % 18446744073709551616:=⟨_,rfl⟩
   have h1v:SubR (win Af j (k+3)) v q (win W1 j (k+3)) v.length br c:=by rw [hk]; exact h1s
   have hdw:d=(((win W1 j (k+3)).getD v.length 0+18446744073709551616 - c) % 18446744073709551616+18446744073709551616 - br) % 18446744073709551616:=by rw [hk,gl S]; exact hd
   refine aU (av (av (aC (aa (ah (aj (Am Z (Am Z (Al (dV Z Z S) ?_)))))))))
   refine Al (aI 0 Z Z S) (Al (bL Z S) (Am Z (Al (f9 Z Z S S) (Am Z (Al (f9 Z Z S S) (An Z (Ap (aa (ah ?_)))))))))
   refine aj (Am Z (Am Z (Am Z (Al (cM Z) (Al (dV Z Z S) ?_)))))
   (refine bD 0 Z Z Z ?_ Z ?_;omega)
   refine Ap (aa (ah (ah (aj (Am Z (Al (nZ Z) (Al (cj Z Z) (Ap (aa ?_)))))))))
   rw [← hd]
   refine mY Z (fun h0 => ?_) (fun h0 => ?_)
   ·obtain ⟨f1,f2,f3⟩:=h1v.good (by rw [lu,hk]) g.V0 hq2 hdw S
    rw [hk, ← kq S] at f3
    refine ah (aj (Am Z (Al (cM Z) (An Z (Ap (aa (aG (aB ?_))))))))
    refine iC (⟨W1.set (j+(k+2)) (d % 4294967296),h1o.set S,h1l.set (Nat.mod_lt _ Y),f3⟩:xu Af v j k) Tryz.results125 (.tmp Z (aq (by rw [← f1,Nat.mod_eq_of_lt hq1]))) (.keep (fH S Z) .nil)
   ·obtain ⟨f1,f2,f3⟩:=h1v.bad (by rw [lu,hk]) g.V0 hq2 hq3 hdw S
    rw [hk, ← kq S] at f3
    obtain ⟨W2,hW2⟩ : ∃ W2,W2=W1.set (j+(k+2)) (d % 4294967296):=⟨_,rfl⟩
    have h2o:gz Af W2 j (k+3):=hW2▸h1o.set S
    have h2l:bB W2:=hW2▸h1l.set (Nat.mod_lt _ Y)
    have hN2:W2.length=N:=h2o.1.trans hN
    rw [← hW2] at f3
    refine au (aa (ah (aj (An Z (Ap (aa (ah (ah (aj ?_)))))))))
    refine Am Z (Al (be Z) (Am Z (Ap (aa (ar (bV (Γ' := [(0,_),(4,_),(5,_),(8,_),(11,_),(126,_),(127,_),(128,_)]) Ag (SubM.refl _) ?_))))))
    refine bv (σ:=List Nat × Nat × Nat) (Γk := [(0,_),(4,_),(5,_),(8,_),(126,_),(127,_)]) Ag (fun s => [(128,one (.int .i64 (s.2.1:Nat))),(11,one (.int .u64 (s.2.2:Nat)))]) (fun s M0=>(M0.set 0 (a8 (some b) 90 .one N N (fK s.1)))) (fun s=>DgB Af W2 v j k s) (fun s=>k+2 - s.2.1) ((W2,0,0)) (⟨h2o,h2l,BackR.start (h2l.win _ _)⟩) Ah (.keep (by (subst hW2;exact fH S Z)) (.nil)) (fun s hs => ?_)
    refine bK (Γ' := [(128,_),(11,_),(0,_),(4,_),(5,_),(8,_),(126,_),(127,_)]) (M' := [_]) Z Z ?_
    obtain ⟨W3,i,c3⟩:=s
    dsimp only at hs ⊢
    have h3o:=hs.out
    have h3l:=hs.lim
    have h3s:=hs.back
    dsimp only at h3o h3l h3s
    have hcr:=h3s.hc
    have hN3:W3.length=N:=h3o.1.trans hN
    have lu2:(win W2 j (k+3)).length=k+3:=sg S
    refine ah (aj (Al (aS Z Z) (Ap (aa (ah ?_)))))
    refine mY Z (fun hc => ?_) (fun hc => ?_)
    ·have hi:i<k+2:=by omega
     have z1:=bk h3l (j+i)
     have v1:=bk hv i
     have hst:=h3s.step hv S (by rw [lu2,hk]; omega)
     rw [gl S, ← kq S] at hst
     refine au (aa (ah (ar (ah (aj (Am Z (Al (ax Z Z S) (Al (aH Z) (An Z ?_)))))))))
     refine An Z (Ap (aa (ah (aj (Am Z (Am Z (Am Z (Al (dV Z Z S) (Al (aI 0 Z Z S) ?_)))))))))
     refine Al (bL Z S) (Am Z (Al (bL Z S) (Al (d5 Z Z S) (Al (d5 Z Z S) (An Z (Ap (aa (ah (aj ?_)))))))))
     refine Am Z (Am Z (Am Z (Al (cM Z) (Al (dV Z Z S) ?_))))
     (refine bD 0 Z Z Z ?_ Z ?_;omega)
     refine Ap (aa (aj (Am Z (Al (fP Z) (An Z (Ap (aD (aa (aj ?_)))))))))
     refine Al (bn _ 1 Z Z S) (Am Z (Ap ?_))
     refine aJ ((W3.set (j+i) ((c3+(W3.getD (j+i) 0+v.getD i 0)) % 4294967296),i+1,(c3+(W3.getD (j+i) 0+v.getD i 0)) / 4294967296)) (⟨h3o.set S,h3l.set (Nat.mod_lt _ Y),hst⟩) (by (simp only []; omega)) Ah (.keep (fH S Z) (.nil))
    ·have hi:i=k+2:=by have:=h3s.le;omega
     subst hi
     have z1:=bk h3l (j+(k+2))
     have h3v:BackR (win W2 j (k+3)) v (win W3 j (k+3)) v.length c3:=by rw [hk]; exact h3s
     obtain ⟨f4,f5⟩:=h3v.good (R:=lv (win Af j (k+3)) % lv v) (x:=(W3.getD (j+(k+2)) 0+c3) % 4294967296) (by rw [lu2,hk]) (Nat.mod_lt _ g.V0) hv (by rw [hk]; exact f3) (by rw [hk,gl S])
     rw [hk, ← kq S] at f5
     refine aU (av (av (aC (aa (ah (aj (Am Z (Am Z (Al (dV Z Z S) ?_)))))))))
     refine Al (aI 0 Z Z S) (Am Z (Al (cM Z) (Al (xg Z Z) (Al (dV Z Z S) ?_))))
     (refine bD 0 Z Z Z ?_ Z ?_;omega)
     refine Ap (aa (ah (aj (Am Z (Al (f9 Z Z S Y) (Al (cM Z) (An Z (Ap (aa ?_)))))))))
     refine aG ?_
     have e1:(q+18446744073709551616 - 1) % 18446744073709551616 % 4294967296=lv (win Af j (k+3)) / lv v:=xT f1 hq1
     refine iC (⟨W3.set (j+(k+2)) ((W3.getD (j+(k+2)) 0+c3) % 4294967296),h3o.set S,h3l.set (Nat.mod_lt _ Y),f5⟩:xu Af v j k) Tryz.results125 (.tmp Z (aq (by rw [e1]))) (.keep (fH S (by rw [Nat.mod_eq_of_lt (show c3<4294967296 by omega)])) .nil)
end Tor
end
section
namespace Tor
open Go Go.RowKit Go.Proofs
theorem qb (U:List Nat) {j m:Nat} (h:j+m≤U.length):lv (U.drop j)=lv (win U j m)+4294967296^m*lv (U.drop (j+m)):=by
 have h1:=fE (U.drop j) m (by simp;omega)
 rw [List.drop_drop] at h1
 exact h1
theorem it {U:List Nat} {j:Nat} (h:j<U.length):lv (U.drop j)=U.getD j 0+4294967296*lv (U.drop (j+1)):=by
 rw [fl h]; rfl
structure DivR (V A n e:Nat) (p:List Nat × List Nat × Nat):Prop where
 le:p.2.2≤e+1
 lu:p.1.length=n+e+1
 lq:p.2.1.length=e+1
 limU:bB p.1
 limQ:bB p.2.1
 zero : ∀ k,k<p.2.2→p.2.1.getD k 0=0
 lt:lv (p.1.drop p.2.2)<V
 val:lv p.1+lv p.2.1*V=A
theorem DivR.pre {V A n e j:Nat} {U Q:List Nat} (h:DivR V A n e (U,Q,j+1)) (hV:V<4294967296^n):j+(n+1)≤U.length∧lv (U.drop (j+(n+1)))=0∧lv (U.drop j)=lv (win U j (n+1))∧lv (win U j (n+1))<V*4294967296:=by
 have hle:j+1≤e+1:=h.le
 have hlu:U.length=n+e+1:=h.lu
 have hlt:lv (U.drop (j+1))<V:=h.lt
 have h1:j+(n+1)≤U.length:=by omega
 have h2:=it (U:=U) (j:=j) S
 have h3:=qb U h1
 have hd:=bk (show bB U from h.limU) j
 have h4:lv (U.drop j)<V*4294967296:=by
  rw [h2]
  generalize lv (U.drop (j+1))=x at *
  generalize U.getD j 0=y at *
  omega
 have h5:lv (U.drop (j+(n+1)))=0:=by
  rcases Nat.eq_zero_or_pos (lv (U.drop (j+(n+1)))) with h | h
  ·exact h
  ·exfalso
   have h6:4294967296^(n+1)≤4294967296^(n+1)*lv (U.drop (j+(n+1))):=Nat.le_mul_of_pos_right _ h
   have h7:V*4294967296<4294967296^(n+1):=by rw [Nat.pow_succ]; exact Nat.mul_lt_mul_of_pos_right hV Y
   omega
 rw [h5,Nat.mul_zero,Nat.add_zero] at h3
 exact ⟨h1,h5,h3,h3▸h4⟩
theorem DivR.step {V A n e j q:Nat} {U Q U':List Nat} (h:DivR V A n e (U,Q,j+1)) (hV0:0<V) (hV:V<4294967296^n) (ho:gz U U' j (n+1)) (hl:bB U') (hr:lv (win U' j (n+1))=lv (win U j (n+1)) % V) (hq:q=lv (win U j (n+1)) / V) :
  DivR V A n e (U',Q.set j q,j):=by
 obtain ⟨p1,p2,p3,p4⟩:=h.pre hV
 obtain ⟨o1,o2,o3⟩:=ho
 have hle:j+1≤e+1:=h.le
 have hlq:Q.length=e+1:=h.lq
 have hqB:q<4294967296:=by rw [hq]; exact Nat.div_lt_of_lt_mul p4
 have h0:Q.getD j 0=0:=h.zero j (Nat.lt_succ_self j)
 have hs:=fJ (l:=Q) (k:=j) (v:=q) S
 rw [h0,Nat.mul_zero,Nat.add_zero] at hs
 have d1:=fE U j S
 have d2:=fE U' j S
 have e1:=qb U' (j:=j) (m:=n+1) S
 rw [o3,p2,Nat.mul_zero,Nat.add_zero] at e1
 have hm:=Nat.div_add_mod (lv (win U j (n+1))) V
 have hv:lv U+lv Q*V=A:=h.val
 refine ⟨Nat.le_of_succ_le hle,o1.trans h.lu,by rw [List.length_set]; exact h.lq,hl,bB.set h.limQ hqB,fun k hk => ?_,?_,?_⟩
 ·simp only at hk ⊢
  rw [dA S,if_neg S]; exact h.zero k (Nat.lt_succ_of_lt hk)
 ·show lv (U'.drop j)<V
  rw [e1,hr]; exact Nat.mod_lt _ hV0
 ·show lv U'+lv (Q.set j q)*V=A
  rw [hs, ← hv,d1,d2,o2,e1,p3,hr,hq]
  generalize lv (win U j (n+1))=w at *
  have e2:(lv Q+4294967296^j*(w / V))*V=lv Q*V+4294967296^j*(V*(w / V)):=by rw [Nat.add_mul,Nat.mul_assoc,Nat.mul_comm (w / V)]
  have e3:4294967296^j*w=4294967296^j*(V*(w / V))+4294967296^j*(w % V):=by rw [← Nat.mul_add,hm]
  rw [e2,e3]; omega
theorem DivR.start {V A n e:Nat} {U:List Nat} (hU:bB U) (hlu:U.length=n+e+1) (hA:lv U=A) (hlt:A<V*4294967296^(e+1)):DivR V A n e (U,List.replicate (e+1) 0,e+1):=by
 refine ⟨Nat.le_refl _,hlu,by simp,hU,bB.replicate _,fun k _=>cH _ _,?_,by simp [d7,hA]⟩
 show lv (U.drop (e+1))<V
 have h1:=fE U (e+1) S
 have h2:lv (U.drop (e+1))*4294967296^(e+1)<V*4294967296^(e+1):=by
  rw [Nat.mul_comm]; omega
 exact Nat.lt_of_mul_lt_mul_right h2
theorem DivR.finish {a b s n e:Nat} {U Q:List Nat} (h:DivR (b*2^s) (a*2^s) n e (U,Q,0)) (hb:0<b):lv Q=a / b∧lv U=(a % b)*2^s:=by
 have hp:=Nat.two_pow_pos s
 have hlt:lv U<b*2^s:=h.lt
 have hv:lv U+lv Q*(b*2^s)=a*2^s:=h.val
 have hq:lv Q=a / b:=by
  have h1:lv Q*b≤a:=by
   refine Nat.le_of_mul_le_mul_right (c:=2^s) ?_ hp
   rw [Nat.mul_assoc]; omega
  have h2:a<(lv Q+1)*b:=by
   refine Nat.lt_of_mul_lt_mul_right (a:=2^s) ?_
   rw [Nat.mul_assoc,Nat.add_mul]; omega
  have h3:lv Q≤a / b:=(Nat.le_div_iff_mul_le hb).2 h1
  have h4:a / b<lv Q+1:=Nat.div_lt_of_lt_mul (by rw [Nat.mul_comm]; exact h2)
  omega
 refine ⟨hq,?_⟩
 have hm:=Nat.div_add_mod a b
 rw [hq] at hv
 have e1:a*2^s=(b*(a / b))*2^s+(a % b)*2^s:=by rw [← Nat.add_mul,hm]
 have e2:a / b*(b*2^s)=(b*(a / b))*2^s:=by rw [← Nat.mul_assoc,Nat.mul_comm (a / b)]
 omega
def tp (U:List Nat) (s i:Nat):Nat:=(U.getD (i+1) 0*4294967296+U.getD i 0) / 2^s % 4294967296
theorem kr (F:Nat→Nat) : ∀ (n i:Nat) (Ab:Nat→Nat),(∀ k,i≤k→k<i+n→Ab k=F k+4294967296*Ab (k+1))→Ab (i+n)=0→lv ((List.range' i n).map F)=Ab i
 | 0, i, Ab, _, h0 => by simpa [lv] using h0.symm
 | n + 1, i, Ab, h, h0 => by
  rw [List.range'_succ,List.map_cons,lv,kr F n (i+1) Ab (fun k h1 h2=>h k S S) (by rw [← h0]; congr 1;omega),h i (Nat.le_refl _) S]
theorem uR {U:List Nat} (hU:bB U) {s i:Nat} (hs:s<32) (hi:i+1<U.length):lv (U.drop i) / 2^s=tp U s i+4294967296*(lv (U.drop (i+1)) / 2^s):=by
 have h1:=it (U:=U) (j:=i) S
 have h2:=it (U:=U) (j:=i+1) hi
 have hp:=Nat.two_pow_pos s
 obtain ⟨t,ht⟩ : ∃ t,4294967296=2^s*t:=⟨2^(32 - s),by rw [← Nat.pow_add,show s+(32 - s)=32 by omega]⟩
 have hd:=bk hU i
 have e1:lv (U.drop i) / 2^s % 4294967296=tp U s i:=by
  unfold tp
  rw [h1,h2]
  generalize lv (U.drop (i+1+1))=Af
  generalize U.getD (i+1) 0=x
  generalize U.getD i 0=y
  have:y+4294967296*(x+4294967296*Af)=(x*4294967296+y)+2^s*(t*(4294967296*Af)):=by
   rw [← Nat.mul_assoc (2^s), ← ht]; omega
  rw [this,Nat.add_mul_div_left _ _ hp]
  rw [show t*(4294967296*Af)=4294967296*(t*Af) by rw [Nat.mul_left_comm],Nat.add_mul_mod_self_left]
 have e2:lv (U.drop i) / 2^s / 4294967296=lv (U.drop (i+1)) / 2^s:=by
  rw [Nat.div_div_eq_div_mul,Nat.mul_comm, ← Nat.div_div_eq_div_mul]
  congr 1
  rw [h1]; omega
 have:=Nat.div_add_mod (lv (U.drop i) / 2^s) 4294967296
 rw [e1,e2] at this
 omega
def eC (U:List Nat) (s n:Nat):List Nat:=(List.range' 0 n).map (tp U s)
theorem v7 {U:List Nat} (hU:bB U) {s n:Nat} (hs:s<32) (hn:n<U.length) (h0:lv U<4294967296^n):lv (eC U s n)=lv U / 2^s:=by
 have h1:lv (U.drop n)=0:=by
  have h2:=fE U n S
  rcases Nat.eq_zero_or_pos (lv (U.drop n)) with h | h
  ·exact h
  ·have:=Nat.le_mul_of_pos_right (4294967296^n) h;omega
 have:=kr (tp U s) n 0 (fun k=>lv (U.drop k) / 2^s) (fun k _ hk=>uR hU hs S) (by rw [Nat.zero_add,h1]; exact Nat.zero_div _)
 unfold eC
 rw [this]; rfl
theorem v8 (U:List Nat) (s n:Nat):bB (eC U s n):=fun d hd=>by
 obtain ⟨i,_,rfl⟩:=List.mem_map.1 hd
 exact Nat.mod_lt _ Y
theorem m7 (F:Nat→Nat) {n i:Nat} (h:i<n):((List.range' 0 n).map F).getD i 0=F i:=by
 simp [List.getD,h]
theorem v9 (U:List Nat) (s:Nat) {n i:Nat} (h:i<n):(eC U s n).getD i 0=tp U s i:=m7 _ h
theorem wa (U:List Nat) (s n:Nat):(eC U s n).length=n:=by unfold eC;simp
theorem wb {l:List Nat} (h:fS l) : ∀ {k:Nat},l.length=k+1→l.getD k 0≠0:=by
 induction l with
 | nil => intro k h; simp at h
 | cons d l ih =>
  intro k hk
  cases l with
  | nil => simp at hk; subst hk; simpa using (show d ≠ 0 from h)
  | cons e l =>
   obtain ⟨j,rfl⟩ : ∃ j,k=j+1:=⟨k - 1,by simp at hk;omega⟩
   have:=ih h.tail (k:=j) (by simpa using hk)
   simpa using this
structure Shf (b:Nat) (l:List Nat) (s k:Nat):Prop where
 s32:s<32
 lim:bB l
 lo:2147483648*4294967296^(k+1)≤b*2^s
 hi:b*2^s<4294967296^(k+2)
theorem xv {b k:Nat} (hk:(aK b).length=k+2):Shf b (aK b) (32 - gI ((aK b).getD (k+1) 0)) k:=by
 have hl:=bh b
 have ht:=wb (j8 b) (k:=k+1) hk
 have hd:=bk hl (k+1)
 generalize hx:(aK b).getD (k+1) 0=x at *
 obtain ⟨j1,j2⟩:=oK (x:=x) S ht
 have j3:=se (x:=x) S
 have j4:=oL (x:=x) (n:=32) S Y
 have hb:b=lv ((aK b).take (k+1))+4294967296^(k+1)*x:=by
  have e:aK b=(aK b).take (k+2):=by rw [List.take_of_length_le S]
  have h1:=bI (l:=aK b) (k:=k+1) S
  rw [← e,bU,hx] at h1;exact h1
 have hlo:=gf (hl.take (k+1))
 rw [List.length_take_of_le S] at hlo
 generalize lv ((aK b).take (k+1))=y at *
 obtain ⟨t,ht2⟩ : ∃ t,gI x=t+1:=⟨gI x - 1,by omega⟩
 rw [ht2] at j2 j3 j4 ⊢
 rw [Nat.add_sub_cancel] at j2
 have p1:2^t*2^(32 - (t+1))=2147483648:=by rw [← Nat.pow_add,show t+(32 - (t+1))=31 by omega]
 have p2:2^(t+1)*2^(32 - (t+1))=4294967296:=by rw [← Nat.pow_add,show t+1+(32 - (t+1))=32 by omega]
 have hp:=Nat.two_pow_pos (32 - (t+1))
 refine ⟨by omega,hl,?_,?_⟩
 ·rw [← p1,hb]
  calc 2^t*2^(32 - (t+1))*4294967296^(k+1)≤x*2^(32 - (t+1))*4294967296^(k+1):=Nat.mul_le_mul_right _ (Nat.mul_le_mul_right _ j2)
   _=4294967296^(k+1)*x*2^(32 - (t+1)):=by rw [Nat.mul_comm,Nat.mul_assoc]
   _≤_:=Nat.mul_le_mul_right _ (Nat.le_add_left _ _)
 ·have h1:b<4294967296^(k+1)*(x+1):=by rw [Nat.mul_add,Nat.mul_one]; omega
  calc b*2^(32 - (t+1))<4294967296^(k+1)*(x+1)*2^(32 - (t+1)):=Nat.mul_lt_mul_of_pos_right h1 hp
   _≤4294967296^(k+1)*2^(t+1)*2^(32 - (t+1)):=Nat.mul_le_mul_right _ (Nat.mul_le_mul_left _ j3)
   _=4294967296^(k+2):=by rw [Nat.mul_assoc,p2, ← Nat.pow_succ]
theorem Shf.v {b s k:Nat} {l z:List Nat} (h:Shf b l s k) (hz:bB z) (hl:z.length=k+3) (hv:lv z=b*2^s) :
  bB (z.take (k+2))∧(z.take (k+2)).length=k+2∧lv (z.take (k+2))=b*2^s∧2147483648≤(z.take (k+2)).getD (k+1) 0:=by
 have h1:=fE z (k+2) S
 have h0:lv (z.drop (k+2))=0:=by
  rcases Nat.eq_zero_or_pos (lv (z.drop (k+2))) with h' | h'
  ·exact h'
  ·have:=Nat.le_mul_of_pos_right (4294967296^(k+2)) h';have:=h.hi;omega
 rw [h0,Nat.mul_zero,Nat.add_zero,hv] at h1
 have hlen:(z.take (k+2)).length=k+2:=by rw [List.length_take_of_le S]
 have hL:=hz.take (k+2)
 refine ⟨hL,hlen,h1.symm,?_⟩
 generalize z.take (k+2)=v at *
 have h2:=bI (l:=v) (k:=k+1) S
 rw [List.take_of_length_le S] at h2
 have h3:=gf (hL.take (k+1))
 rw [List.length_take_of_le S] at h3
 have h4:=h.lo
 rw [h1,h2] at h4
 generalize lv (v.take (k+1))=y at *
 generalize v.getD (k+1) 0=x at *
 generalize 4294967296^(k+1)=B at *
 rcases Nat.lt_or_ge x 2147483648 with h5 | h5
 ·have h6:B*x+B≤B*2147483648:=by rw [← Nat.mul_succ]; exact Nat.mul_le_mul_left _ h5
  rw [Nat.mul_comm 2147483648] at h4;omega
 ·exact h5
theorem Shf.u {a b s k e:Nat} {l:List Nat} (h:Shf b l s k) (ha:(aK a).length=k+2+e):a*2^s<b*2^s*4294967296^(e+1):=by
 have h1:=dC a
 rw [ha] at h1
 have h2:2^s≤2147483648:=Nat.pow_le_pow_right (n:=2) Y (show s≤31 by have:=h.s32;omega)
 calc a*2^s<4294967296^(k+2+e)*2^s:=Nat.mul_lt_mul_of_pos_right h1 (Nat.two_pow_pos s)
  _≤4294967296^(k+2+e)*2147483648:=Nat.mul_le_mul_left _ h2
  _=2147483648*4294967296^(k+1)*4294967296^(e+1):=by rw [Nat.mul_assoc, ← Nat.pow_add,Nat.mul_comm,show k+1+(e+1)=k+2+e by omega]
  _≤b*2^s*4294967296^(e+1):=Nat.mul_le_mul_right _ h.lo
end Tor
end
