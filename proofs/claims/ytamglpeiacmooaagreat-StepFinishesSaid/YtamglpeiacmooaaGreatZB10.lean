/-
  Theorems that the proofs of laws of this seat rest on.
  No condition.
-/
import Derived.Test.YtamglpeiacmooaaGreatZB9
set_option maxHeartbeats 20000000
set_option linter.unusedVariables false
set_option linter.unusedSimpArgs false
section
namespace Tor
open Go Go.RowKit Go.Proofs
attribute [local irreducible] J PJ aQ one slT cA bG bZ exT cE eP aX a8 slV VT.le Ret bS
attribute [local irreducible] bX bm
theorem qC (b r c:Nat) (sM sU sV:S3) (M U V:Nat→Nat→Int) (i j:Nat) (hr:r≤1048576) (hc:c≤1048576) (hM:ok3 r sM) (hU:ok3 r sU) (hV:ok3 r sV) (hi:i<r) (hj:j<r) (hne:i≠j) :
  OkI Tryz.prog 55 [one (.pointer (some ⟨b,0,none⟩)),one (.int .i64 i),one (.int .i64 j)] (kB b r c sM sU sV M U V)
   (fun _:Unit=>bZ []) (fun _=>kB b r c (fT i j sM.1,sM.2) (fT i j sU.1,sU.2) sV (swp i j M) (swp i j U) (gP i j V)):=by
 obtain ⟨bs,bo,cap,rfl,hbl⟩:=hM.some S
 obtain ⟨bsU,boU,capU,rfl,hblU⟩:=hU.some S
 obtain ⟨bsV,boV,capV,rfl,hblV⟩:=hV.some S
 unfold kB bF
 dsimp only at hbl hblU hblV ⊢
 refine OkI.enter Tryz.func55 Z Tryz.ntmps55 Z (fun w O => ?_)
 refine ah (aj (Am Z (Al (ao Z) (Al (ab Z) (Al (ab Z) (Al (aw 0 0 2 Z Z Z Z Z) (Am Z (Al (an Z Z S) (Al (aI 1 Z Z S) ?_)))))))))
 refine An Z (Ap (aa (ah (aZ 14 aV X Y (Am Z (Al (ao Z) (Al (ab Z) (Al (ab Z) (Al (aw 0 0 2 Z Z Z Z Z) ?_)))))))))
 refine Am Z (Am Z (Al (ao Z) (Al (ab Z) (Al (ab Z) (Al (aw 0 0 2 Z Z Z Z Z) (Am Z (Al (an Z Z S) (Al (aI 1 Z Z S) (Ap ?_)))))))))
 refine Al (an Z Z S) ?_
 (refine bD 1 Z Z Z ?_ Z ?_;omega)
 refine Ap (aa (ah (aj (Am Z (Al (ao Z) (Al (ab Z) (Al (ab Z) (Al (aw 0 0 2 Z Z Z Z Z) (Am Z ?_)))))))))
 refine Am Z (Al (an Z Z S) ?_)
 (refine bD 1 Z Z Z ?_ Z ?_;omega)
 refine Ap (aa (ah (aj (Am Z (Al (ao Z) (Al (ab Z) (Al (ab Z) (Al (aw 0 3 2 Z Z Z Z Z) (Am Z ?_)))))))))
 refine Al (an Z Z S) (Al (aI 3 Z Z S) (An Z (Ap (aa (ah (aZ 14 aV X Y (Am Z (Al (ao Z) (Al (ab Z) ?_)))))))))
 refine Al (ab Z) (Al (aw 0 3 2 Z Z Z Z Z) (Am Z (Am Z (Al (ao Z) (Al (ab Z) (Al (ab Z) (Al (aw 0 3 2 Z Z Z Z Z) (Am Z (Al (an Z Z S) ?_)))))))))
 refine Al (aI 3 Z Z S) (Ap (Al (an Z Z S) ?_))
 (refine bD 3 Z Z Z ?_ Z ?_;omega)
 refine Ap (aa (ah (aj (Am Z (Al (ao Z) (Al (ab Z) (Al (ab Z) (Al (aw 0 3 2 Z Z Z Z Z) (Am Z ?_)))))))))
 refine Am Z (Al (an Z Z S) ?_)
 (refine bD 3 Z Z Z ?_ Z ?_;omega)
 refine Ap (aa (ah (aj (An Z (Ap (aa (ar (iM (ConvM.cons (ConvM.le (kv S S hne))) (iM (ConvM.cons (ConvM.cons (jm S S hne))) ?_)))))))))
 refine iM (ConvM.cons (ConvM.cons (ConvM.cons (ConvM.le (kv S S hne))))) (iM (ConvM.cons (ConvM.cons (ConvM.cons (ConvM.cons (jm S S hne))))) (bV (Γ' := [(0,_),(1,_),(2,_),(7,_)]) Ag (SubM.refl _) ?_))
 refine bv (σ:=Nat) (Γk := [(0,_),(1,_),(2,_)]) Ag (fun a => [(7,one (.int .i64 (a:Nat)))]) (fun a M0=>(M0.set 6 (bg r bsV (k9 i j a V)))) (fun a=>a≤r) (fun a=>r - a) (0) (Nat.zero_le _) Ah (.keep Ak (.keep Ak (.keep Ak (.keep Ak (.keep Ak (.keep Ak (.keep Ak (.nil)))))))) (fun a ha => ?_)
 refine bK (Γ' := [(7,_),(0,_),(1,_),(2,_)]) (M' := [_,_,_,_,_,_,_]) Z Z ?_
 by_cases h:a<r
 ·refine ah (ah (aj (Am Z (Am Z (Al (ao Z) (Al (ab Z) (Al (ab Z) (Al (aw 0 6 0 Z Z Z Z Z) (Al (sT S (aS Z Z)) ?_)))))))))
  refine Ap (aa (az Z (au (aa (ah (ar (ah (aj (Am Z ?_)))))))))
  refine Al (ao Z) (Al (ab Z) (Al (ab Z) (Al (aw 0 6 2 Z Z Z Z Z) (Am Z (Al (an Z Z S) (Al (aI 5 Z Z S) (Am Z (Al (an Z Z S) (Al (bd 6 Z Z (bC S) S) ?_)))))))))
  refine aT (T:=55) Z (ltN Z) (fun b8 => ?_)
  refine aF 0 Z Z Z Z Z (leN Z) Z (Ap (aa (ah (aZ 20 aV X Y (Am Z (Al (ao Z) (Al (ab Z) (Al (ab Z) (Al (aw 1 6 2 Z Z Z Z Z) ?_)))))))))
  refine Am Z (Al (an Z Z S) (Al (aI 6 Z Z S) (Am Z (Am Z (Al (ao Z) (Al (ab Z) (Al (ab Z) (Al (aw 1 6 2 Z Z Z Z Z) (Am Z ?_)))))))))
  refine Al (an Z Z S) (Al (aI 6 Z Z S) (Am Z (Al (an Z Z S) (Al (bd 7 Z Z (bC S) S) (Ap (Al (an Z Z S) ?_))))))
  (refine a9 7 Z Z Z (bC ?_) ?_ Z ?_;omega;omega)
  refine Ap (aa (aZ 10 aV X Y (Am Z (Al (ao Z) (Al (ab Z) (Al (ab Z) (Al (aw 1 6 2 Z Z Z Z Z) (Am Z (Al (an Z Z S) ?_)))))))))
  refine Al (aI 6 Z Z S) (Am Z (Al (ak 0 Z Z Z) (Ap (Al (an Z Z S) ?_))))
  (refine a9 7 Z Z Z (bC ?_) ?_ Z ?_;omega;omega)
  refine Ap (aD (aa (aj (Am Z (Al (bn _ 1 Z Z S) (An Z (Ap ?_)))))))
  refine aJ (a+1) (h) S Ah (.drop (.keep Ak (.keep Ak (.keep Ak (.keep Ak (.keep Ak (.keep Ak (.keep (vg hne) (.nil)))))))))
 ·have he:r=a:=by omega
  subst he
  refine ah (ah (aj (Am Z (Am Z (Al (ao Z) (Al (ab Z) (Al (ab Z) (Al (aw 0 6 0 Z Z Z Z Z) (Al (sF S (aS Z Z)) ?_)))))))))
  refine Ap (aa (aA Z (aU (av (av (aC (gx ?_)))))))
  exact lm (σ:=Unit) (ψ:=fun _=>bZ []) () Tryz.results55 W (.keep Ak (.keep Ak (.keep Ak (.keep Ak (.keep Ak (.keep Ak (.keep (vf hblV) .nil)))))))
theorem rs (b r c:Nat) (sM sU sV:S3) (M U V:Nat→Nat→Int) (i:Nat) (hr:r≤1048576) (hc:c≤1048576) (hM:ok3 r sM) (hU:ok3 r sU) (hV:ok3 r sV) (hi:i<r) (hmM : ∀ i j,cx (M i j)) (hmU : ∀ i j,cx (U i j)) (hmV : ∀ i j,cx (V i j)) :
  OkI Tryz.prog 56 [one (.pointer (some ⟨b,0,none⟩)),one (.int .i64 i)] (kB b r c sM sU sV M U V)
   (fun _:Unit=>bZ []) (fun _=>kB b r c sM sU sV (cN i M) (cN i U) (gG i V)):=by
 obtain ⟨bs,bo,cap,rfl,hbl⟩:=hM.some S
 obtain ⟨bsU,boU,capU,rfl,hblU⟩:=hU.some S
 obtain ⟨bsV,boV,capV,rfl,hblV⟩:=hV.some S
 unfold kB bF
 dsimp only at hbl hblU hblV ⊢
 refine OkI.enter Tryz.func56 Z Tryz.ntmps56 Z (fun w O => ?_)
 refine ah (ah (aj (An Z (Ap (aa (ar (bV (Γ' := [(0,_),(1,_),(4,_)]) Ag (SubM.refl _) ?_)))))))
 refine bv (σ:=Nat) (Γk := [(0,_),(1,_)]) Ag (fun x => [(4,one (.int .i64 (x:Nat)))]) (fun x M0=>(M0.set 2 (bg c bs (ku i x M)))) (fun x=>x≤c) (fun x=>c - x) (0) (Nat.zero_le _) Ah (.keep Ak (.keep Ak (.keep (so) (.keep Ak (.keep Ak (.keep Ak (.keep Ak (.nil)))))))) (fun x hx => ?_)
 refine bK (Γ' := [(4,_),(0,_),(1,_)]) (M' := [_,_,_,_,_,_,_]) Z Z ?_
 by_cases h:x<c
 ·refine ah (ah (aj (Am Z (Am Z (Al (ao Z) (Al (ab Z) (Al (ab Z) (Al (aw 0 0 1 Z Z Z Z Z) (Al (sT S (aS Z Z)) ?_)))))))))
  refine Ap (aa (az Z (au (aa (ah (ar (aZ 21 aV X Y (Am Z (Al (ao Z) ?_)))))))))
  refine Al (ab Z) (Al (ab Z) (Al (aw 0 0 2 Z Z Z Z Z) (Am Z (Al (an Z Z S) (Al (aI 1 Z Z S) (Am Z (Am Z (Al (ao Z) (Al (ab Z) ?_)))))))))
  refine Al (ab Z) (Al (aw 0 0 2 Z Z Z Z Z) (Am Z (Al (an Z Z S) (Al (aI 1 Z Z S) (Am Z (Al (an Z Z S) (Al (bd 2 Z Z (bC S) S) ?_)))))))
  refine Al (am (e8 _ (oV hmM)) Z ⟨W,Aq⟩) ?_
  refine Ap (Al (an Z Z S) ?_)
  (refine a9 2 Z Z Z (bC ?_) ?_ Z ?_;omega;omega)
  refine Ap (aD (aa (aj (Am Z (Al (bn _ 1 Z Z S) (An Z (Ap ?_)))))))
  refine aJ (x+1) (h) S Ah (.keep Ak (.keep Ak (.keep (sr) (.keep Ak (.keep Ak (.keep Ak (.keep Ak (.nil))))))))
 ·have he:c=x:=by omega
  subst he
  refine ah (ah (aj (Am Z (Am Z (Al (ao Z) (Al (ab Z) (Al (ab Z) (Al (aw 0 0 1 Z Z Z Z Z) (Al (sF S (aS Z Z)) ?_)))))))))
  refine Ap (aa (aA Z (aU (av (av (aC (aa (ah (ah ?_)))))))))
  refine aj (An Z (Ap (aa (ar (bV (Γ' := [(0,_),(1,_),(5,_)]) Ag (SubM.refl _) ?_)))))
  refine bv (σ:=Nat) (Γk := [(0,_),(1,_)]) Ag (fun x => [(5,one (.int .i64 (x:Nat)))]) (fun x M0=>((M0.set 4 (bg r bsU (ku i x U))).set 2 (bg c bs (cN i M)))) (fun x=>x≤r) (fun x=>r - x) (0) (Nat.zero_le _) Ah (.keep Ak (.keep Ak (.keep (sp) (.keep Ak (.keep (so) (.keep Ak (.keep Ak (.nil)))))))) (fun x hx => ?_)
  refine bK (Γ' := [(5,_),(0,_),(1,_)]) (M' := [_,_,_,_,_,_,_]) Z Z ?_
  by_cases h:x<r
  ·refine ah (ah (aj (Am Z (Am Z (Al (ao Z) (Al (ab Z) (Al (ab Z) (Al (aw 0 3 1 Z Z Z Z Z) (Al (sT S (aS Z Z)) ?_)))))))))
   refine Ap (aa (az Z (au (aa (ah (ar (aZ 21 aV X Y (Am Z (Al (ao Z) ?_)))))))))
   refine Al (ab Z) (Al (ab Z) (Al (aw 0 3 2 Z Z Z Z Z) (Am Z (Al (an Z Z S) (Al (aI 3 Z Z S) (Am Z (Am Z (Al (ao Z) (Al (ab Z) ?_)))))))))
   refine Al (ab Z) (Al (aw 0 3 2 Z Z Z Z Z) (Am Z (Al (an Z Z S) (Al (aI 3 Z Z S) (Am Z (Al (an Z Z S) (Al (bd 4 Z Z (bC S) S) ?_)))))))
   refine Al (am (e8 _ (oV hmU)) Z ⟨W,Aq⟩) ?_
   refine Ap (Al (an Z Z S) ?_)
   (refine a9 4 Z Z Z (bC ?_) ?_ Z ?_;omega;omega)
   refine Ap (aD (aa (aj (Am Z (Al (bn _ 1 Z Z S) (An Z (Ap ?_)))))))
   refine aJ (x+1) (h) S Ah (.keep Ak (.keep Ak (.keep Ak (.keep Ak (.keep (sr) (.keep Ak (.keep Ak (.nil))))))))
  ·have he:r=x:=by omega
   subst he
   refine ah (ah (aj (Am Z (Am Z (Al (ao Z) (Al (ab Z) (Al (ab Z) (Al (aw 0 3 1 Z Z Z Z Z) (Al (sF S (aS Z Z)) ?_)))))))))
   refine Ap (aa (aA Z (aU (av (av (aC (aa (ah (aj ?_)))))))))
   refine An Z (Ap (aa (ar (bV (Γ' := [(0,_),(1,_),(6,_)]) Ag (SubM.refl _) ?_))))
   refine bv (σ:=Nat) (Γk := [(0,_),(1,_)]) Ag (fun x => [(6,one (.int .i64 (x:Nat)))]) (fun x M0=>((M0.set 6 (bg r bsV (m9 i x V))).set 4 (bg r bsU (cN i U)))) (fun x=>x≤r) (fun x=>r - x) (0) (Nat.zero_le _) Ah (.keep Ak (.keep Ak (.keep Ak (.keep Ak (.keep (sp) (.keep Ak (.keep Ak (.nil)))))))) (fun x hx => ?_)
   refine bK (Γ' := [(6,_),(0,_),(1,_)]) (M' := [_,_,_,_,_,_,_]) Z Z ?_
   by_cases h:x<r
   ·refine ah (ah (aj (Am Z (Am Z (Al (ao Z) (Al (ab Z) (Al (ab Z) (Al (aw 0 6 0 Z Z Z Z Z) (Al (sT S (aS Z Z)) ?_)))))))))
    refine Ap (aa (az Z (au (aa (ah (ar (aZ 21 aV X Y (Am Z (Al (ao Z) ?_)))))))))
    refine Al (ab Z) (Al (ab Z) (Al (aw 0 6 2 Z Z Z Z Z) (Am Z (Al (an Z Z S) (Al (aI 5 Z Z S) (Am Z (Am Z (Al (ao Z) (Al (ab Z) ?_)))))))))
    refine Al (ab Z) (Al (aw 0 6 2 Z Z Z Z Z) (Am Z (Al (an Z Z S) (Al (aI 5 Z Z S) (Am Z (Al (an Z Z S) (Al (bd 6 Z Z (bC S) S) ?_)))))))
    refine Al (am (e8 _ (ss hmV)) Z ⟨W,Aq⟩) ?_
    refine Ap (Al (an Z Z S) ?_)
    (refine a9 6 Z Z Z (bC ?_) ?_ Z ?_;omega;omega)
    refine Ap (aD (aa (aj (Am Z (Al (bn _ 1 Z Z S) (An Z (Ap ?_)))))))
    refine aJ (x+1) (h) S Ah (.keep Ak (.keep Ak (.keep Ak (.keep Ak (.keep Ak (.keep Ak (.keep (u6) (.nil))))))))
   ·have he:r=x:=by omega
    subst he
    refine ah (ah (aj (Am Z (Am Z (Al (ao Z) (Al (ab Z) (Al (ab Z) (Al (aw 0 6 0 Z Z Z Z Z) (Al (sF S (aS Z Z)) ?_)))))))))
    refine Ap (aa (aA Z (aU (av (av (aC (gx ?_)))))))
    exact lm (σ:=Unit) (ψ:=fun _=>bZ []) () Tryz.results56 W (.keep Ak (.keep Ak (.keep Ak (.keep Ak (.keep Ak (.keep Ak (.keep (u5 hblV) .nil)))))))
end Tor
end
section
namespace Tor
open Go Go.RowKit Go.Proofs
theorem vp (r c:Nat) (F:Nat→Nat→Int) (hr:r≤1048576) (hc:c≤1048576) (hF : ∀ i j,cx (F i j)):OkM Tryz.prog 44 [bp r c F] (bF r c) (fun s=>iW r c s F):=by
 have h:=qu r c F hr hc (fun i j=>bA (hF i j))
 simp only [Int.mul_one] at h
 exact fa h
attribute [local irreducible] J PJ aQ one slT cA bG bZ exT cE eP aX a8 slV VT.le Ret bS
attribute [local irreducible] bX bm
end Tor
end
section
namespace Tor
open Go Go.RowKit Go.Proofs
attribute [local irreducible] J PJ aQ one slT cA bG bZ exT cE eP aX a8 slV VT.le Ret bS
attribute [local irreducible] bX bm
theorem mS (r c r' c':Nat) (F:Nat→Nat→Int) (hr:r≤1048576) (hF : ∀ i j,ci (F i j)):Ok Tryz.prog 38 [bp r c F,one (.int .i64 r'),one (.int .i64 c')] (one (.bool (decide (r=r'∧c=c')))):=by
 have hv:=jJ r c F hr hF
 refine Ok.enter Tryz.func38 Z Tryz.ntmps38 Z (fun w O => ?_)
 by_cases h1:r=r'
 ·by_cases h2:c=c'
  ·rw [decide_eq_true ⟨h1,h2⟩]
   unfold bp at *
   refine ah (aj ?_)
   refine aY Z Z (ltN Z) (fun b3 => ?_)
   refine An Z (Ap (aa (ah (aj (Al (ab Z) (Al (ak 0 Z Z Z) (Am Z (Al (sT S (cj Z Z)) (Am Z ?_)))))))))
   refine Ao (ab Z) (Ao (ak 0 Z Z Z) (Ao (ae Z) (Ao (sT S (cj Z Z)) (Al (aE Z Z) (Am Z (Ao (aL 0 Z Z) ?_))))))
   refine Ao (am (hv) Z ⟨W,Aq⟩) ?_
   refine Al (aE Z Z) (An Z (Ap (aa (aG ?_))))
   refine aP Tryz.results38 (.tmp Z W)
  ·rw [decide_eq_false (fun e=>h2 e.2)]
   unfold bp at *
   refine ah (aj ?_)
   refine aY Z Z (ltN Z) (fun b3 => ?_)
   refine An Z (Ap (aa (ah (aj (Al (ab Z) (Al (ak 0 Z Z Z) (Am Z (Al (sT S (cj Z Z)) (Am Z ?_)))))))))
   refine Ao (ab Z) (Ao (ak 0 Z Z Z) (Ao (ae Z) (Ao (sF S (cj Z Z)) (Al (aE Z Z) (Am Z (sn0 Z Z Z Z Z (sn0 Z Z Z Z Z (Al (ay Z Z) (An Z ?_)))))))))
   refine Ap (aa (aG ?_))
   refine aP Tryz.results38 (.tmp Z W)
 ·rw [decide_eq_false (fun e=>h1 e.1)]
  unfold bp at *
  refine ah (aj ?_)
  refine aY Z Z (ltN Z) (fun b3 => ?_)
  refine An Z (Ap (aa (ah (aj (Al (ab Z) (Al (ak 0 Z Z Z) (Am Z (Al (sF S (cj Z Z)) (Am Z ?_)))))))))
  refine sn0 Z Z Z Z Z (sn0 Z Z Z Z Z (sn0 Z Z Z Z Z (sn0 Z Z Z Z Z (Al (ay Z Z) (Am Z (sn0 Z Z Z Z Z (sn0 Z Z Z Z Z (Al (ay Z Z) (An Z ?_)))))))))
  refine Ap (aa (aG ?_))
  refine aP Tryz.results38 (.tmp Z W)
end Tor
end
section
namespace Tor
theorem rx {r c:Nat} {F G:Nat→Nat→Int} (h : ∀ i j,i<r→j<c→F i j=G i j):tab r c F=tab r c G:=by
 unfold tab
 refine List.map_congr_left fun i hi=>List.map_congr_left fun j hj=>h i j (List.mem_range.1 hi) (List.mem_range.1 hj)
theorem AllS.stL {r c:Nat} {A:Nat→Nat→Int} {s:SS} (h:AllS r c A s) (hc:c≤4):StL r c s:=by
 have hm:=h.modM hc
 exact ⟨h.eqs.hr,h.eqs.hc,fun i j=>by have:=(hm i j).1;unfold cx;omega,fun i j=>by have:=(hm i j).2.1;unfold cx;omega,fun i j=>by have:=(hm i j).2.2;unfold cx;omega⟩
theorem wS {n:Nat} {s:SS} {pv:Nat→Nat} (h:FrmS n s pv) : ∀ i,i<s.row→i≤pv i
 | 0, _ => Nat.zero_le _
 | i + 1, hi => by
  have h1:=wS h i S
  have h2:=(h.ord (i+1) i hi S).1
  omega
theorem AllS.valI {r c:Nat} {A:Nat→Nat→Int} {s:SS} (h:AllS r c A s):ValI r c A s.M s.U s.V s.row s.col (cR r c s):=by
 obtain ⟨pv,hp⟩:=h.frm
 refine ⟨?_,rfl,rx fun i j hi hj=>(h.eqs.ua i j hi hj).symm,rx fun i j hi hj=>h.eqs.uv i j hi hj,hp.low,hp.isH,?_⟩
 ·rcases Nat.eq_zero_or_pos s.row with h0 | h0
  ·omega
  ·have h1:=wS hp (s.row - 1) S
   have h2:=hp.lt (s.row - 1) S
   omega
 ·rcases Nat.eq_zero_or_pos s.row with h0 | h0
  ·exact .inl h0
  ·refine .inr ?_
   rw [hp.lead S]
   exact hp.lt _ S
theorem AllS.endH {r c:Nat} {A:Nat→Nat→Int} {s:SS} (h:AllS r c A s) (hf:cR r c s=true):IsH r c s.M:=by
 obtain ⟨pv,hp⟩:=h.frm
 have hfo:s.row=r∨s.col=c:=of_decide_eq_true hf
 have hc:=h.eqs.hc
 have hr:=h.eqs.hr
 have hl : ∀ i,i<s.row→bH c (s.M i)=pv i:=fun i hi=>sd (by have:=hp.lt i hi;omega) (fun k hk=>hp.zero i k hi hk) (by have:=hp.pos i hi;omega)
 intro i hi hlt
 rcases Nat.lt_or_ge i s.row with h1 | h1
 ·rw [hl i h1]
  refine ⟨hp.pos i h1,fun k hk => ?_⟩
  rw [hl k S]
  exact hp.ord i k h1 hk
 ·have hce:s.col=c:=by omega
  rw [oI (fun k hk=>hp.low i k h1 hi S)] at hlt
  exact absurd hlt (Nat.lt_irrefl c)
theorem wy {r c:Nat} {A:Nat→Nat→Int} {s:SS} (h:AllS r c A s):Tor.qx r c A s.M s.U s.V s.row s.col (cR r c s)=true:=lc h.valI
end Tor
end
section
namespace Tor
open Go Go.RowKit Go.Proofs
def lg (r c:Nat) (l:List Int):VT:=bG 3 [(0, .one,one (.int .u8 r)),(1, .one,one (.int .u8 c)),(2, .one,kR .i8 l)]
def nS (c:Nat) (l:List Int):Nat→Nat→Int:=fun i j=>dig l (i*(c % 5)+j)
theorem wT (n:Nat):(n:Int).tmod 5=((n % 5:Nat):Int):=by
 rw [Int.tmod_eq_emod_of_nonneg S]; omega
attribute [local irreducible] J PJ aQ one slT cA bG bZ exT cE eP aX a8 slV VT.le Ret bS
attribute [local irreducible] bm bX
theorem tO (r c:Nat) (l:List Int):OkM Tryz.prog 9 [lg r c l] (gS (r % 5) (c % 5)) (fun s => [bO s.1.2.1 s.1.2.2 (r % 5) (c % 5) s.1.1,bg (c % 5) s.1.1 (nS c l)]):=by
 unfold lg kR
 refine OkM.enter Tryz.func9 Z Tryz.ntmps9 Z (fun w O => ?_)
 have h5:=wT r
 have h6:=wT c
 have hr:r % 5<5:=Nat.mod_lt _ Y
 have hc:c % 5<5:=Nat.mod_lt _ Y
 refine ah (aj ?_)
 refine aY Z Z (ltN Z) (fun b => ?_)
 refine a7 (T:=29) Z Z Z (fun b => ?_)
 refine Ap (aa (ah (aj (Al (ab Z) (Al (ak 1 Z Z Z) (Al (rC Z Z Y Z) ?_))))))
 (refine Al (fy Z ?_ ?_) ?_;omega;omega)
 refine Al (ab Z) (Al (ak 1 Z Z Z) (Al (rC Z Z Y Z) ?_))
 (refine Al (fy Z ?_ ?_) ?_;omega;omega)
 refine Al (ab Z) (Al (ak 1 Z Z Z) ?_)
 rw [h5]
 skip
 rw [h6]
 skip
 refine eu (pV (r % 5) (c % 5) l S S) Z ⟨W,W,W,Aq⟩ Z Z (fun s => ?_)
 unfold gS
 refine aW 2 Z Z Z Z (Ap (aa (aG ?_)))
 refine iB s Tryz.results9 (.cellW 2 Z Z ?_) ?_
 ·exact VT.le_refl _
 ·exact .keep Ak (.keep Ak (SubM.nilR _))
end Tor
end
section
namespace Tor
open Go Go.RowKit Go.Proofs
attribute [local irreducible] J PJ aQ one slT cA bG bZ exT cE eP aX a8 slV VT.le Ret bS
attribute [local irreducible] bX bm
theorem tP (r c:Nat) (A Ae U V:Nat→Nat→Int) (hr:r≤1048576) (hc:c≤1048576) (hmA : ∀ i j,cx (A i j)) (hmH : ∀ i j,cx (Ae i j)) (hmU : ∀ i j,cx (U i j)) (hmV : ∀ i j,cx (V i j)) (hH:IsH r c Ae) (hua:tab r c (fG r U A)=tab r c Ae) (huv:tab r r (fG r U V)=tab r r idF) :
  Ok Tryz.prog 21 [bp r c A,mO (bp r c Ae) (bp r r U) (bp r r V)] (one (.bool true)):=by
 have hsm : ∀ F:Nat→Nat→Int,(∀ i j,cx (F i j)) → ∀ i j,ci (F i j):=fun F h i j=>bA (h i j)
 have hva:=jJ r c A hr (hsm A hmA)
 have hf:=wl r c Ae hr hc hmH
 rw [jh hH] at hf
 have hs2:=mS r r r r U hr (hsm U hmU)
 have hs3:=mS r r r r V hr (hsm V hmV)
 rw [decide_eq_true (⟨rfl,rfl⟩:r=r∧r=r)] at hs2 hs3
 have hm1:=ks r r U c A hr hr hc hmU hmA
 have hm2:=ks r r U r V hr hr hr hmU hmV
 have he1:=fX r c r c (fG r U A) Ae hr
 have he2:=fX r r r r (fG r U V) idF hr
 rw [decide_eq_true (⟨rfl,rfl,hua⟩:(r:Int)=r∧(c:Int)=c∧tab r c (fG r U A)=tab r c Ae)] at he1
 rw [decide_eq_true (⟨rfl,rfl,huv⟩:(r:Int)=r∧(r:Int)=r∧tab r r (fG r U V)=tab r r idF)] at he2
 have hid:=ko r hr
 rw [show (fun i j=>if i=j then (1:Int) else 0)=idF from rfl] at hid
 refine Ok.enter Tryz.func21 Z Tryz.ntmps21 Z (fun w O => ?_)
 refine ah (aj ?_)
 refine aY Z Z (ltN Z) (fun b2 => ?_)
 refine aY Z Z (ltN Z) (fun b3 => ?_)
 refine An Z (Ap (aa (ah (aj (Al (aL 1 Z Z) ?_)))))
 refine Al (am (hva) Z ⟨W,Aq⟩) ?_
 refine An Z (Ap (aa (ah (aj (Al (ab Z) (Al (ak 0 Z Z Z) ?_))))))
 refine Al (am (hf) Z ⟨W,Aq⟩) ?_
 refine An Z (Ap (aa (ah (ah (aj (Am Z (Al (bx Z) (Am Z (Ao (ae Z) ?_)))))))))
 refine Ao (bx Z) (Al (ay Z Z) (Am Z (Ao (ab Z) (Ao (ab Z) (Ao (aw 0 0 0 Z Z Z Z Z) (Ao (ab Z) (Ao (ak 1 Z Z Z) (Ao (sF S (dy Z Z)) (Al (ay Z Z) ?_)))))))))
 refine Am Z (Ao (ab Z) (Ao (ab Z) (Ao (aw 0 0 1 Z Z Z Z Z) (Ao (ab Z) (Ao (ak 1 Z Z Z) (Ao (sF S (dy Z Z)) (Al (ay Z Z) (Ap (aa ?_)))))))))
 refine aA Z (au (aa (ah (aj (Al (ab Z) (Al (ak 0 Z Z Z) (Al (ab Z) (Al (ak 1 Z Z Z) (Al (ab Z) ?_)))))))))
 refine Al (ak 1 Z Z Z) ?_
 refine Al (am (hs2) Z ⟨W,W,W,Aq⟩) ?_
 refine An Z (Ap (aa (ah (aj (Al (ab Z) (Al (ak 0 Z Z Z) (Al (ab Z) (Al (ak 1 Z Z Z) (Al (ab Z) ?_)))))))))
 refine Al (ak 1 Z Z Z) ?_
 refine Al (am (hs3) Z ⟨W,W,W,Aq⟩) ?_
 refine An Z (Ap (aa (ah (aZ 24 aV X Y (Am Z (Am Z (Ao (ae Z) (Al (aE Z Z) (Am Z ?_)))))))))
 refine Ao (ab Z) (Ao (ak 0 Z Z Z) (Ao (aL 1 Z Z) ?_))
 refine Ao (am (hm1) Z ⟨W,W,Aq⟩) ?_
 refine Ao (ab Z) (Ao (ak 0 Z Z Z) ?_)
 refine Ao (am (he1) Z ⟨W,W,Aq⟩) ?_
 refine Al (aE Z Z) (Am Z (Ao (ab Z) (Ao (ak 0 Z Z Z) (Ao (ab Z) (Ao (ak 0 Z Z Z) ?_)))))
 refine Ao (am (hm2) Z ⟨W,W,Aq⟩) ?_
 refine Ao (ab Z) (Ao (ak 1 Z Z Z) ?_)
 refine Ao (am (hid) Z ⟨W,Aq⟩) ?_
 refine Ao (am (he2) Z ⟨W,W,Aq⟩) ?_
 refine Al (aE Z Z) (Ap (An Z (Ap (aa (aG ?_)))))
 refine aP Tryz.results21 (.tmp Z W)
/-! ### States from the start -/
theorem lh (r c:Nat) (F:Nat→Nat→Int) (hr:r≤1048576) (hc:c≤1048576):Ok Tryz.prog 10 [bp r c F] (stT r c F (bT F) (one (.bool (cR r c (bT F))))):=by
 have h:=qo r c F hr hc
 rw [show decide ((0:Int)=r∨(0:Int)=c)=cR r c (bT F) from decide_eq_decide.2 (by show _↔((0:Nat)=r∨(0:Nat)=c);omega)] at h
 exact h.ok fun s g h0 h' v ho hp=>by
  have hM:ok3 r s.1:=ho.mem _ (bE 0 Z)
  have hU:ok3 r s.2.1:=ho.mem _ (bE 3 Z)
  have hV:ok3 r s.2.2:=ho.mem _ (bE 6 Z)
  exact Ent.agg (mJ (Ent.refl _) (da hM.1 (bE 1 Z) (bE 2 Z)) (da hU.1 (bE 4 Z) (bE 5 Z)) (da hV.1 (bE 7 Z) (bE 8 Z))) g h0 h' v ho hp
theorem pc {r c:Nat} {A:Nat→Nat→Int} {s:SS} (h:AllS r c A s) (hr:r≤4) (hc:c≤4) (hmA : ∀ i j,cx (A i j)):Ok Tryz.prog 19 [stT r c A s (one (.bool (cR r c s)))] (one (.bool true)):=by
 have l:=h.stL hc
 have v:=nO r c A s.M s.U s.V s.row s.col (cR r c s) S S l.row l.col hmA l.m l.u l.v
 rw [wy h] at v
 exact v
theorem qD {r c:Nat} {A:Nat→Nat→Int} {s:SS} (h:AllS r c A s) (hr:r≤4) (hc:c≤4) (hmA : ∀ i j,cx (A i j)) (hf:cR r c s=false):Ok Tryz.prog 20 [stT r c A s (one (.bool false))] (bZ [bG 9 [],one (.int .i64 210)]):=by
 have v:=pc h hr hc hmA
 rw [hf] at v
 exact rp r c _ _ _ _ s.row s.col _ v (of_decide_eq_false hf)
theorem sy {r c:Nat} {A:Nat→Nat→Int} {s:SS} (h:AllS r c A s) (hr:r≤4) (hc:c≤4) (hmA : ∀ i j,cx (A i j)) (hf:cR r c s=true):Ok Tryz.prog 20 [stT r c A s (one (.bool true))] (bZ [mO (bp r c s.M) (bp r r s.U) (bp r r s.V),one (.int .i64 0)]):=by
 have v:=pc h hr hc hmA
 rw [hf] at v
 exact tM r c _ s.M s.U s.V s.row s.col _ S S v (of_decide_eq_true hf)
theorem sB {r c:Nat} {A:Nat→Nat→Int} {s:SS} (h:AllS r c A s) (hr:r≤4) (hc:c≤4) (hmA : ∀ i j,cx (A i j)) (hf:cR r c s=true):Ok Tryz.prog 21 [bp r c A,mO (bp r c s.M) (bp r r s.U) (bp r r s.V)] (one (.bool true)):=by
 have l:=h.stL hc
 exact tP r c A s.M s.U s.V S S hmA l.m l.u l.v (h.endH hf) h.valI.ua h.valI.uv
end Tor
end
section
namespace Tor
open Go Go.RowKit Go.Proofs
abbrev exA:Nat→Nat→Int:=iX 1 [4,6]
theorem xX : ∀ i j,(exA i j).natAbs≤9:=fun i j=>by
 show ([4,6].getD (i*1+j) 0:Int).natAbs≤9
 rcases (show i*1+j=0∨i*1+j=1∨2≤i*1+j by omega) with h | h | h
 ·rw [h]; decide
 ·rw [h]; decide
 ·rw [List.getD_eq_getElem?_getD,List.getElem?_eq_none (by simpa using h)]; decide
theorem xY:cR 2 1 (bT exA)=false:=by decide +kernel
theorem xZ:cR 2 1 (bN 2 1 1 (bT exA))=false:=by decide +kernel
theorem x3:cR 2 1 (bN 2 1 1 (bN 2 1 1 (bT exA)))=false:=by decide +kernel
theorem x4:cR 2 1 (bN 2 1 100 (bN 2 1 1 (bN 2 1 1 (bT exA))))=true:=by decide +kernel
theorem x5:tab 2 1 (bN 2 1 1 (bT exA)).M=tab 2 1 (iX 1 [4,2]):=by decide +kernel
theorem x6:tab 2 1 (bN 2 1 1 (bN 2 1 1 (bT exA))).M=tab 2 1 (iX 1 [2,4]):=by decide +kernel
theorem x7:tab 2 1 (bN 2 1 100 (bN 2 1 1 (bN 2 1 1 (bT exA)))).M=tab 2 1 (iX 1 [2,0]):=by decide +kernel
theorem yg:cR 2 1 (bN 2 1 4 (bT exA))=true ∧ ∀ j,j<4→cR 2 1 (bN 2 1 j (bT exA))=false:=by decide +kernel
theorem ry (t:Nat):AllS 2 1 exA (bN 2 1 t (bT exA)):=AllS.run Y xX t
theorem fY {n m a b:Nat} {s:SS} : bN n m a (bN n m b s)=bN n m (b+a) s:=(iP b a s).symm
theorem lR {x y:Int} : VT.le (slT .one 2 (fun q => [one (.int .i64 y),one (.int .i64 x)].reverse.getD q bS)) (kR .i64 [x,y]):=fe fun i hi=>by
 rcases (show i=0∨i=1 by omega) with rfl | rfl
 ·exact VT.le_refl _
 ·exact VT.le_refl _
theorem wz {r c:Nat} {cs:cf} {F:Nat→Nat→Int} (h:r=0) (h0:(0, .one,one (.int .i64 r))∈cs) (h1:(1, .one,one (.int .i64 c))∈cs) (h2:(2, .one,one (.slice none 0 0))∈cs):VT.le (bG 3 cs) (bp r c F):=by
 subst h
 unfold bp
 refine ej fun q hq => ?_
 simp only [List.mem_cons,List.not_mem_nil,or_false] at hq
 rcases hq with rfl | rfl | rfl
 ·exact ⟨_,h0,W⟩
 ·exact ⟨_,h1,W⟩
 ·exact ⟨_,h2,gu⟩
theorem wA {r c:Nat} {cs:cf} {F:Nat→Nat→Int} {φ:Nat→VT} (hr:r=1) (hc:c=0) (h0:(0, .one,one (.int .i64 r))∈cs) (h1:(1, .one,one (.int .i64 c))∈cs) (h2:(2, .one,slT .one 1 fun q => [slT (.agg 2) 0 φ].reverse.getD q bS)∈cs):VT.le (bG 3 cs) (bp r c F):=by
 subst hr hc
 unfold bp
 refine ej fun q hq => ?_
 simp only [List.mem_cons,List.not_mem_nil,or_false] at hq
 rcases hq with rfl | rfl | rfl
 ·exact ⟨_,h0,W⟩
 ·exact ⟨_,h1,W⟩
 ·exact ⟨_,h2,fe fun i hi=>by
   obtain rfl:i=0:=by omega
   exact cL Z fun q hq=>absurd hq (Nat.not_lt_zero q)⟩
theorem kC {F:Nat→Nat→Int} : VT.le (one (.agg #[.int .i64 0, .int .i64 0, .slice none 0 0])) (bp 0 0 F):=fun v h e=>by
 have e:v=_:=e
 subst e
 exact ⟨_,rfl,rfl,by kernel_rfl,fun q hq=>by
  simp only [List.mem_cons,List.not_mem_nil,or_false] at hq
  rcases hq with rfl | rfl | rfl
  ·exact ⟨_,rfl,rfl⟩
  ·exact ⟨_,rfl,rfl⟩
  ·exact ⟨_,rfl,gu _ _ Z⟩⟩
theorem sC {cs:cf} {F G Ae K:Nat→Nat→Int} {row:Int} (h0:(0, .agg 3,one (.agg #[.int .i64 0, .int .i64 0, .slice none 0 0]))∈cs) (h1:(3, .agg 3,one (.agg #[.int .i64 0, .int .i64 0, .slice none 0 0]))∈cs) (h2:(6, .agg 3,one (.agg #[.int .i64 0, .int .i64 0, .slice none 0 0]))∈cs) (h3:(9, .agg 3,one (.agg #[.int .i64 0, .int .i64 0, .slice none 0 0]))∈cs)
  (h4:(12, .one,one (.int .i64 row))∈cs) (h5:(13, .one,one (.int .i64 0))∈cs) (h6:(14, .one,one (.bool false))∈cs):VT.le (bG 15 cs) (jq (bp 0 0 F) (bp 0 0 G) (bp 0 0 Ae) (bp 0 0 K) row 0 (one (.bool false))):=ej fun q hq=>by
 simp only [List.mem_cons,List.not_mem_nil,or_false] at hq
 rcases hq with rfl | rfl | rfl | rfl | rfl | rfl | rfl
 ·exact ⟨_,h0,kC⟩
 ·exact ⟨_,h1,kC⟩
 ·exact ⟨_,h2,kC⟩
 ·exact ⟨_,h3,kC⟩
 ·exact ⟨_,h4,W⟩
 ·exact ⟨_,h5,W⟩
 ·exact ⟨_,h6,W⟩
attribute [local irreducible] J PJ aQ one slT cA bG bZ exT cE eP aX a8 slV VT.le Ret bS
attribute [local irreducible] bX bm bp
set_option maxRecDepth 100000 in
theorem qE:Ok Tryz.prog 8 [] (one (.bool true)):=by
 have i1:Ok Tryz.prog 26 [one (.int .i64 (2:Nat)),one (.int .i64 (1:Nat)),kR .i64 [4,6]] (bp 2 1 exA):=lQ 2 1 [4,6] Y Y Y
 have i2:Ok Tryz.prog 26 [one (.int .i64 (2:Nat)),one (.int .i64 (1:Nat)),kR .i64 [4,2]] (bp 2 1 (iX 1 [4,2])):=lQ 2 1 [4,2] Y Y Y
 have i3:Ok Tryz.prog 26 [one (.int .i64 (2:Nat)),one (.int .i64 (1:Nat)),kR .i64 [2,4]] (bp 2 1 (iX 1 [2,4])):=lQ 2 1 [2,4] Y Y Y
 have i4:Ok Tryz.prog 26 [one (.int .i64 (2:Nat)),one (.int .i64 (1:Nat)),kR .i64 [2,0]] (bp 2 1 (iX 1 [2,0])):=lQ 2 1 [2,0] Y Y Y
 have hS : ∀ t,StL 2 1 (bN 2 1 t (bT exA)):=fun t=>(ry t).stL Y
 have p1:=lh 2 1 exA Y Y
 have p2:=rq 2 1 exA Y Y
 have p3:=tN 2 1 exA (bT exA) (cR 2 1 (bT exA)) Y
 have k1:=kA 2 1 exA (bT exA) 1 Y Y Y hS
 have k2:=kA 2 1 exA (bN 2 1 1 (bT exA)) 1 Y Y Y (fun t=>by rw [fY]; exact hS _)
 have k3:=kA 2 1 exA (bN 2 1 1 (bN 2 1 1 (bT exA))) 100 Y Y Y (fun t=>by rw [fY,fY]; exact hS _)
 rw [show (1:Int).toNat=1 from rfl] at k1 k2
 rw [show (100:Int).toNat=100 from rfl] at k3
 have a2:AllS 2 1 exA (bN 2 1 1 (bN 2 1 1 (bT exA))):=by rw [fY]; exact ry _
 have a3:AllS 2 1 exA (bN 2 1 100 (bN 2 1 1 (bN 2 1 1 (bT exA)))):=by rw [fY,fY]; exact ry _
 have f3:=x4
 have f2:=x3
 have m1:=x5
 have m2:=x6
 have m3:=x7
 have c1:=oZ 2 1 exA Y Y 4 Y yg.1 yg.2 hS
 have hz : ∀ i j:Nat,cx ((fun _ _=>0:Nat→Nat→Int) i j):=fun i j=>Nat.zero_le _
 have hzs : ∀ (r c t:Nat),c≤4→r≤4→StL r c (bN r c t (bT fun _ _=>0)):=fun r c t hc hr=>(AllS.run hr (fun _ _=>Nat.zero_le _) t).stL hc
 have c2:=oZ 1 0 (fun _ _=>0) Y Y 0 Y Y (fun j hj=>absurd hj (Nat.not_lt_zero j)) (fun t=>hzs 1 0 t Y Y)
 have p4:=lh 0 3 (fun _ _=>0) Y Y
 rw [show cR 0 3 (bT fun _ _=>0)=true by decide] at p4
 rw [xY] at p1 p2 p3 k1
 rw [xZ] at k1 k2
 generalize bN 2 1 1 (bT exA)=s1 at *
 generalize bN 2 1 1 s1=s2 at *
 generalize bN 2 1 100 s2=s3 at *
 rw [f2] at k2 k3
 rw [f3] at k3
 have e1:=fX 2 1 2 1 s1.M (iX 1 [4,2]) Y
 have e2:=fX 2 1 2 1 s2.M (iX 1 [2,4]) Y
 have e3:=fX 2 1 2 1 s3.M (iX 1 [2,0]) Y
 rw [decide_eq_true ⟨rfl,rfl,m1⟩] at e1
 rw [decide_eq_true ⟨rfl,rfl,m2⟩] at e2
 rw [decide_eq_true ⟨rfl,rfl,m3⟩] at e3
 have hmA : ∀ i j,cx (exA i j):=fun i j=>(hS 0).m i j
 have v2:=pc a2 Y Y hmA
 rw [f2] at v2
 have r2:=qD a2 Y Y hmA f2
 have r3:=sy a3 Y Y hmA f3
 have ck:=sB a3 Y Y hmA f3
 have v4:=nP 0 0 0 0 0 0 0 0 (fun _ _=>0) (fun _ _=>0) (fun _ _=>0) (fun _ _=>0) 1 0 false Y Y hz hz hz hz
 rw [jL (fun e=>by have:=e.1;revert this;decide)] at v4
 have v5:=nP 0 0 0 0 0 0 0 0 (fun _ _=>0) (fun _ _=>0) (fun _ _=>0) (fun _ _=>0) 0 0 false Y Y hz hz hz hz
 rw [jL (fun e=>by have:=e.2.dn;revert this;decide)] at v5
 clear f3 f2 m1 m2 m3 a2 a3 hS hzs hz hmA
 refine Ok.enter Tryz.func8 Z Tryz.ntmps8 Z (fun w O => ?_)
 refine ah (aj (An Z (Ap (aa (ah (aj (stS Z Z Z Z (PartsK.cons Z (PartsK.cons Z ?_)))))))))
 refine PartsK.nil ?_
 refine Al (am (i1) Z ⟨W,W,(lR),Aq⟩) ?_
 refine a7 (T:=29) Z Z Z (fun b1 => ?_)
 refine jW 0 Z Z Z Z (Ap (aa (ah (aj (Al (ak 0 Z Z Z) ?_)))))
 refine Al (am (p1) Z ⟨W,Aq⟩) ?_
 refine a7 (T:=32) Z Z Z (fun b2 => ?_)
 refine aW 0 Z Z Z Z (Ap (aa (ah (aj (Al (aL 0 Z Z) ?_)))))
 refine Al (am (k1) Z ⟨W,W,Aq⟩) ?_
 refine a7 (T:=32) Z Z Z (fun b3 => ?_)
 refine aW 0 Z Z Z Z (Ap (aa (ah (aj (Al (aL 0 Z Z) ?_)))))
 refine Al (am (k2) Z ⟨W,W,Aq⟩) ?_
 refine a7 (T:=32) Z Z Z (fun b4 => ?_)
 refine aW 0 Z Z Z Z (Ap (aa (ah (aj (Al (aL 0 Z Z) ?_)))))
 refine Al (am (k3) Z ⟨W,W,Aq⟩) ?_
 refine a7 (T:=32) Z Z Z (fun b5 => ?_)
 refine aW 0 Z Z Z Z (Ap (aa (ah (aj (Al (aL 1 Z Z) ?_)))))
 refine Al (am (r2) Z ⟨W,Aq⟩) ?_
 refine Am Z (Al (aN Z Z) (Al (aN Z Z) ?_))
 refine a7 (T:=43) Z Z Z (fun b6 => ?_)
 refine aW 0 Z Z Z Z (An Z (Ap (aa (ah (aj (Al (aL 1 Z Z) ?_))))))
 refine Al (am (r3) Z ⟨W,Aq⟩) ?_
 refine Am Z (Al (aN Z Z) (Al (aN Z Z) ?_))
 refine a7 (T:=43) Z Z Z (fun b8 => ?_)
 refine aW 0 Z Z Z Z (An Z (Ap (aa (ah (aj (stB Z Z Z (BuildK.cons Z Z Z (BuildK.nil ?_))))))))
 refine Al (am (p4) Z ⟨(wz Z (bE 0 Z) (bE 1 Z) (bE 2 Z)),Aq⟩) ?_
 refine a7 (T:=32) Z Z Z (fun b10 => ?_)
 refine aW 0 Z Z Z Z (Ap (aa (ah (aZ 77 aV X Y (Al (aL 6 Z Z) (Al (ak 7 Z Z Z) ?_))))))
 refine Al (am (p2) Z ⟨W,Aq⟩) ?_
 refine Al (am (p3) Z ⟨W,W,Aq⟩) ?_
 refine Am Z (Ao (ab Z) (Ao (ak 6 Z Z Z) (Ao (bx Z) (Al (aE Z Z) (Am Z (Ao (ab Z) (Ao (ak 5 Z Z Z) (oa Z Z Z Z Z Z (PartsK.cons Z ?_)))))))))
 refine PartsK.cons Z (PartsK.nil ?_)
 refine Ao (am (i2) Z ⟨W,W,(lR),Aq⟩) ?_
 refine Ao (am (e1) Z ⟨W,W,Aq⟩) ?_
 refine Al (aE Z Z) (Am Z (Ao (ab Z) (Ao (ak 4 Z Z Z) (oa Z Z Z Z Z Z (PartsK.cons Z (PartsK.cons Z (PartsK.nil ?_)))))))
 refine Ao (am (i3) Z ⟨W,W,(lR),Aq⟩) ?_
 refine Ao (am (e2) Z ⟨W,W,Aq⟩) ?_
 refine Al (aE Z Z) (Am Z (Ao (ab Z) (Ao (ak 3 Z Z Z) (oa Z Z Z Z Z Z (PartsK.cons Z (PartsK.cons Z (PartsK.nil ?_)))))))
 refine Ao (am (i4) Z ⟨W,W,(lR),Aq⟩) ?_
 refine Ao (am (e3) Z ⟨W,W,Aq⟩) ?_
 refine Al (aE Z Z) (Am Z (Ao (ab Z) (Ao (ak 3 Z Z Z) (Al (aE Z Z) (Am Z (Ao (ae Z) (Ao (sT S (cj Z Z)) (Al (aE Z Z) (Am Z ?_)))))))))
 refine Ao (ae Z) (Ao (sT S (cj Z Z)) (Al (aE Z Z) (Am Z (Ao (ak 7 Z Z Z) (Ao (aL 1 Z Z) ?_)))))
 refine Ao (am (ck) Z ⟨W,W,Aq⟩) ?_
 refine Al (aE Z Z) (Am Z (Ao (ab Z) (Ao (ak 0 Z Z Z) (Al (aE Z Z) (Am Z (Ao (ak 7 Z Z Z) ?_))))))
 refine Ao (am (c1) Z ⟨W,Aq⟩) ?_
 refine Ao (sT S (cj Z Z)) (Al (aE Z Z) (Am Z (oa Z Z Z Z Z Z (PartsK.nil (oa Z Z Z Z Z Z (PartsK.cons Z (PartsK.nil (xi Z Z Z Z Z (BuildK.cons Z Z Z ?_)))))))))
 refine BuildK.cons Z Z Z (BuildK.nil ?_)
 refine Ao (am (c2) Z ⟨(wA Z Z (bE 0 Z) (bE 1 Z) (bE 2 Z)),Aq⟩) ?_
 refine Ao (sT S (cj Z Z)) (Al (aE Z Z) (Am Z (Ao (aL 4 Z Z) ?_)))
 refine Ao (am (v2) Z ⟨W,Aq⟩) ?_
 refine Al (aE Z Z) (Am Z (xi Z Z Z Z Z (BuildK.cons Z Z Z (BuildK.nil ?_))))
 refine Ao (am (v4) Z ⟨(sC (bE 0 Z) (bE 1 Z) (bE 2 Z) (bE 3 Z) (bE 4 Z) (bE 5 Z) (bE 6 Z)),Aq⟩) ?_
 refine Ao (bx Z) (Al (aE Z Z) (Am Z (xi Z Z Z Z Z (BuildK.nil ?_))))
 refine Ao (am (v5) Z ⟨(sC (bE 0 Z) (bE 1 Z) (bE 2 Z) (bE 3 Z) (bE 4 Z) (bE 5 Z) (bE 6 Z)),Aq⟩) ?_
 refine Ao (bx Z) (Al (aE Z Z) (Ap (An Z (Ap (aa (aG ?_))))))
 refine aP Tryz.results8 (.tmp Z W)
end Tor
end
section
namespace Tor
open Go Go.RowKit Go.Proofs
theorem vq (c:Nat) (l:List Int) : ∀ i j,(nS c l i j).natAbs≤9:=fun i j=>by
 show ((l.getD (i*(c % 5)+j) 0).tmod 10).natAbs≤9
 generalize l.getD (i*(c % 5)+j) 0=x
 rw [Int.natAbs_tmod]
 have:=Nat.mod_lt x.natAbs (show 0<10 by decide)
 show x.natAbs % 10≤9
 omega
theorem tQ {r c:Nat} {F:Nat→Nat→Int} (s : { s:S3 // s.1.length=r∧(s.2.1=none→r=0) }):Ent [bO s.1.2.1 s.1.2.2 r c s.1.1,bg c s.1.1 F] (gS r c s) (bp r c F):=da s.2.1 (bE 0 Z) (bE 1 Z)
theorem tS (r c:Nat) (l:List Int):Ok Tryz.prog 9 [lg r c l] (bp (r % 5) (c % 5) (nS c l)):=(tO r c l).ok fun s=>tQ s
theorem vr (r c:Nat) (l:List Int) (t:Nat):AllS (r % 5) (c % 5) (nS c l) (bN (r % 5) (c % 5) t (bT (nS c l))):=AllS.run S (vq c l) t
theorem xF {r c:Nat} {A:Nat→Nat→Int} (hr:r≤4) (hc:c≤4) (hb : ∀ i j,(A i j).natAbs≤9) : ∃ T,T≤4000∧cR r c (bN r c T (bT A))=true ∧ ∀ j,j<T→cR r c (bN r c j (bT A))=false:=by
 obtain ⟨j,hj,hf⟩:=th (s:=bT A) hr hc Z Z hb
 obtain ⟨T,h1,h2⟩:=tj (bT A) ⟨j,hf⟩
 refine ⟨T,?_,h1,h2⟩
 rcases Nat.lt_or_ge j T with h | h
 ·have:=h2 j h;rw [hf] at this;cases this
 ·omega
attribute [local irreducible] J PJ aQ one slT cA bG bZ exT cE eP aX a8 slV VT.le Ret bS
attribute [local irreducible] bX bm bp
end Tor
end
