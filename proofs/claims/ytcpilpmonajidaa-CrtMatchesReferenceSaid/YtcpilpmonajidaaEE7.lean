/-
  Proofs that laws of this seat return true for every input, and that their arguments read afterwards as before.
  No condition.
-/
import Derived.Test.YtcpilpmonajidaaEE6
import Derived.Test.YtcpilpmonajidaaRows
set_option maxHeartbeats 8000000
set_option linter.unusedVariables false
set_option linter.unusedSimpArgs false
section
namespace Tor
open Go Go.RowKit Go.Proofs
instance {l:List (Nat × Nat)} : Flat (cq l) .one:=by unfold cq;infer_instance
theorem sj {b:Nat} {T:TypeId} : Own.le (bf b T 2 [(0, .agg 2,bP 2 (eY #[Value.bool false,Value.slice none 0 0] [(0,Lay.one),(1,Lay.one)]))]) (bf b T 2 [(0, .agg 2,aS 0)]) :=
 ⟨rfl,fun g h ⟨c,h1,h2,h3,h4⟩=>⟨c,h1,h2,h3,fun q hq=>by
  rw [List.mem_singleton.1 hq]
  obtain ⟨x,h5,h6⟩:=h4 _ List.mem_cons_self
  exact ⟨x,h5,dz _ _ h6⟩⟩⟩
theorem PrimR.goodR {l:List (Nat × Nat)} (h:PrimR l) : ∀ p∈l,mg p:=fun p hp =>
 let ⟨h1,h2,h3⟩:=h.good p hp;⟨h1.1,h2,h1.trial,h3⟩
theorem PrimR.snoc {l:List (Nat × Nat)} {i:Nat} (hi:i<l.length) (h:PrimR (l.take i)) (h1:Lin.Pr (l.getD i (0,0)).1) (h2:(l.getD i (0,0)).1<2147483648) (h3:(l.getD i (0,0)).2<(l.getD i (0,0)).1) (hn:(l.getD i (0,0)).1 ∉ fH l i):PrimR (l.take (i+1)):=by
 rw [d7 (0,0) hi]
 refine ⟨fun p hp => ?_,?_⟩
 ·rcases List.mem_append.1 hp with hp | hp
  ·exact h.good p hp
  ·rw [List.mem_singleton.1 hp]; exact ⟨h1,h2,h3⟩
 ·have:=(fE hi).2 ⟨h.nd,hn⟩
  unfold fH at this
  rwa [d7 (0,0) hi] at this
theorem ou {l:List (Nat × Nat)} (h : ¬ PrimR l):bY [] l=false:=by
 cases hv:bY [] l with
 | false => rfl
 | true => exact absurd (uR.1 hv) h
theorem cO {x:Int} {n:Nat} (h:x.natAbs≤2^n) (hn:n<2048):bU x:=by
 have:=fG h hn
 unfold bU at *
 rwa [Int.natAbs_natCast] at this
theorem sk {a b:Int} (u v w:Nat) (hw:w=u+v) (ha:a.natAbs≤2^u) (hb:b.natAbs≤2^v):(a*b).natAbs≤2^w:=by
 subst hw
 rw [Int.natAbs_mul,Nat.pow_add]; exact Nat.mul_le_mul ha hb
theorem sm {a b:Int} (u v w:Nat) (hw:w=u+1) (ha:a.natAbs≤2^u) (hb:b.natAbs≤2^v) (huv:v≤u):(a+b).natAbs≤2^w:=by
 subst hw
 have h1:=eM v u huv
 have h2:2^(u+1)=2^u+2^u:=by rw [Nat.pow_succ]; omega
 omega
attribute [local irreducible] J PJ aF one slT cS bP bZ exT cR eP bf be slV VT.le Ret cm fT jC
attribute [local irreducible] aS
theorem lH (n:Nat) (hn:n<18446744073709551616) (b:Bool) (hb:b=true↔2≤n∧n<2147483648∧gE n):Ok Try.prog 52 [one (.int .u64 (n:Nat))] (one (.bool b)):=by
 refine Ok.enter Try.func52 Z Try.ntmps52 Z (fun w O => ?_)
 by_cases h2:n<2
 ·have hf:b=false:=by cases b with | false=>rfl | true=>have:=hb.1 rfl;omega
  subst hf
  refine ae (ai (Am Z (Ao (aa (ae (ae (ai (Al Z (Ak (sT S (bp Z Z)) ?_)))))))))
  refine Al Z (sg0 Z Z Z Z (sg0 Z Z Z Z (Ak (a9 Z Z) (Ao (aa (aB Z (ae (ai (Am Z ?_)))))))))
  refine Ao (aa (aC (aD ?_)))
  refine aJ Try.results52 (.tmp Z A)
 ·by_cases h3:n<2147483648
  ·refine ae (ai (Am Z (Ao (aa (ae (ae (ai (Al Z (Ak (sF S (bp Z Z)) ?_)))))))))
   refine Al Z (An (ab Z) (An (sF S (dC Z Z)) (Ak (aY Z Z) (Ao (aa (az Z (au (aa (ae ?_)))))))))
   refine ae (ai (Am Z (Ao (aa (aw (cl (Γ' := [(0,_),(2,_),(3,_)]) Ag (SubM.refl _) ?_))))))
   refine bA (σ:=Nat) (Γk := [(0,_)]) Ag (fun d => [(3,one (.int .u64 (d:Nat)))]) (fun d M0=>M0) (fun d=>2≤d∧d≤65536 ∧ ∀ e,2≤e→e<d→n % e≠0) (fun d=>65536 - d) (2) (⟨Nat.le_refl _,by decide,fun e h1 h2=>absurd h2 S⟩) Ah (.nil) (fun d hd => ?_)
   refine bS (Γ' := [(3,_),(0,_)]) (M' := []) Z Z ?_
   obtain ⟨hd2,hd6,hd⟩:=hd
   have hm:d*d≤65536*65536:=Nat.mul_le_mul hd6 hd6
   by_cases hle:d*d≤n
   ·have hlt:d<65536:=by
     rcases Nat.lt_or_ge d 65536 with h | h
     ·exact h
     ·have:=Nat.mul_le_mul h h;omega
    by_cases h0:n % d=0
    ·have hf:b=false:=by cases b with | false=>rfl | true=>exact absurd h0 ((hb.1 rfl).2.2 d hd2 hle)
     subst hf
     refine ae (ae (ai (Al Z (Al Z (Ak (dK Z Z S) (Al Z (Ak (sT S (kw Z Z)) (Ao (aa ?_)))))))))
     refine aB Z (au (aa (ae (aw (ae (ai (Al Z (Al Z (Ak (dW _ Z Z Z S) ?_)))))))))
     refine Ak (sT S (bW Z Z)) (Ao (aa (aB Z (ae (ai (Am Z (Ao (aa (aC ?_)))))))))
     refine aZ (aD (aD (aZ (aD ?_))))
     refine aJ Try.results52 (.tmp Z A)
    ·refine ae (ae (ai (Al Z (Al Z (Ak (dK Z Z S) (Al Z (Ak (sT S (kw Z Z)) (Ao (aa ?_)))))))))
     refine aB Z (au (aa (ae (aw (ae (ai (Al Z (Al Z (Ak (dW _ Z Z Z S) ?_)))))))))
     refine Ak (sF S (bW Z Z)) (Ao (aa (az Z (au (aK (aa (ai (Al Z (Ak (cL (b:=1) Z Z S) ?_)))))))))
     refine Am Z (Ao ?_)
     refine aN (d+1) (⟨by omega,hlt,fun e h1 h2=>by by_cases e1:e=d;exact e1▸h0;exact hd e h1 S⟩) S Ah (.nil)
   ·have ht:b=true:=hb.2 ⟨by omega,h3,fun e h1 h4=>hd e h1 (by
     rcases Nat.lt_or_ge e d with h | h
     ·exact h
     ·have:=Nat.mul_le_mul h h;omega)⟩
    subst ht
    refine ae (ae (ai (Al Z (Al Z (Ak (dK Z Z S) (Al Z (Ak (sF S (kw Z Z)) (Ao (aa ?_)))))))))
    refine az Z (a6 (ay (ay (aI (aa (ae (ai (Am Z (Ao ?_)))))))))
    refine aa (aC ?_)
    refine aJ Try.results52 (.tmp Z A)
  ·have hf:b=false:=by cases b with | false=>rfl | true=>have:=hb.1 rfl;omega
   subst hf
   refine ae (ai (Am Z (Ao (aa (ae (ae (ai (Al Z (Ak (sF S (bp Z Z)) ?_)))))))))
   refine Al Z (An (ab Z) (An (sT S (dC Z Z)) (Ak (aY Z Z) (Ao (aa (aB Z (ae (ai (Am Z ?_)))))))))
   refine Ao (aa (aC (aD ?_)))
   refine aJ Try.results52 (.tmp Z A)
theorem ng (l:List (Nat × Nat)) (h64:eZ l):Ok Try.prog 21 [cq l] (one (.bool (bY [] l))):=by
 refine Ok.enter Try.func21 Z Try.ntmps21 Z (fun w O => ?_)
 refine fR (t:=0) Z (fun _ _ h=>ec (show (slT (.agg 2) l.length (fun i=>eU (l.getD i (0,0)))).p _ _ from h)) (fun hbound => ?_)
 unfold cq eU
 refine ae (ai (Am Z (Ao (aa (ae (ae (ai (Am Z (Ao ?_)))))))))
 refine aa (aw (cl (Γ' := [(0,_),(2,_),(3,_)]) Ag (SubM.refl _) ?_))
 refine bA (σ:=Nat) (Γk := [(0,_)]) Ag (fun i => [(3,one (.int .i64 (i:Nat)))]) (fun i M0=>M0) (fun i=>i≤l.length∧PrimR (l.take i)) (fun i=>l.length - i) (0) (⟨Nat.zero_le _,⟨(fun p hp=>by cases hp),List.nodup_nil⟩⟩) Ah (.nil) (fun i hi => ?_)
 refine bS (Γ' := [(3,_),(0,_)]) (M' := []) Z Z ?_
 obtain ⟨hi,hpr⟩:=hi
 by_cases hc:i<l.length
 ·obtain ⟨g1,g2⟩:=h64.get i
  have hmem:=dT hc
  have hno : ∀ {Ae:Prop}, ¬ Ae→(PrimR l→Ae)→bY [] l=false:=fun h1 h2=>ou fun h=>h1 (h2 h)
  by_cases c1:(l.getD i (0,0)).1<2147483648
  ·by_cases c2:gE (l.getD i (0,0)).1∧2≤(l.getD i (0,0)).1
   ·have hpm:=lH (l.getD i (0,0)).1 g1 true ⟨fun _=>⟨c2.2,c1,c2.1⟩,fun _=>rfl⟩
    by_cases c3:(l.getD i (0,0)).2<(l.getD i (0,0)).1
    ·refine ae (ae (ai (Al Z (Al Z (Ak (aM Z) (Ak (sT S (bp Z Z)) (Ao (aa (aB Z ?_)))))))))
     refine au (aa (ae (aw (ae (ae (aU 28 aR X Y (Al Z (Al Z (Ak (ar Z Z S) ?_)))))))))
     refine Ak (bq Z Z) (Ak (aE Z) (Ak (sF S (dC Z Z)) (Al Z (An (ab Z) (An (ab Z) (An (ar Z Z S) (An (bq Z Z) (An (aE Z) ?_))))))))
     refine An (aj (hpm) Z ⟨A,Ap⟩) ?_
     refine An (cv Z) (Ak (aY Z Z) (Al Z (An (ab Z) (An (ab Z) (An (ar Z Z S) (An (bq Z Z) (An (aE Z) (An (ab Z) (An (ab Z) ?_)))))))))
     refine An (ar Z Z S) (An (bq Z Z) (An (aE Z) (An (sF S (dC Z Z)) (Ak (aY Z Z) (Ao (Ao (aa (az Z (au ?_)))))))))
     refine aa (ae (ai (Am Z (Ao (aa (aw (cl (Γ' := [(0,_),(3,_),(4,_)]) Ag (SubM.refl _) ?_)))))))
     refine bA (σ:=Nat) (Γk := [(0,_),(3,_)]) Ag (fun k => [(4,one (.int .i64 (k:Nat)))]) (fun k M0=>M0) (fun k=>k≤i ∧ ∀ j,j<k→(l.getD j (0,0)).1≠(l.getD i (0,0)).1) (fun k=>i - k) (0) (⟨Nat.zero_le _,fun j h=>absurd h (Nat.not_lt_zero _)⟩) Ah (.nil) (fun k hk => ?_)
     refine bS (Γ' := [(4,_),(0,_),(3,_)]) (M' := []) Z Z ?_
     obtain ⟨hk,hne⟩:=hk
     by_cases hkc:k<i
     ·by_cases he:(l.getD k (0,0)).1=(l.getD i (0,0)).1
      ·have hf:bY [] l=false:=ou fun h=>by
        have h2:=jM (i:=i+1) h.nd
        rw [fE hc] at h2
        exact h2.2 ((ji hi).2 ⟨k,hkc,he⟩)
       rw [hf]
       refine ae (ae (ai (Al Z (Al Z (Ak (sT S (bp Z Z)) (Ao (aa (aB Z (au ?_)))))))))
       refine aa (ae (aw (ae (aU 11 aR X Y (Al Z (Al Z (Ak (ar Z Z S) (Ak (bq Z Z) (Ak (aE Z) ?_)))))))))
       refine Al Z (Al Z (Ak (ar Z Z S) (Ak (bq Z Z) (Ak (aE Z) (Ak (sT S (bW Z Z)) (Ao (Ao (aa (aB Z ?_)))))))))
       refine ae (ai (Am Z (Ao (aa (aC (aZ (aD (aD (aZ ?_)))))))))
       refine aZ (aD (aD (aZ (aD ?_))))
       refine aJ Try.results21 (.tmp Z A)
      ·refine ae (ae (ai (Al Z (Al Z (Ak (sT S (bp Z Z)) (Ao (aa (aB Z (au ?_)))))))))
       refine aa (ae (aw (ae (aU 11 aR X Y (Al Z (Al Z (Ak (ar Z Z S) (Ak (bq Z Z) (Ak (aE Z) ?_)))))))))
       refine Al Z (Al Z (Ak (ar Z Z S) (Ak (bq Z Z) (Ak (aE Z) (Ak (sF S (bW Z Z)) (Ao (Ao (aa (az Z ?_)))))))))
       refine au (aK (aa (ai (Al Z (Ak (bX _ 1 Z Z S) (Am Z (Ao ?_)))))))
       refine aN (k+1) (⟨hkc,fun j hj=>by rcases Nat.lt_or_eq_of_le (Nat.lt_succ_iff.1 hj) with h | h;exact hne j h;rw [h]; exact he⟩) S Ah (.nil)
     ·have hki:k=i:=by omega
      have hnn:=PrimR.snoc hc hpr (Lin.Pr.of_trial c2.2 c2.1) c1 c3 (fun h=>by
       obtain ⟨j,h1,h2⟩:=(ji hi).1 h
       exact hne j S h2)
      refine ae (ae (ai (Al Z (Al Z (Ak (sF S (bp Z Z)) (Ao (aa (az Z (a6 ?_)))))))))
      refine ay (ay (aI (aK (aa (ai (Al Z (Ak (bX _ 1 Z Z S) (Am Z (Ao ?_)))))))))
      refine aN (i+1) (⟨hc,hnn⟩) S Ah (.nil)
    ·rw [hno c3 (fun h=>(h.good _ hmem).2.2)]
     refine ae (ae (ai (Al Z (Al Z (Ak (aM Z) (Ak (sT S (bp Z Z)) (Ao (aa (aB Z ?_)))))))))
     refine au (aa (ae (aw (ae (ae (aU 28 aR X Y (Al Z (Al Z (Ak (ar Z Z S) ?_)))))))))
     refine Ak (bq Z Z) (Ak (aE Z) (Ak (sF S (dC Z Z)) (Al Z (An (ab Z) (An (ab Z) (An (ar Z Z S) (An (bq Z Z) (An (aE Z) ?_))))))))
     refine An (aj (hpm) Z ⟨A,Ap⟩) ?_
     refine An (cv Z) (Ak (aY Z Z) (Al Z (An (ab Z) (An (ab Z) (An (ar Z Z S) (An (bq Z Z) (An (aE Z) (An (ab Z) (An (ab Z) ?_)))))))))
     refine An (ar Z Z S) (An (bq Z Z) (An (aE Z) (An (sT S (dC Z Z)) (Ak (aY Z Z) (Ao (Ao (aa (aB Z (ae ?_)))))))))
     refine ai (Am Z (Ao (aa (aC (aD (aZ (aD (aD (aZ ?_)))))))))
     refine aD ?_
     refine aJ Try.results21 (.tmp Z A)
   ·have hpm:=lH (l.getD i (0,0)).1 g1 false ⟨(fun h=>by cases h),fun h=>absurd ⟨h.2.2,h.1⟩ c2⟩
    rw [hno c2 (fun h=>⟨(h.good _ hmem).1.trial,(h.good _ hmem).1.1⟩)]
    refine ae (ae (ai (Al Z (Al Z (Ak (aM Z) (Ak (sT S (bp Z Z)) (Ao (aa (aB Z ?_)))))))))
    refine au (aa (ae (aw (ae (ae (aU 28 aR X Y (Al Z (Al Z (Ak (ar Z Z S) ?_)))))))))
    refine Ak (bq Z Z) (Ak (aE Z) (Ak (sF S (dC Z Z)) (Al Z (An (ab Z) (An (ab Z) (An (ar Z Z S) (An (bq Z Z) (An (aE Z) ?_))))))))
    refine An (aj (hpm) Z ⟨A,Ap⟩) ?_
    refine An (cv Z) (Ak (aY Z Z) (Al Z (sg0 Z Z Z Z (sg0 Z Z Z Z (sg0 Z Z Z Z (sg0 Z Z Z Z (sg0 Z Z Z Z (sg0 Z Z Z Z (sg0 Z Z Z Z ?_)))))))))
    refine sg0 Z Z Z Z (sg0 Z Z Z Z (sg0 Z Z Z Z (sg0 Z Z Z Z (Ak (a9 Z Z) (Ao (Ao (aa (aB Z (ae ?_)))))))))
    refine ai (Am Z (Ao (aa (aC (aD (aZ (aD (aD (aZ ?_)))))))))
    refine aD ?_
    refine aJ Try.results21 (.tmp Z A)
  ·rw [hno c1 (fun h=>(h.good _ hmem).2.1)]
   refine ae (ae (ai (Al Z (Al Z (Ak (aM Z) (Ak (sT S (bp Z Z)) (Ao (aa (aB Z ?_)))))))))
   refine au (aa (ae (aw (ae (ae (aU 28 aR X Y (Al Z (Al Z (Ak (ar Z Z S) ?_)))))))))
   refine Ak (bq Z Z) (Ak (aE Z) (Ak (sT S (dC Z Z)) (Al Z (sg0 Z Z Z Z (sg0 Z Z Z Z (sg0 Z Z Z Z (sg0 Z Z Z Z (sg0 Z Z Z Z (sg0 Z Z Z Z ?_)))))))))
   refine sg0 Z Z Z Z (Ak (a9 Z Z) (Al Z (sg0 Z Z Z Z (sg0 Z Z Z Z (sg0 Z Z Z Z (sg0 Z Z Z Z (sg0 Z Z Z Z (sg0 Z Z Z Z (sg0 Z Z Z Z ?_)))))))))
   refine sg0 Z Z Z Z (sg0 Z Z Z Z (sg0 Z Z Z Z (sg0 Z Z Z Z (Ak (a9 Z Z) (Ao (Ao (aa (aB Z (ae ?_)))))))))
   refine ai (Am Z (Ao (aa (aC (aD (aZ (aD (aD (aZ ?_)))))))))
   refine aD ?_
   refine aJ Try.results21 (.tmp Z A)
 ·have hl:i=l.length:=by omega
  rw [hl,List.take_length] at hpr
  rw [uR.2 hpr]
  refine ae (ae (ai (Al Z (Al Z (Ak (aM Z) (Ak (sF S (bp Z Z)) (Ao (aa (az Z ?_)))))))))
  refine a6 (ay (ay (aI (aa (ae (ai (Am Z (Ao (aa ?_)))))))))
  refine aC ?_
  refine aJ Try.results21 (.tmp Z A)
theorem PrimR.res64 {l:List (Nat × Nat)} (h:PrimR l):eZ l:=fun p hp=>by
 obtain ⟨_,h1,h2⟩:=h.good p hp
 omega
theorem PrimR.prod_le {l:List (Nat × Nat)} (h:PrimR l) (hl:l.length≤10):bD l≤2^640:=by
 have:=jj h.res64 l.length (Nat.le_refl _)
 rw [List.take_length] at this
 exact Nat.le_trans this (eM (64*l.length) 640 S)
theorem ov {l:List (Nat × Nat)} (h:PrimR l) (hl:l.length≤10) {p:Nat × Nat} (hp:p∈l):((eW l p:Int)*((fV (eW l p) p.1).2.1 % (p.1:Int))).natAbs≤2^672∧(eu l p).natAbs≤2^704:=by
 obtain ⟨h1,h2,h3⟩:=h.good p hp
 have h4:eW l p≤2^640:=Nat.le_trans (Nat.div_le_self _ _) (h.prod_le hl)
 have hp2:=h1.1
 have h5:=Int.emod_nonneg (fV (eW l p) p.1).2.1 (show (p.1:Int)≠0 by omega)
 have h6:=Int.emod_lt_of_pos (fV (eW l p) p.1).2.1 (show 0<(p.1:Int) by omega)
 have a1:((fV (eW l p) p.1).2.1 % (p.1:Int)).natAbs≤2^32:=by
  have:(2:Nat)^32=4294967296:=by decide
  omega
 have a2:((eW l p:Int)*((fV (eW l p) p.1).2.1 % (p.1:Int))).natAbs≤2^672:=sk 640 32 672 Z (by rw [Int.natAbs_natCast]; exact h4) a1
 have a3:(p.2:Int).natAbs≤2^32:=by
  have:(2:Nat)^32=4294967296:=by decide
  omega
 exact ⟨a2,sk 32 672 704 Z a3 a2⟩
theorem lI {l:List (Nat × Nat)} (h:PrimR l) (hl:l.length≤10) : ∀ i,i≤l.length→(dk l (l.take i) 0).natAbs≤2^(704+i)
 | 0, _ => Nat.zero_le _
 | i + 1, hi => by
  have ih:=lI h hl i S
  unfold dk at *
  rw [cZ _ _ (0,0) hi]
  exact sm (704+i) 704 (704+(i+1)) Z ih (ov h hl (dT hi)).2 (Nat.le_add_right _ _)
theorem o8 {l:List (Nat × Nat)} {i:Nat} (hi:i<l.length):dk l (l.take (i+1)) 0=dk l (l.take i) 0+eu l (l.getD i (0,0)):=by
 unfold dk;rw [cZ _ _ (0,0) hi]
theorem o9 (l:List (Nat × Nat)) (h64:eZ l) (hv:bY [] l=false):Ok Try.prog 8 [cq l] (bZ [aS 0,one (.int .i64 40)]):=by
 have hva:=ng l h64
 rw [hv] at hva
 refine Ok.enter Try.func8 Z Try.ntmps8 Z (fun w O => ?_)
 refine ae (ai ?_)
 refine av (T:=29) Z (ltN Z) (fun b2 => ?_)
 refine Am Z (Ao (aa (ae (ae (ai (Al Z ?_))))))
 refine Ak (aj (hva) Z ⟨A,Ap⟩) ?_
 refine Ak (cv Z) (Ao (aa (aB Z (ae (ai (stB Z Z Z (BuildK.nil (ao 0 Z Z Z Z Z (leN Z) Z (Am Z ?_)))))))))
 refine Ao (aa (aC (aD ?_)))
 refine de Try.results8 (.cellB 0 Z Z Z (dz)) (.tmp Z A)
theorem pa (l:List (Nat × Nat)) (a:Int) (h64:eZ l) (hv:bY [] l=false):Ok Try.prog 14 [cq l,aS a] (one (.bool false)):=by
 have hva:=ng l h64
 rw [hv] at hva
 refine Ok.enter Try.func14 Z Try.ntmps14 Z (fun w O => ?_)
 refine ae (ai ?_)
 refine u6 Z Z (ltN Z) (fun b3 => ?_)
 refine Am Z (Ao (aa (ae (ae (ai (Al Z ?_))))))
 refine Ak (aj (hva) Z ⟨A,Ap⟩) ?_
 refine Ak (cv Z) (Ao (aa (aB Z (ae (ai (Am Z (Ao (aa (aC ?_)))))))))
 refine aD ?_
 refine aJ Try.results14 (.tmp Z A)
theorem qQ (l:List (Nat × Nat)) (h:PrimR l) (hl:l.length≤10):Ok Try.prog 8 [cq l] (bZ [aS (iz l),one (.int .i64 0)]):=by
 have hva:=ng l h.res64
 rw [uR.2 h] at hva
 have hpr:=lj l h.res64 S
 have hple:=h.prod_le hl
 have hpos:=h.pos
 have sp:bU (bD l:Int):=cO (by rw [Int.natAbs_natCast]; exact hple) Y
 rw [← h.sum]
 refine Ok.enter Try.func8 Z Try.ntmps8 Z (fun w O => ?_)
 refine ae (ai ?_)
 refine av (T:=29) Z (ltN Z) (fun b2 => ?_)
 refine Am Z (Ao (aa (ae (ae (ai (Al Z ?_))))))
 refine Ak (aj (hva) Z ⟨A,Ap⟩) ?_
 refine Ak (cv Z) (Ao (aa (az Z (au (aa (ae (ai (Al Z ?_))))))))
 refine Ak (aj (hpr) Z ⟨A,Ap⟩) ?_
 refine stB Z Z Z (BuildK.nil ?_)
 refine av (T:=29) Z (ltN Z) (fun b4 => ?_)
 refine av (T:=29) Z (ltN Z) (fun b5 => ?_)
 refine ao 1 Z Z Z Z Z (leN Z) Z (ao 0 Z Z Z Z Z (leN Z) Z (Ao (aa (ae (ae (ai (Am Z (Ao (aa ?_)))))))))
 refine aw (cl (Γ' := [(0,_),(2,_),(3,_),(4,_),(5,_),(6,_)]) Ag (SubM.refl _) ?_)
 refine bA (σ:=Nat) (Γk := [(0,_),(2,_),(3,_),(4,_),(5,_)]) Ag (fun i => [(6,one (.int .i64 (i:Nat)))]) (fun i M0=>(M0.set 0 (bf b5 29 2 [(0, .agg 2,aS (dk l (l.take i) 0))]))) (fun i=>i≤l.length) (fun i=>l.length - i) (0) (Nat.zero_le _) Ah (.keep (sj) (.keep Aj (.keep Aj (.nil)))) (fun i hi => ?_)
 refine bS (Γ' := [(6,_),(0,_),(2,_),(3,_),(4,_),(5,_)]) (M' := [_,_,_]) Z Z ?_
 by_cases hc:i<l.length
 ·obtain ⟨g1,g2,g3⟩:=h.good _ (dT hc)
  obtain ⟨o1,o2,o3⟩:=h.oth (dT hc)
  obtain ⟨i1,i2⟩:=ov h hl (dT hc)
  have hsl:=lI h hl i S
  have hsu:=o8 (l:=l) hc
  have g0:=g1.1
  have hol:eW l (l.getD i (0,0))≤2^640:=Nat.le_trans (Nat.div_le_self _ _) hple
  have hw1:=gb (l.getD i (0,0)).1 S
  have hw2:=gb (l.getD i (0,0)).2 S
  have spp:bU ((l.getD i (0,0)).1:Int):=fG (n:=64) S Y
  have svv:bU ((l.getD i (0,0)).2:Int):=fG (n:=64) S Y
  have hdm:=dN (bD l:Int) ((l.getD i (0,0)).1:Int) S sp spp
  rw [← Int.natCast_ediv] at hdm
  have hex:=tA (eW l (l.getD i (0,0))) (l.getD i (0,0)).1 o2 S (Nat.lt_of_le_of_lt hol (Nat.pow_lt_pow_right (a:=2) (m:=640) (n:=800) Y Y)) (Nat.lt_of_lt_of_le g2 (eM 31 800 Y))
  obtain ⟨_,e2,_,_⟩:=mi o2 (show 0<(l.getD i (0,0)).1 by omega)
  have hre:=kp (fV (eW l (l.getD i (0,0))) (l.getD i (0,0)).1).2.1 ((l.getD i (0,0)).1:Int) S (cO (n:=64) S Y) spp
  have hz1:=Int.emod_nonneg (fV (eW l (l.getD i (0,0))) (l.getD i (0,0)).1).2.1 (show ((l.getD i (0,0)).1:Int)≠0 by omega)
  have hz2:=Int.emod_lt_of_pos (fV (eW l (l.getD i (0,0))) (l.getD i (0,0)).1).2.1 (show 0<((l.getD i (0,0)).1:Int) by omega)
  have hm1:=eQ (eW l (l.getD i (0,0)):Int) ((fV (eW l (l.getD i (0,0))) (l.getD i (0,0)).1).2.1 % ((l.getD i (0,0)).1:Int)) (cO (n:=640) (by rw [Int.natAbs_natCast]; exact hol) Y).small (cO (n:=64) S Y).small
  have hm2:=eQ ((l.getD i (0,0)).2:Int) _ svv.small (cO i1 Y).small
  have had:=gU (dk l (l.take i) 0) (eu l (l.getD i (0,0))) (cO hsl S).small (cO i2 Y).small
  unfold eu at had hsu
  rw [← hsu] at had
  unfold eW at *
  unfold cq eU
  refine ae (ae (ai (Al Z (Al Z (Ak (aM Z) (Ak (sT S (bp Z Z)) (Ao (aa (aB Z ?_)))))))))
  refine au (aa (ae (aw (ae (ai (Al Z (Al Z (Ak (ar Z Z S) (Ak (bq Z Z) ?_)))))))))
  refine Ak (aE Z) ?_
  refine Ak (aj (hw1) Z ⟨A,Ap⟩) ?_
  refine av (T:=29) Z (ltN Z) (fun b7 => ?_)
  refine ao 0 Z Z Z Z Z (leN Z) Z (Ao (aa (ae (ai (Ak (ak 2 Z Z Z) (Ak (ak 0 Z Z Z) ?_))))))
  refine Ak (aj (hdm) Z ⟨A,A,Ap⟩) ?_
  refine Al Z (Ak (an Z Z) (Ak (an Z Z) (Ak (an Z Z) ?_)))
  refine av (T:=29) Z (ltN Z) (fun b8 => ?_)
  refine av (T:=29) Z (ltN Z) (fun b9 => ?_)
  refine ao 1 Z Z Z Z Z (leN Z) Z (ao 0 Z Z Z Z Z (leN Z) Z (Am Z (Ao (aa (ae (ai (Ak (ak 1 Z Z Z) (Ak (ak 2 Z Z Z) ?_))))))))
  refine Ak (aj (hex) Z ⟨A,A,Ap⟩) ?_
  refine Al Z (Ak (an Z Z) (Ak (an Z Z) (Ak (an Z Z) ?_)))
  refine av (T:=29) Z (ltN Z) (fun b11 => ?_)
  refine av (T:=29) Z (ltN Z) (fun b12 => ?_)
  refine av (T:=29) Z (ltN Z) (fun b13 => ?_)
  refine ao 2 Z Z Z Z Z (leN Z) Z (ao 1 Z Z Z Z Z (leN Z) Z (ao 0 Z Z Z Z Z (leN Z) Z (Ao (aa (aU 14 aR X Y (Ak (ak 6 Z Z Z) (Al Z (Al Z (Ak (ar Z Z S) ?_)))))))))
  refine Ak (bq Z Z) (Ak (aE Z) ?_)
  refine Ak (aj (hw2) Z ⟨A,Ap⟩) ?_
  refine Ak (ak 4 Z Z Z) (Ak (ak 1 Z Z Z) (Ak (ak 5 Z Z Z) ?_))
  refine Ak (aj (hre) Z ⟨A,A,Ap⟩) ?_
  refine Ak (aj (hm1) Z ⟨A,A,Ap⟩) ?_
  refine Ak (aj (hm2) Z ⟨A,A,Ap⟩) ?_
  refine Ak (aj (had) Z ⟨A,A,Ap⟩) ?_
  refine Ao (ao 6 Z Z Z Z Z (leN Z) Z (Ao (aK (aa (ai (Al Z (Ak (bX _ 1 Z Z S) (Am Z (Ao ?_)))))))))
  refine aN (i+1) S S Ah (.drop (.drop (.drop (.drop (.drop (.drop (.keep Aj (.keep Aj (.keep Aj (.nil))))))))))
 ·have he:i=l.length:=by omega
  subst he
  rw [List.take_length]
  have hsl:=lI h hl l.length (Nat.le_refl _)
  rw [List.take_length] at hsl
  have ss:bU (dk l l 0):=cO hsl S
  have hre:=kp (dk l l 0) (bD l:Int) S ss sp
  have hn:=Int.emod_nonneg (dk l l 0) (show (bD l:Int)≠0 by omega)
  have hn2:=Int.emod_lt_of_pos (dk l l 0) (show 0<(bD l:Int) by omega)
  unfold se
  generalize dk l l 0 % (bD l:Int)=x at *
  have hx:x.natAbs≤2^640:=by omega
  have sx:bU x:=cO hx Y
  have hxx:(x+x).natAbs≤2^641:=sm 640 640 641 Z hx hx (Nat.le_refl _)
  have had:=gU x x sx.small sx.small
  have hcm:=rz (x+x) (bD l:Int) (cO hxx Y).small sp.small
  have hsb:=fz x (bD l:Int) sx.small sp.small
  by_cases c:(bD l:Int)<x+x
  ·rw [if_pos c]
   rw [show cF (x+x) (bD l:Int)=1 by unfold cF;rw [if_neg S,if_pos c]] at hcm
   refine ae (ae (ai (Al Z (Al Z (Ak (aM Z) (Ak (sF S (bp Z Z)) (Ao (aa (az Z ?_)))))))))
   refine a6 (ay (ay (aI (aa (ae (ai (Ak (ak 0 Z Z Z) (Ak (ak 1 Z Z Z) ?_))))))))
   refine Ak (aj (hre) Z ⟨A,A,Ap⟩) ?_
   refine ao 0 Z Z Z Z Z (leN Z) Z (Ao (aa (ae (ae (aU 6 aR X Y (Ak (ak 0 Z Z Z) (Ak (ak 0 Z Z Z) ?_)))))))
   refine Ak (aj (had) Z ⟨A,A,Ap⟩) ?_
   refine Ak (ak 1 Z Z Z) ?_
   refine Ak (aj (hcm) Z ⟨A,A,Ap⟩) ?_
   refine Ak (sT S (cT Z Z)) (Ao (Ao (aa (aB Z (ai (Ak (ak 0 Z Z Z) (Ak (ak 1 Z Z Z) ?_)))))))
   refine Ak (aj (hsb) Z ⟨A,A,Ap⟩) ?_
   refine ao 0 Z Z Z Z Z (leN Z) Z (Ao (aa (ae (ai (Ak (ak 0 Z Z Z) (ao 2 Z Z Z Z Z (leN Z) Z (Am Z (Ao (aa ?_)))))))))
   refine aC ?_
   refine de Try.results8 (.cellB 2 Z Z Z A) (.tmp Z A)
  ·rw [if_neg c]
   have hc2:cF (x+x) (bD l:Int)≤0:=by unfold cF;split <;> (try split) <;> omega
   generalize cF (x+x) (bD l:Int)=y at *
   refine ae (ae (ai (Al Z (Al Z (Ak (aM Z) (Ak (sF S (bp Z Z)) (Ao (aa (az Z ?_)))))))))
   refine a6 (ay (ay (aI (aa (ae (ai (Ak (ak 0 Z Z Z) (Ak (ak 1 Z Z Z) ?_))))))))
   refine Ak (aj (hre) Z ⟨A,A,Ap⟩) ?_
   refine ao 0 Z Z Z Z Z (leN Z) Z (Ao (aa (ae (ae (aU 6 aR X Y (Ak (ak 0 Z Z Z) (Ak (ak 0 Z Z Z) ?_)))))))
   refine Ak (aj (had) Z ⟨A,A,Ap⟩) ?_
   refine Ak (ak 1 Z Z Z) ?_
   refine Ak (aj (hcm) Z ⟨A,A,Ap⟩) ?_
   refine Ak (sF S (cT Z Z)) (Ao (Ao (aa (az Z (au (aa (ae (ai (Ak (ak 0 Z Z Z) ?_)))))))))
   refine ao 2 Z Z Z Z Z (leN Z) Z (Am Z (Ao (aa (aC ?_))))
   refine de Try.results8 (.cellB 2 Z Z Z A) (.tmp Z A)
theorem mv (l:List (Nat × Nat)) (a:Int) (h64:eZ l) (ha:bU a):Ok Try.prog 14 [cq l,aS a] (one (.bool (bY [] l && ew l a))):=by
 cases hv:bY [] l with
 | false => rw [Bool.false_and]; exact pa l a h64 hv
 | true => rw [Bool.true_and]; exact rX l a (uR.1 hv).goodR (uR.1 hv).nd ha
theorem mw (l:List (Nat × Nat)) (h64:eZ l) (hl:l.length≤10) : ∃ x e,Ok Try.prog 7 [cq l] (bZ [aS x,one (.int .i64 e)])∧Ok Try.prog 8 [cq l] (bZ [aS x,one (.int .i64 e)]):=by
 cases hv:bY [] l with
 | false => exact ⟨0, 40, eV l h64 hv, o9 l h64 hv⟩
 | true => exact ⟨iz l, 0, gy l h64 S hv, qQ l (uR.1 hv) hl⟩
theorem MadeR.prim {l:List (Nat × Nat)} (h:MadeR l):PrimR l:=uR.1 h.valid
theorem ow {l:List (Nat × Nat)} (a:Int) (h:MadeR l):(bY [] (ofL l a) && ew (ofL l a) a)=true:=by
 have hp : ∀ p∈ofL l a, ∃ q∈l,p=(q.1,(a % (q.1:Int)).toNat):=fun p hp=>by
  unfold ofL at hp
  obtain ⟨q,hq,e⟩:=List.mem_map.1 hp
  exact ⟨q,hq,e.symm⟩
 have hprim:=h.prim
 have hpr:PrimR (ofL l a):=⟨fun p hpm=>by
  obtain ⟨q,hq,rfl⟩:=hp p hpm
  obtain ⟨h1,h2,_⟩:=hprim.good q hq
  have h0:=h1.1
  have:=Int.emod_nonneg a (show (q.1:Int)≠0 by omega)
  have:=Int.emod_lt_of_pos a (show 0<(q.1:Int) by omega)
  exact ⟨h1,h2,by show (a % (q.1:Int)).toNat<q.1;omega⟩,by
  unfold ofL
  rw [List.map_map]
  exact hprim.nd⟩
 rw [uR.2 hpr,Bool.true_and]
 unfold ew
 rw [List.all_eq_true]
 intro p hpm
 obtain ⟨q,hq,rfl⟩:=hp p hpm
 exact decide_eq_true Z
set_option maxRecDepth 100000 in
theorem nh (l raw:List (Nat × Nat)) (x:List Nat) (xn:Bool) (h64:pJ l) (hr64:eZ raw) (hx:aW x):Ok Try.prog 3 [n8 l,cq raw,sh x xn] (one (.bool true)):=by
 have hs:=qM
 have hmd:=qA l 10 h64 Y
 have hm:=tY (l.take 10)
 have hl:(fF (l.take 10)).length≤10:=by have:=qN (l.take 10);rw [List.length_take] at this;omega
 generalize fF (l.take 10)=r at *
 have hnu:=qP x xn 8 hx Y
 have hnl:=tK (l:=x) (n:=xn) (k:=8) hx
 have sa:bU (si x xn 8):=cO (n:=256) (Nat.le_of_lt hnl) Y
 generalize si x xn 8=a at *
 have hof:=tx r a hm.goodR S sa
 have hor:=hm.prim
 have hco:=dB (ofL r a) a (uR.1 (Bool.and_eq_true_iff.1 (ow a hm)).1).res64 sa.small
 rw [ow a hm] at hco
 refine Ok.enter Try.func3 Z Try.ntmps3 Z (fun w O => ?_)
 refine ae (ai ?_)
 refine aO Z Z (ltN Z) (fun b5 => ?_)
 refine Am Z (Ao (aa (ae (ai (Ak (aj (hs) Z trivial) (Am Z (Ao (aa (ae ?_)))))))))
 refine ae (ai (Al Z (Ak (aM Z) (Ak (cT Z Z) (Ao (aa ?_))))))
 by_cases h10:10<raw.length
 ·refine iW Z S (ae (ai (Al Z (Am Z (Ao (aa (aC (aD ?_))))))))
  refine aJ Try.results3 (.tmp Z A)
 ·obtain ⟨x1,e1,c1,d1⟩:=mw r hor.res64 hl
  obtain ⟨x2,e2,c2,d2⟩:=mw raw hr64 S
  have p1:=gw r hor.res64 S
  have q1:=lj r hor.res64 S
  have p2:=gw raw hr64 S
  have q2:=lj raw hr64 S
  have k1:=dB r a hor.res64 sa.small
  have m1:=mv r a hor.res64 sa
  have k2:=dB raw a hr64 sa.small
  have m2:=mv raw a hr64 sa
  have s1:=dx x1 x1
  have s2:=dx x2 x2
  have s3:=dx (bD r:Int) (bD r:Int)
  have s4:=dx (bD raw:Int) (bD raw:Int)
  rw [decide_eq_true Z] at s1 s2 s3 s4
  generalize (bY [] r && ew r a)=b1 at *
  generalize (bY [] raw && ew raw a)=b2 at *
  refine iX Z S (au (aa (ae (ai (Ak (aP 0 Z Z) ?_)))))
  refine Ak (aj (hnu) Z ⟨A,A,Ap⟩) ?_
  refine Al Z ?_
  refine Ak (aj (hmd) Z ⟨A,A,Ap⟩) ?_
  refine Al Z (stS Z Z Z Z (PartsK.cons Z (PartsK.cons Z (PartsK.nil ?_))))
  refine av (T:=29) Z (ltN Z) (fun b8 => ?_)
  refine ao 0 Z Z Z Z Z (leN Z) Z (Am Z (Ao (aa (ae (ae (ai (Am Z (Ao (aa ?_)))))))))
  refine aw (cl (Γ' := [(0,_),(6,_),(7,_),(8,_),(9,_),(10,_)]) Ag (SubM.refl _) ?_)
  refine bA (σ:=Nat) (Γk := [(0,_),(7,_),(8,_),(9,_)]) Ag (fun i => [(10,one (.int .i64 (i:Nat)))]) (fun i M0=>M0) (fun i=>i≤2) (fun i=>2 - i) (0) (Nat.zero_le _) Ah (.keep Aj (.keep Aj (.nil))) (fun i hi => ?_)
  refine bS (Γ' := [(10,_),(0,_),(7,_),(8,_),(9,_)]) (M' := [_,_]) Z Z ?_
  rcases (show i=0∨i=1∨i=2 by omega) with rfl | rfl | rfl
  ·cases b1
   ·refine ae (ae (ai (Al Z (Ak (sT S (bp Z Z)) (Ao (aa (aB Z (au (aa ?_)))))))))
    refine ae (aw (ae (ai (Al Z (Al Z (Ak (ar Z Z S) (Ak (aE Z) ?_)))))))
    refine Ak (aj (c1) Z ⟨A,Ap⟩) ?_
    refine Al Z (Ak (an Z Z) (Ak (an Z Z) ?_))
    refine av (T:=29) Z (ltN Z) (fun b11 => ?_)
    refine ao 0 Z Z Z Z Z (leN Z) Z (Am Z (Ao (aa (ae (ai (Al Z (Al Z (Ak (ar Z Z S) (Ak (aE Z) ?_)))))))))
    refine Ak (aj (d1) Z ⟨A,Ap⟩) ?_
    refine Al Z (Ak (an Z Z) (Ak (an Z Z) ?_))
    refine av (T:=29) Z (ltN Z) (fun b13 => ?_)
    refine ao 0 Z Z Z Z Z (leN Z) Z (Am Z (Ao (aa (ae (aU 4 aR X Y (Al Z ?_))))))
    refine Ak (aj (hmd) Z ⟨A,A,Ap⟩) ?_
    refine Ak (ak 2 Z Z Z) ?_
    refine Ak (aj (hof) Z ⟨A,A,Ap⟩) ?_
    refine Ao (Am Z (Ao (aa (ae (aU 44 aR X Y (Ak (ak 1 Z Z Z) (Ak (ak 0 Z Z Z) ?_)))))))
    refine Ak (aj (s1) Z ⟨A,A,Ap⟩) ?_
    refine Ak (cv Z) (Al Z (An (ab Z) (An (ab Z) (An (sF S (gl Z Z)) (Ak (aY Z Z) (Al Z (An (ab Z) (An (ab Z) (An (ar Z Z S) ?_)))))))))
    refine An (aE Z) ?_
    refine An (aj (p1) Z ⟨A,Ap⟩) ?_
    refine An (ab Z) (An (ab Z) (An (ar Z Z S) (An (aE Z) ?_)))
    refine An (aj (q1) Z ⟨A,Ap⟩) ?_
    refine An (aj (s3) Z ⟨A,A,Ap⟩) ?_
    refine An (cv Z) (Ak (aY Z Z) (Al Z (An (ab Z) (An (ab Z) (An (ar Z Z S) (An (aE Z) (An (ak 2 Z Z Z) ?_)))))))
    refine An (aj (k1) Z ⟨A,A,Ap⟩) ?_
    refine An (ab Z) (An (ab Z) (An (ar Z Z S) (An (aE Z) (An (ak 2 Z Z Z) ?_))))
    refine An (aj (m1) Z ⟨A,A,Ap⟩) ?_
    refine An (fj Z Z) (Ak (aY Z Z) (Al Z (An (ab Z) (An (ak 2 Z Z Z) ?_))))
    refine An (aj (hco) Z ⟨A,A,Ap⟩) ?_
    refine An (cv Z) (Ak (aY Z Z) (Ao (Ao (aa (az Z (au (aK (aa (ai ?_)))))))))
    refine Al Z (Ak (bX _ 1 Z Z S) (Am Z (Ao ?_)))
    refine aN (1) S S Ah (.drop (.drop (.keep Aj (.keep Aj (.nil)))))
   ·refine ae (ae (ai (Al Z (Ak (sT S (bp Z Z)) (Ao (aa (aB Z (au (aa ?_)))))))))
    refine ae (aw (ae (ai (Al Z (Al Z (Ak (ar Z Z S) (Ak (aE Z) ?_)))))))
    refine Ak (aj (c1) Z ⟨A,Ap⟩) ?_
    refine Al Z (Ak (an Z Z) (Ak (an Z Z) ?_))
    refine av (T:=29) Z (ltN Z) (fun b11 => ?_)
    refine ao 0 Z Z Z Z Z (leN Z) Z (Am Z (Ao (aa (ae (ai (Al Z (Al Z (Ak (ar Z Z S) (Ak (aE Z) ?_)))))))))
    refine Ak (aj (d1) Z ⟨A,Ap⟩) ?_
    refine Al Z (Ak (an Z Z) (Ak (an Z Z) ?_))
    refine av (T:=29) Z (ltN Z) (fun b13 => ?_)
    refine ao 0 Z Z Z Z Z (leN Z) Z (Am Z (Ao (aa (ae (aU 4 aR X Y (Al Z ?_))))))
    refine Ak (aj (hmd) Z ⟨A,A,Ap⟩) ?_
    refine Ak (ak 2 Z Z Z) ?_
    refine Ak (aj (hof) Z ⟨A,A,Ap⟩) ?_
    refine Ao (Am Z (Ao (aa (ae (aU 44 aR X Y (Ak (ak 1 Z Z Z) (Ak (ak 0 Z Z Z) ?_)))))))
    refine Ak (aj (s1) Z ⟨A,A,Ap⟩) ?_
    refine Ak (cv Z) (Al Z (An (ab Z) (An (ab Z) (An (sF S (gl Z Z)) (Ak (aY Z Z) (Al Z (An (ab Z) (An (ab Z) (An (ar Z Z S) ?_)))))))))
    refine An (aE Z) ?_
    refine An (aj (p1) Z ⟨A,Ap⟩) ?_
    refine An (ab Z) (An (ab Z) (An (ar Z Z S) (An (aE Z) ?_)))
    refine An (aj (q1) Z ⟨A,Ap⟩) ?_
    refine An (aj (s3) Z ⟨A,A,Ap⟩) ?_
    refine An (cv Z) (Ak (aY Z Z) (Al Z (An (ab Z) (An (ab Z) (An (ar Z Z S) (An (aE Z) (An (ak 2 Z Z Z) ?_)))))))
    refine An (aj (k1) Z ⟨A,A,Ap⟩) ?_
    refine An (ab Z) (An (ab Z) (An (ar Z Z S) (An (aE Z) (An (ak 2 Z Z Z) ?_))))
    refine An (aj (m1) Z ⟨A,A,Ap⟩) ?_
    refine An (fj Z Z) (Ak (aY Z Z) (Al Z (An (ab Z) (An (ak 2 Z Z Z) ?_))))
    refine An (aj (hco) Z ⟨A,A,Ap⟩) ?_
    refine An (cv Z) (Ak (aY Z Z) (Ao (Ao (aa (az Z (au (aK (aa (ai ?_)))))))))
    refine Al Z (Ak (bX _ 1 Z Z S) (Am Z (Ao ?_)))
    refine aN (1) S S Ah (.drop (.drop (.keep Aj (.keep Aj (.nil)))))
  ·cases b2
   ·refine ae (ae (ai (Al Z (Ak (sT S (bp Z Z)) (Ao (aa (aB Z (au (aa ?_)))))))))
    refine ae (aw (ae (ai (Al Z (Al Z (Ak (ar Z Z S) (Ak (aE Z) ?_)))))))
    refine Ak (aj (c2) Z ⟨A,Ap⟩) ?_
    refine Al Z (Ak (an Z Z) (Ak (an Z Z) ?_))
    refine av (T:=29) Z (ltN Z) (fun b11 => ?_)
    refine ao 0 Z Z Z Z Z (leN Z) Z (Am Z (Ao (aa (ae (ai (Al Z (Al Z (Ak (ar Z Z S) (Ak (aE Z) ?_)))))))))
    refine Ak (aj (d2) Z ⟨A,Ap⟩) ?_
    refine Al Z (Ak (an Z Z) (Ak (an Z Z) ?_))
    refine av (T:=29) Z (ltN Z) (fun b13 => ?_)
    refine ao 0 Z Z Z Z Z (leN Z) Z (Am Z (Ao (aa (ae (aU 4 aR X Y (Al Z ?_))))))
    refine Ak (aj (hmd) Z ⟨A,A,Ap⟩) ?_
    refine Ak (ak 2 Z Z Z) ?_
    refine Ak (aj (hof) Z ⟨A,A,Ap⟩) ?_
    refine Ao (Am Z (Ao (aa (ae (aU 44 aR X Y (Ak (ak 1 Z Z Z) (Ak (ak 0 Z Z Z) ?_)))))))
    refine Ak (aj (s2) Z ⟨A,A,Ap⟩) ?_
    refine Ak (cv Z) (Al Z (An (ab Z) (An (ab Z) (An (sF S (gl Z Z)) (Ak (aY Z Z) (Al Z (An (ab Z) (An (ab Z) (An (ar Z Z S) ?_)))))))))
    refine An (aE Z) ?_
    refine An (aj (p2) Z ⟨A,Ap⟩) ?_
    refine An (ab Z) (An (ab Z) (An (ar Z Z S) (An (aE Z) ?_)))
    refine An (aj (q2) Z ⟨A,Ap⟩) ?_
    refine An (aj (s4) Z ⟨A,A,Ap⟩) ?_
    refine An (cv Z) (Ak (aY Z Z) (Al Z (An (ab Z) (An (ab Z) (An (ar Z Z S) (An (aE Z) (An (ak 2 Z Z Z) ?_)))))))
    refine An (aj (k2) Z ⟨A,A,Ap⟩) ?_
    refine An (ab Z) (An (ab Z) (An (ar Z Z S) (An (aE Z) (An (ak 2 Z Z Z) ?_))))
    refine An (aj (m2) Z ⟨A,A,Ap⟩) ?_
    refine An (fj Z Z) (Ak (aY Z Z) (Al Z (An (ab Z) (An (ak 2 Z Z Z) ?_))))
    refine An (aj (hco) Z ⟨A,A,Ap⟩) ?_
    refine An (cv Z) (Ak (aY Z Z) (Ao (Ao (aa (az Z (au (aK (aa (ai ?_)))))))))
    refine Al Z (Ak (bX _ 1 Z Z S) (Am Z (Ao ?_)))
    refine aN (2) S S Ah (.drop (.drop (.keep Aj (.keep Aj (.nil)))))
   ·refine ae (ae (ai (Al Z (Ak (sT S (bp Z Z)) (Ao (aa (aB Z (au (aa ?_)))))))))
    refine ae (aw (ae (ai (Al Z (Al Z (Ak (ar Z Z S) (Ak (aE Z) ?_)))))))
    refine Ak (aj (c2) Z ⟨A,Ap⟩) ?_
    refine Al Z (Ak (an Z Z) (Ak (an Z Z) ?_))
    refine av (T:=29) Z (ltN Z) (fun b11 => ?_)
    refine ao 0 Z Z Z Z Z (leN Z) Z (Am Z (Ao (aa (ae (ai (Al Z (Al Z (Ak (ar Z Z S) (Ak (aE Z) ?_)))))))))
    refine Ak (aj (d2) Z ⟨A,Ap⟩) ?_
    refine Al Z (Ak (an Z Z) (Ak (an Z Z) ?_))
    refine av (T:=29) Z (ltN Z) (fun b13 => ?_)
    refine ao 0 Z Z Z Z Z (leN Z) Z (Am Z (Ao (aa (ae (aU 4 aR X Y (Al Z ?_))))))
    refine Ak (aj (hmd) Z ⟨A,A,Ap⟩) ?_
    refine Ak (ak 2 Z Z Z) ?_
    refine Ak (aj (hof) Z ⟨A,A,Ap⟩) ?_
    refine Ao (Am Z (Ao (aa (ae (aU 44 aR X Y (Ak (ak 1 Z Z Z) (Ak (ak 0 Z Z Z) ?_)))))))
    refine Ak (aj (s2) Z ⟨A,A,Ap⟩) ?_
    refine Ak (cv Z) (Al Z (An (ab Z) (An (ab Z) (An (sF S (gl Z Z)) (Ak (aY Z Z) (Al Z (An (ab Z) (An (ab Z) (An (ar Z Z S) ?_)))))))))
    refine An (aE Z) ?_
    refine An (aj (p2) Z ⟨A,Ap⟩) ?_
    refine An (ab Z) (An (ab Z) (An (ar Z Z S) (An (aE Z) ?_)))
    refine An (aj (q2) Z ⟨A,Ap⟩) ?_
    refine An (aj (s4) Z ⟨A,A,Ap⟩) ?_
    refine An (cv Z) (Ak (aY Z Z) (Al Z (An (ab Z) (An (ab Z) (An (ar Z Z S) (An (aE Z) (An (ak 2 Z Z Z) ?_)))))))
    refine An (aj (k2) Z ⟨A,A,Ap⟩) ?_
    refine An (ab Z) (An (ab Z) (An (ar Z Z S) (An (aE Z) (An (ak 2 Z Z Z) ?_))))
    refine An (aj (m2) Z ⟨A,A,Ap⟩) ?_
    refine An (fj Z Z) (Ak (aY Z Z) (Al Z (An (ab Z) (An (ak 2 Z Z Z) ?_))))
    refine An (aj (hco) Z ⟨A,A,Ap⟩) ?_
    refine An (cv Z) (Ak (aY Z Z) (Ao (Ao (aa (az Z (au (aK (aa (ai ?_)))))))))
    refine Al Z (Ak (bX _ 1 Z Z S) (Am Z (Ao ?_)))
    refine aN (2) S S Ah (.drop (.drop (.keep Aj (.keep Aj (.nil)))))
  ·refine ae (ae (ai (Al Z (Ak (sF S (bp Z Z)) (Ao (aa (az Z (a6 (ay ?_)))))))))
   refine ay (aI (aa (ae (ai (Al Z (Am Z (Ao (aa (aC ?_)))))))))
   refine aJ Try.results3 (.tmp Z A)
end Tor
end
section
namespace Tor
open Go Go.RowKit Go.Proofs
theorem lQ (l raw:List (Nat × Nat)) (x:List Nat) (xn:Bool) (h:(∀ p∈l,(p.1:Int)≤IntKind.max .u8∧(p.2:Int)≤IntKind.max .u32)∧True) (h2:(∀ p∈raw,(p.1:Int)≤IntKind.max .u64∧(p.2:Int)≤IntKind.max .u64)∧True) (h3:(∀ y∈x,y<4294967296)∧True) :
  Ok Try.prog 3 [n8 l,cq raw,sh x xn] (one (.bool true)) :=
 nh l raw x xn (uX h) (fun p hp=>by
  obtain ⟨h1,h4⟩:=h2.1 p hp
  have h1:(p.1:Int)≤18446744073709551615:=h1
  have h4:(p.2:Int)≤18446744073709551615:=h4
  omega) h3.1
end Tor
end
section
set_option maxRecDepth 100000
namespace Tor
open Go Go.RowKit Go.ChangeShapes Go.WideShapes Go.ChangeAt Go.Joins Go.Proofs
theorem tL {H:Type} {enc:TypeId × Value→H} {W:World} {base:Nat} {v:Value} {d:DataW H} {ps:List MemPlace} (hval:Value.okWide Try.prog W .any base 22 v) (hT:DataW.Trod enc Try.prog W 0 (fun _=>true) true 22 v d ps) (hw : ∀ x∈DataW.weights Try.prog 22 d,x≤reachBytes) :
  ∃ (l:List (Nat × Nat)),(n8 l).p v (bN W)∧(∀ p∈l,(p.1:Int)≤IntKind.max .u8∧(p.2:Int)≤IntKind.max .u32)∧True:=by
 have h:=nA (.inr (.inr ⟨_,Try.underlying22⟩)) hval hT hw
 obtain ⟨l,k0,b0⟩:=kQ (t1:=5) (t2:=54) Z Z Try.underlying22 X Try.underlying5 Try.underlying54 X (of_decide_eq_true X) h
 exact ⟨l,k0,b0,Ap⟩
theorem tM {H:Type} {enc:TypeId × Value→H} {W:World} {base:Nat} {v:Value} {d:DataW H} {ps:List MemPlace} (hval:Value.okWide Try.prog W .any base 23 v) (hT:DataW.Trod enc Try.prog W 0 (fun _=>true) true 23 v d ps) (hw : ∀ x∈DataW.weights Try.prog 23 d,x≤reachBytes) :
  ∃ (r:List (Nat × Nat)),(cq r).p v (bN W)∧(∀ p∈r,(p.1:Int)≤IntKind.max .u64∧(p.2:Int)≤IntKind.max .u64)∧True:=by
 have h:=nA (.inr (.inr ⟨_,Try.underlying23⟩)) hval hT hw
 obtain ⟨r,k0,b0⟩:=kQ (t1:=41) (t2:=41) Z Z Try.underlying23 X Try.underlying41 Try.underlying41 X (of_decide_eq_true X) h
 exact ⟨r,k0,b0,Ap⟩
theorem uY {H:Type} {enc:TypeId × Value→H} {W:World} {base:Nat} {v:Value} {d:DataW H} {ps:List MemPlace} (hval:Value.okWide Try.prog W .any base 26 v) (hT:DataW.Trod enc Try.prog W 0 (fun _=>true) true 26 v d ps) (hw : ∀ x∈DataW.weights Try.prog 26 d,x≤reachBytes) :
  ∃ (l:List Nat) (n:Bool),(sh l n).p v (bN W)∧(∀ x∈l,x<4294967296)∧True:=by
 obtain ⟨cs,rfl,h⟩:=sD 8 (ts := [24,4]) X (.inl ⟨_,Try.underlying26⟩) hval hT hw
 obtain ⟨c0,r0,rfl,h0,g0⟩:=h
 obtain ⟨c1,r1,rfl,h1,g1⟩:=g0
 cases g1
 obtain ⟨l,k0,b0⟩:=oM Try.underlying24 Try.underlying54 X (of_decide_eq_true X) h0
 obtain ⟨n,rfl⟩:=qd Try.underlying4 h1
 exact ⟨l,n,tU (φs := [bC l,one (.bool n)]) ⟨k0,sC k0,⟨rfl,rfl,Ap⟩⟩,b0,Ap⟩
end Tor
namespace Go.Proofs.Ytcpilpmonajidaa
open Go.ChangeShapes Go.WideShapes Go.ChangeAt Go.RowKit Go.Joins Tor
theorem crtMatchesReference_own:ownKnob Try.prog.godebug=none:=by kernel_rfl
theorem crtMatchesReference_laid:laidOutB Try.prog=true:=by kernel_rfl
set_option maxRecDepth 100000 in
theorem crtMatchesReference_lifted (os:Os) (started:os.Started) (H:Type) (enc:TypeId × Value→H) :
  ReturnsInHanded {} Try.checked os 3 .any (Rows.crtMatchesReferenceSpec.pre6 enc Try.prog Try.f3 Rows.crtMatchesReferenceRow.domain false) (Rows.crtMatchesReferenceSpec.post enc Try.prog Try.f3 false true false false):=by
 refine returnsInHanded_of_change_sized (C:=Try.checked) crtMatchesReference_own started X Try.func3
  (ChangeSpec.witness6 (enc:=enc) (C:=Try.checked) false ⟨#[], #[.slice none 0 0, .slice none 0 0, .agg #[.slice none 0 0, .bool false]], []⟩ 8 X X X X) ?_
 intro W base args ds gs before hval0 hW hcnd hsz0 _
 have hval : ∀ (j:Nat) t v,Try.f3.params[j]? = some t→args[j]? = some v→Value.okWide Try.prog W .any base t v:=hval0
 have hsz:(DataW.weightsEach Try.prog (Try.f3.params.toList ++ Rows.crtMatchesReferenceSpec.plain.varTypes Try.prog) (ds ++ gs)).all (· ≤ reachBytes)=true:=hsz0
 have hW':=hW
 obtain ⟨p,q,hA0,hV,rfl,hfz,hnd⟩:=hW
 have hA:DataW.TrodAll enc Try.prog W 0 (fun _=>true) true Try.f3.params.toList args.toList ds p:=hA0
 rw [Try.params3] at hA hval hsz
 obtain ⟨v0,v1,v2,d0,d1,d2,p0,p1,p2,rfl,rfl,rfl,h0,h1,h2⟩:=trodAll_three hA
 obtain ⟨rfl,rfl⟩:=trodVars_none hV
 obtain ⟨l_0,x0,y0⟩:=tL (hval 0 22 _ Z Z) h0 (gQ hsz 0 Z Z)
 obtain ⟨r_1,x1,y1⟩:=tM (hval 1 23 _ Z Z) h1 (gQ hsz 1 Z Z)
 obtain ⟨l_2,n_2,x2,y2⟩:=uY (hval 2 26 _ Z Z) h2 (gQ hsz 2 Z Z)
 refine (Ok.outside (W:=W) (args := #[v0,v1,v2]) (lQ l_0 r_1 l_2 n_2 y0 y1 y2) (And.intro x0 (And.intro x1 (And.intro x2 (trivial))))).mono fun e W' ⟨v,he,hv,hw⟩ => ?_
 subst he
 have hv:v = .bool true:=hv
 subst hv
 refine ⟨_,rfl,_, [],_, [],_, [],hW',trodAll_mk1 (shut_bool Try.underlying4 true),trodAll_mk3
  (Below.trod crtMatchesReference_laid X (of_decide_eq_true X) h0 hw (fun x hx=>by simpa using hW'.lt x (by simp only [List.mem_append] at hx ⊢; simp [hx])))
  (Below.trod crtMatchesReference_laid X (of_decide_eq_true X) h1 hw (fun x hx=>by simpa using hW'.lt x (by simp only [List.mem_append] at hx ⊢; simp [hx])))
  (Below.trod crtMatchesReference_laid X (of_decide_eq_true X) h2 hw (fun x hx=>by simpa using hW'.lt x (by simp only [List.mem_append] at hx ⊢; simp [hx]))),rfl,hw.frame _,fun h=>by cases h⟩
theorem crtMatchesReference_holds:Rows.CrtMatchesReferenceSaid :=
 OpenClaim.holds_of_wide 3 Try.f3 Z Z Z Z Z Z Z ⟨rfl,rfl,rfl,rfl,rfl⟩ Z Z Z Z Z X Try.func3 X
  (of_decide_eq_true X) (by unfold Func.isWrapper;first | (rw [if_pos F]; kernel_rfl) | (rw [if_neg F]; exact ⟨rfl,rfl⟩))
  (fun os started H enc _=>crtMatchesReference_lifted os started H enc)
end Go.Proofs.Ytcpilpmonajidaa
namespace Tor
end Tor
end
