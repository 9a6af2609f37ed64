/-
  Theorems that the proofs of laws of this seat rest on.
  No condition.
-/
import Derived.Test.YtpnkmoojhbjdfaaGreatLA8
set_option maxHeartbeats 8000000
set_option linter.unusedVariables false
set_option linter.unusedSimpArgs false
section
namespace Tor
open Go Go.RowKit Go.Proofs
def smB (Cc:Nat):Nat→Nat
 | 0 => 1
 | i + 1 => smB Cc i + Cc + 1
theorem zX {Cc:Nat} {f:Nat→Rat} {n:Nat} (h : ∀ i,i<n→qz Cc (f i)) : ∀ i,i≤n→qz (smB Cc i) (Lin.sm i f)
 | 0, _ => yT 1 (Nat.le_refl _)
 | i + 1, hi => xf (zX h i Y) (h i Y)
attribute [local irreducible] J PJ aJ one slT cv bB bL exT cp eP aW aN slV VT.le Ret bK xO
attribute [local irreducible] aK bD
end Tor
end
section
namespace Tor
open Lin (dZ lZ uZ eh shZ exZ dR et qq cf qF dot gsB gsM sm DD)
def rsQ (m:Nat) (A:Nat→Nat→Rat) (i j k:Nat):Rat:=A i k - sm j (fun t=>gsM m A i t*gsB m A t k)
theorem xN (m:Nat) (A:Nat→Nat→Rat) (i k:Nat):rsQ m A i 0 k=A i k:=by show A i k - 0=A i k;grind
theorem xP (m:Nat) (A:Nat→Nat→Rat) (i j k:Nat):rsQ m A i (j+1) k=rsQ m A i j k - gsM m A i j*gsB m A j k:=by
 show A i k - (sm j _+_)=A i k - sm j _ - _
 grind
theorem pK (m:Nat) (A:Nat→Nat→Rat) (i k:Nat):rsQ m A i i k=gsB m A i k:=by
 rw [Lin.kE]; rfl
def yB:Nat→Nat
 | 0 => 1
 | j + 1 => 14 * yB j + 15
section
variable {m n:Nat} {A:Nat→Nat→Rat}
theorem BB {Cc i m:Nat} (hi:i≤m) (hm:m≤4):smB Cc i≤4*Cc+5:=by
 rcases (show i=0∨i=1∨i=2∨i=3∨i=4 by omega) with rfl | rfl | rfl | rfl | rfl <;> simp only [smB] <;> omega
theorem kH {x y:Nat} {u v:Nat→Rat} (hm:m≤4) (hu : ∀ k,k<m→qz x (u k)) (hv : ∀ k,k<m→qz y (v k)) : ∀ i,i≤m→qz (4*(x+y)+5) (sm i (fun k=>u k*v k)):=fun i hi =>
 (zX (n:=m) (f:=fun k=>u k*v k) (fun k hk=>jz (hu k hk) (hv k hk)) i hi).mono (BB hi hm)
theorem sr (hm:m≤4) (hA : ∀ i k,qz 1 (A i k)) : ∀ j,(∀ t,t<j→qq m A t≠0) → ∀ i k,k<m→qz (yB j) (rsQ m A i j k)
 | 0, _, i, k, _ => by rw [xN]; exact hA i k
 | j + 1, h0, i, k, hk => by
  have ih:=sr hm hA j (fun t ht=>h0 t Y)
  have hB : ∀ k,k<m→qz (yB j) (gsB m A j k):=fun k hk=>by rw [← pK]; exact ih j k hk
  have h1:=kH hm (fun k _=>hA i k) hB m (Nat.le_refl _)
  have h2:=kH hm hB hB m (Nat.le_refl _)
  have h3:=lF h1 h2 (h0 j (Nat.lt_succ_self j))
  rw [xP]
  exact (tt (ih i k hk) (jz h3 (hB k hk))).mono (by show _≤14*yB j+15;omega)
end
end Tor
end
section
namespace Tor
open Go Go.RowKit Go.Proofs
open Lin (dZ lZ uZ eh dR et qq cf qF dot gsB gsM sm)
theorem pL (n x:Nat) (f g:Nat→Rat) (hn:n≤4) (hx:x≤100000000) (hf : ∀ i,i<n→qz x (f i)) (hg : ∀ i,i<n→qz x (g i)):Ok Tryz.prog 49 [slT (.agg 4) n (fun i=>bD (f i)),slT (.agg 4) n (fun i=>bD (g i))] (bD (dot n f g)) :=
 xC n f g x (4*(x+x)+5) (x+x) Y Y Y hf hg (fun i hi=>jz (hf i hi) (hg i hi)) (fun i hi=>kH hn hf hg i hi)
theorem uQ {j:Nat} (hj:j≤4):yB j≤100000:=by
 rcases (show j=0∨j=1∨j=2∨j=3∨j=4 by omega) with rfl | rfl | rfl | rfl | rfl <;> decide
theorem AS {m n i:Nat} {F:Nat→Nat→Int} : VT.le (slT (.agg 4) n (fun k=>bD (F i k:Rat))) (slT (.agg 4) n (fun k=>bD (rsQ m (qF F) i 0 k))):=eo fun k hk=>by
 show VT.le (bD (F i k:Rat)) (bD (rsQ m (qF F) i 0 k))
 rw [xN]
 exact VT.le_refl (bD (F i k:Rat))
theorem AT {m n i:Nat} {A:Nat→Nat→Rat} : VT.le (slT (.agg 4) n (fun k=>bD (rsQ m A i i k))) (slT (.agg 4) n (fun k=>bD (gsB m A i k))):=eo fun k hk=>by
 show VT.le (bD (rsQ m A i i k)) (bD (gsB m A i k))
 rw [pK]
 exact VT.le_refl (bD (gsB m A i k))
theorem uR {sv:Option Nat} {T:TypeId} {L:Lay} {cap i:Nat} {φ:Nat→VT} {x:VT} (hx:VT.le x (φ i)):Own.le (aN sv T L cap (i+1) (fun q=>if q<i then φ q else x)) (aN sv T L cap (i+1) φ):=gk fun q hq=>by
 by_cases c:q<i
 ·rw [if_pos c]; exact VT.le_refl _
 ·rw [if_neg c,show q=i by omega]; exact hx
abbrev grO (b:Bool) (n:Nat) (M:Nat→Nat→Rat) (Q:Nat→Rat):VT:=bL [cond b (grT n M) (one (.slice none 0 0)),cond b (slT (.agg 4) n (fun i=>bD (Q i))) (one (.slice none 0 0)),one (.int .i64 (cond b 0 170))]
attribute [local irreducible] J PJ aJ one slT cv bB bL exT cp eP aW aN slV VT.le Ret bK
attribute [local irreducible] aK bD
set_option maxRecDepth 100000 in
theorem lM (m n:Nat) (F:Nat→Nat→Int) (hn:n≤4) (hm:m≤4) (hF : ∀ i j,lz 1 (F i j)) (b:Bool) (hb:b=true ↔ ∀ i,i<n→qq m (qF F) i≠0) :
  Ok Tryz.prog 12 [cg n m F] (grO b n (gsM m (qF F)) (qq m (qF F))):=by
 have hA : ∀ i k,qz 1 (qF F i k):=fun i k=>oi (Nat.le_refl _) (hF i k)
 have hn':n≤1048576:=by omega
 have hm':m≤1048576:=by omega
 refine Ok.enter Tryz.func12 Z Tryz.ntmps12 Z (fun w O => ?_)
 refine ae (aj ?_)
 refine aQ Z Z (ltN Z) (fun b1 => ?_)
 refine Cn Z (Cn Z (Cn Z (Cp (aa (ae (aj (kb (n:=0) Z Z Z Z Z ?_)))))))
 refine PartsK.nil (fun bl => ?_)
 refine kb (n:=0) Z Z Z Z Z ?_
 refine PartsK.nil (fun bl => ?_)
 refine kb (n:=0) Z Z Z Z Z ?_
 refine PartsK.nil (fun bl => ?_)
 refine Cn Z (Cn Z (Cn Z (Cp (aa (ae (ae (aj (Cn Z (Cp ?_)))))))))
 refine aa (av ?_)
 rename_i b5 b6
 have e0 : ∀ (b':Nat) (T:TypeId) (L:Lay) (χ:Nat→VT) (φ:Nat→VT),Own.le (aN (some b') T L 0 0 χ) (aN (some b') T L 0 0 φ):=fun b' T L χ φ=>bJ fun q hq=>absurd hq (Nat.not_lt_zero q)
 refine cx (Γ' := [(1,_),(2,_),(3,_),(4,_),(5,_),(6,_),(7,_),(8,_)]) Cg (SubM.refl _) ?_
 refine bE (σ:=Nat × (Option Nat × Nat) × (Option Nat × Nat) × (Option Nat × Nat)) (Γk := [(1,_)]) Cg (fun s => [(8,one (.int .i64 (s.1:Nat))),(5,one (slV s.2.1.1 s.1 s.2.1.2)),(6,one (slV s.2.2.1.1 s.1 s.2.2.1.2)),(7,one (slV s.2.2.2.1 s.1 s.2.2.2.2))]) (fun s M0=>(((M0.set 0 (aN s.2.2.2.1 45 (.agg 4) s.2.2.2.2 s.1 (fun q=>bD (qq m (qF F) q)))).set 1 (aN s.2.2.1.1 31 .one s.2.2.1.2 s.1 (fun q=>slT (.agg 4) q (fun j=>bD (gsM m (qF F) q j))))).set 2 (aN s.2.1.1 31 .one s.2.1.2 s.1 (fun q=>slT (.agg 4) m (fun k=>bD (gsB m (qF F) q k)))))) (fun s=>s.1≤n ∧ ∀ t,t<s.1→qq m (qF F) t≠0) (fun s=>n - s.1) ((0,(some b5,0),(some b6,0),(some bl,0))) (⟨Nat.zero_le _,fun t ht=>absurd ht (Nat.not_lt_zero t)⟩) Ch (.keep (e0 _ _ _ _ _) (.keep (e0 _ _ _ _ _) (.keep (e0 _ _ _ _ _) (.keep Ck (.nil))))) (fun s hs => ?_)
 refine bY (Γ' := [(8,_),(5,_),(6,_),(7,_),(1,_)]) (M' := [_,_,_,_]) Z Z ?_
 obtain ⟨i,⟨svc,cpc⟩,⟨svm,cpm⟩,⟨svq,cpq⟩⟩:=s
 dsimp only at hs ⊢
 obtain ⟨hi,h0⟩:=hs
 by_cases hin:i<n
 ·have hrat:=jJ m (F i) hm'
  unfold fY at hrat
  dsimp only at hrat
  refine ae (ae (aj (Cm Z (Cl (ai Z) (Cl (ak 3 Z Z Z) (Cl (sT Y (a9 Z Z)) (Cp (aa (aI Z ?_)))))))))
  refine aw (aa (ae (av (ae (aj (Cl (ai Z) (Cl (ak 3 Z Z Z) (Cm Z (Cl (ax Z Z Y) ?_)))))))))
  refine Cl (aG Z) ?_
  refine Cl (am (hrat) Z ⟨H,Cq⟩) ?_
  refine Cn Z (Cp (aa (ae (aj (Cm Z (kb (n:=0) Z Z Z Z Z ?_))))))
  refine PartsK.nil (fun bl => ?_)
  refine Cn Z (Cn Z (Cp (aa (ae (ae (aj (Cn Z (Cp (aa ?_)))))))))
  refine av (cx (Γ' := [(1,_),(5,_),(6,_),(7,_),(8,_),(9,_),(10,_),(11,_),(12,_)]) Cg (SubM.refl _) ?_)
  refine bE (σ:=Nat × Option Nat × Nat) (Γk := [(1,_),(5,_),(6,_),(7,_),(8,_),(9,_)]) Cg (fun s => [(12,one (.int .i64 (s.1:Nat))),(11,one (slV s.2.1 s.1 s.2.2)),(10,slT (.agg 4) m (fun k=>bD (rsQ m (qF F) i s.1 k)))]) (fun s M0=>(M0.set 0 (aN s.2.1 45 (.agg 4) s.2.2 s.1 (fun q=>bD (gsM m (qF F) i q))))) (fun s=>s.1≤i) (fun s=>i - s.1) ((0,some bl,0)) (Nat.zero_le _) (fp.cons Z H (fp.cons Z H (fp.cons Z AS fp.nil))) (.keep (e0 _ _ _ _ _) (.keep Ck (.keep Ck (.keep Ck (.keep Ck (.nil)))))) (fun s hs => ?_)
  refine bY (Γ' := [(12,_),(11,_),(10,_),(1,_),(5,_),(6,_),(7,_),(8,_),(9,_)]) (M' := [_,_,_,_,_]) Z Z ?_
  obtain ⟨j,svl,cpl⟩:=s
  dsimp only at hs ⊢
  by_cases hji:j<i
  ·have hB : ∀ k,k<m→qz 100000 (gsB m (qF F) j k):=fun k hk=>by rw [← pK]; exact (sr hm hA j (fun t ht=>h0 t Y) j k hk).mono (uQ Y)
   have hA' : ∀ k,k<m→qz 100000 (qF F i k):=fun k hk=>(hA i k).mono W
   have hpr:=pL m 100000 (fun k=>(F i k:Rat)) (gsB m (qF F) j) hm W hA' hB
   have z1:qz 800005 (dot m (qF F i) (gsB m (qF F) j)):=kH hm hA' hB m (Nat.le_refl _)
   have z2:qz 800005 (qq m (qF F) j):=kH hm hB hB m (Nat.le_refl _)
   have z3:qz 1600010 (gsM m (qF F) i j):=lF z1 z2 (h0 j hji)
   have hov:Ok Tryz.prog 48 [bD (dot m (qF F i) (gsB m (qF F) j)),bD (qq m (qF F) j)] (bD (gsM m (qF F) i j)):=pB _ _ 800005 800005 z1 z2 W (h0 j hji)
   refine jO (i:=3) (F:=svc=none→i=0) Z (fun g h hp he=>fh hp he) (fun hsv => ?_)
   obtain ⟨bc,rfl⟩:=e9 hsv Y
   refine jO (i:=1) (F:=svq=none→i=0) Z (fun g h hp he=>fh hp he) (fun hsv => ?_)
   obtain ⟨bq,rfl⟩:=e9 hsv Y
   refine ae (ae (aj (Cm Z (Cm Z (Cl (sT Y (a9 Z Z)) (Cp (aa (aI Z (aw ?_)))))))))
   refine aa (ae (av (ae ?_)))
   refine dN aU X X ?_
   refine ux (fun B=>ab Z) Z Z ?_
   refine ux (fun B=>ab Z) Z Z ?_
   refine ux (fun B=>ab Z) Z Z ?_
   refine ux (fun B=>an Z Z Y) Z Z ?_
   refine ux (fun B=>bn 3 Z Z Y) Z Z ?_
   refine uxk (hpr) Z ⟨H,H,Cq⟩ Z ?_
   refine ux (fun B=>ab Z) Z Z ?_
   refine ux (fun B=>ab Z) Z Z ?_
   refine ux (fun B=>an Z Z Y) Z Z ?_
   refine ux (fun B=>bn 1 Z Z Y) Z Z ?_
   refine uxk (hov) Z ⟨H,H,Cq⟩ Z ?_
   refine ua Z (us Z ?_)
   refine RunU.nil (fun γ => ?_)
   refine cC (M' := [_,_,_,_,_,_]) Z (aa (ae (aj (kb (n:=0) Z Z Z Z Z ?_))))
   refine PartsK.nil (fun bl => ?_)
   refine Cn Z (Cp (aa (ae (ae (aj (Cn Z (Cp (aa (av ?_)))))))))
   refine cx (Γ' := [(1,_),(5,_),(6,_),(7,_),(8,_),(9,_),(10,_),(11,_),(12,_),(13,_),(14,_),(15,_)]) Cg (SubM.refl _) ?_
   refine bE (σ:=Nat × Option Nat × Nat) (Γk := [(1,_),(5,_),(6,_),(7,_),(8,_),(9,_),(10,_),(11,_),(12,_),(13,_)]) Cg (fun s => [(15,one (.int .i64 (s.1:Nat))),(14,one (slV s.2.1 s.1 s.2.2))]) (fun s M0=>(M0.set 0 (aN s.2.1 45 (.agg 4) s.2.2 s.1 (fun q=>bD (rsQ m (qF F) i (j+1) q))))) (fun s=>s.1≤m) (fun s=>m - s.1) ((0,some bl,0)) (Nat.zero_le _) Ch (.keep (e0 _ _ _ _ _) (.keep Ck (.keep Ck (.keep Ck (.keep Ck (.keep Ck (.keep Ck (.nil)))))))) (fun s hs => ?_)
   refine bY (Γ' := [(15,_),(14,_),(1,_),(5,_),(6,_),(7,_),(8,_),(9,_),(10,_),(11,_),(12,_),(13,_)]) (M' := [_,_,_,_,_,_,_]) Z Z ?_
   obtain ⟨k,svn,cpn⟩:=s
   dsimp only at hs ⊢
   by_cases hkm:k<m
   ·have hmu:=jB (gsM m (qF F) i j) (gsB m (qF F) j k) 1600010 100000 z3 (hB k hkm) W
    have z4:qz 100000 (rsQ m (qF F) i j k):=(sr hm hA j (fun t ht=>h0 t Y) i k hkm).mono (uQ Y)
    have hsu:=ol (rsQ m (qF F) i j k) (gsM m (qF F) i j*gsB m (qF F) j k) 100000 1700010 z4 (jz z3 (hB k hkm)) W
    rw [← xP] at hsu
    refine ae (ae (aj (Cm Z (Cm Z (Cl (aV Z) (Cl (sT Y (a9 Z Z)) (Cp (aa (aI Z ?_)))))))))
    refine aw (aa (ae (av (kS 16 16 aU X W (Cm Z (Cm Z (Cm Z (Cl (ax Z Z Y) (Cl (aG Z) ?_)))))))))
    refine Cl (ak 1 Z Z Z) (Cm Z (Cm Z (Cl (an Z Z Y) (Cl (bn 5 Z Z Y) (Cm Z (Cl (ax Z Z Y) (Cl (aG Z) ?_)))))))
    refine Cl (am (hmu) Z ⟨H,H,Cq⟩) ?_
    refine Cl (am (hsu) Z ⟨H,H,Cq⟩) ?_
    refine iX Z Z Z Z (Cp ?_)
    (refine cV 0 Z Z Z (leN Z) ?_ ?_ Z (ltN Z) (fun sv73 cap73 => ?_);omega;omega)
    refine Cn Z (Cp (aA (aa (aj (Cm Z (Cl (bC _ 1 Z Z Y) (Cn Z (Cp ?_))))))))
    refine aS ((k+1,sv73,cap73)) (hkm) Y Ch (.keep (jI (h:=fun q=>rsQ m (qF F) i (j+1) q) Z) (.keep Ck (.keep Ck (.keep Ck (.keep Ck (.keep Ck (.keep Ck (.nil))))))))
   ·have he:k=m:=by omega
    subst he
    refine ae (ae (aj (Cm Z (Cm Z (Cl (aV Z) (Cl (sF Y (a9 Z Z)) (Cp (aa (az Z ?_)))))))))
    refine aX (au (au (aC (aa (ae (q9 (t:=14) (i:=0) Z Z (aj (Cm Z (Cn Z ?_)))))))))
    refine Cp (aa (aj (Cm Z (Cl (ak 0 Z Z Z) (iX Z Z Z Z ?_)))))
    (refine cV 1 Z Z Z (leN Z) ?_ ?_ Z (ltN Z) (fun sv78 cap78 => ?_);omega;omega)
    refine Cn Z (Cp (aA (aa (aj (Cm Z (Cl (bC _ 1 Z Z Y) (Cn Z (Cp ?_))))))))
    refine aS ((j+1,sv78,cap78)) (hji) Y Ch (.drop (.keep (jI (h:=fun q=>gsM k (qF F) i q) Z) (.keep Ck (.keep Ck (.keep Ck (.keep Ck (.nil)))))))
  ·have he:i=j:=by omega
   subst he
   have hB : ∀ k,k<m→qz 100000 (gsB m (qF F) i k):=fun k hk=>by rw [← pK]; exact (sr hm hA i h0 i k hk).mono (uQ Y)
   have hpr:Ok Tryz.prog 49 [slT (.agg 4) m (fun k=>bD (gsB m (qF F) i k)),slT (.agg 4) m (fun k=>bD (gsB m (qF F) i k))] (bD (qq m (qF F) i)):=pL m 100000 (gsB m (qF F) i) (gsB m (qF F) i) hm W hB hB
   have hsg:=mj (qq m (qF F) i)
   refine ae (ae (aj (Cm Z (Cm Z (Cl (sF Y (a9 Z Z)) (Cp (aa (az Z (aX ?_)))))))))
   refine au (au (aC (aa (ae (q9 (t:=11) (i:=0) Z Z ?_)))))
   refine nm (t:=10) (ψ:=slT (.agg 4) m (fun k=>bD (gsB m (qF F) i k))) Z (AT) ?_
   by_cases hz:qq m (qF F) i=0
   ·rw [show dQ (qq m (qF F) i).num=0 by rw [hz]; rfl] at hsg
    obtain rfl:b=false:=by cases b;rfl;exact absurd hz (hb.1 Z i hin)
    refine aj (Cm Z (Cm Z ?_))
    refine Cl (am (hpr) Z ⟨H,H,Cq⟩) ?_
    refine aT (T:=45) Z Z Z (fun b16 => ?_)
    refine dF 0 Z Z Z Z (Cp (aa (ae (ae (aj (Cl (ak 0 Z Z Z) ?_))))))
    refine Cl (am (hsg) Z ⟨H,Cq⟩) ?_
    refine Cl (sT Y (cN Z Z)) (Cp (aa (aI Z (ae (aj (Cn Z (Cn Z (Cn Z (Cp ?_)))))))))
    refine aa (aD (aE (be (aE (aE (be (aE ?_)))))))
    refine iy Tryz.results12 (.tmp Z H) (.tmp Z H) (.tmp Z H)
   ·have hne : ¬ dQ (qq m (qF F) i).num=0:=fun h=>hz (Rat.num_eq_zero.1 ((fK _).1 h))
    refine aj (Cm Z (Cm Z ?_))
    refine Cl (am (hpr) Z ⟨H,H,Cq⟩) ?_
    refine aT (T:=45) Z Z Z (fun b16 => ?_)
    refine dF 0 Z Z Z Z (Cp (aa (ae (ae (aj (Cl (ak 0 Z Z Z) ?_))))))
    refine Cl (am (hsg) Z ⟨H,Cq⟩) ?_
    refine Cl (sF (by assumption) (cN Z Z)) (Cp (aa (az Z (aw (aa (ae (aj (Cm Z (Cm Z ?_)))))))))
    refine iX Z Z Z Z ?_
    (refine cV 3 Z Z Z (leN Z) ?_ ?_ Z (ltN Z) (fun sv88 cap88 => ?_);omega;omega)
    refine Cn Z (Cp (aa (ae (aj (Cm Z (Cm Z (iX Z Z Z Z ?_)))))))
    (refine cV 2 Z Z Z (leN Z) ?_ ?_ Z (ltN Z) (fun sv92 cap92 => ?_);omega;omega)
    refine Cn Z (Cp (aa (aj (Cm Z (Cl (ak 0 Z Z Z) (iX Z Z Z Z ?_))))))
    (refine cV 1 Z Z Z (leN Z) ?_ ?_ Z (ltN Z) (fun sv96 cap96 => ?_);omega;omega)
    refine Cn Z (Cp (aA (aa (aj (Cm Z (Cl (bC _ 1 Z Z Y) (Cn Z (Cp ?_))))))))
    refine aS ((i+1,(sv88,cap88),(sv92,cap92),(sv96,cap96))) (⟨hin,fun t ht=>by rcases Nat.lt_or_eq_of_le (Nat.lt_succ_iff.1 ht) with h | h;exact h0 t h;rw [h]; exact hz⟩) Y Ch (.drop (.keep (jI (h:=fun q=>qq m (qF F) q) Z) (.keep (uR (φ:=fun q=>slT (.agg 4) q (fun j=>bD (gsM m (qF F) q j))) H) (.keep (uR (φ:=fun q=>slT (.agg 4) m (fun k=>bD (gsB m (qF F) q k))) H) (.keep Ck (.nil))))))
 ·have he:n=i:=by omega
  subst he
  obtain rfl:b=true:=hb.2 h0
  refine ae (ae (aj (Cm Z (Cl (ai Z) (Cl (ak 3 Z Z Z) (Cl (sF Y (a9 Z Z)) (Cp (aa (az Z ?_)))))))))
  refine aX (au (au (aC (aa (ae (aj (Cm Z (Cm Z (Cn Z ?_)))))))))
  refine Cn Z (Cn Z (Cp (aa (aD (cJ (t:=3) (i:=0) Z Z (cJ (t:=2) (i:=0) Z Z ?_))))))
  refine iy Tryz.results12 (.tmp Z H) (.tmp Z H) (.tmp Z H)
end Tor
end
section
namespace Tor
open Go Go.RowKit Go.Proofs
open Lin (dZ lZ uZ eh dR et qq cf qF dot gsB gsM sm)
def oZ (p q:Rat):Int:=if p<q then -1 else if q<p then 1 else 0
theorem uS (p q:Rat):eU (p.num*q.den) (q.num*p.den)=oZ p q:=by
 unfold eU oZ
 by_cases h:p<q
 ·rw [if_pos h,if_pos ((Rat.lt_iff _ _).1 h)]
 ·rw [if_neg h,if_neg (fun k=>h ((Rat.lt_iff _ _).2 k))]
  by_cases h2:q<p
  ·rw [if_pos h2,if_pos ((Rat.lt_iff _ _).1 h2)]
  ·rw [if_neg h2,if_neg (fun k=>h2 ((Rat.lt_iff _ _).2 k))]
theorem zr {p q:Rat} (h:q<p):oZ p q=1:=by unfold oZ;rw [if_neg (Rat.not_lt.2 (Rat.le_of_lt h)),if_pos h]
theorem zt {p q:Rat} (h:p≤q) : ¬ 0<oZ p q:=by
 unfold oZ;rw [if_neg (c:=q<p) (Rat.not_lt.2 h)]; split <;> decide
theorem uT {p q:Rat} (h:p<q):oZ p q = -1:=by unfold oZ;rw [if_pos h]
theorem uU {p q:Rat} (h:q≤p) : ¬ oZ p q<0:=by
 unfold oZ;rw [if_neg (Rat.not_lt.2 h)]; split <;> decide
structure RedQ (n:Nat) (M:Nat→Nat→Rat) (Q:Nat→Rat):Prop where
 up : ∀ i j,i<n→j<i→M i j≤1 / 2
 dn : ∀ i j,i<n→j<i → -(1 / 2)≤M i j
 or : ∀ p,p+1<n→(3 / 4 - M (p+1) p*M (p+1) p)*Q p≤Q (p+1)
theorem lz1 {x:Int} (h:x.natAbs<2^32):lz 1 x:=cy (k:=1) (by rw [Nat.pow_one]; exact h)
theorem xQ:Rat.divInt 1 2=1 / 2:=by decide +kernel
theorem zY:Rat.divInt 3 4=3 / 4:=by decide +kernel
attribute [local irreducible] J PJ aJ one slT cv bB bL exT cp eP aW aN slV VT.le Ret bK
attribute [local irreducible] aK bD
set_option maxRecDepth 100000 in
theorem mL (m n:Nat) (F:Nat→Nat→Int) (hn:n≤4) (hm:m≤4) (hF : ∀ i j,lz 1 (F i j)) (v:Bool) (hv:v=true↔(∀ i,i<n→qq m (qF F) i≠0)∧RedQ n (gsM m (qF F)) (qq m (qF F))) :
  Ok Tryz.prog 16 [cg n m F] (one (.bool v)):=by
 have hA : ∀ i k,qz 1 (qF F i k):=fun i k=>oi (Nat.le_refl _) (hF i k)
 by_cases h0 : ∀ i,i<n→qq m (qF F) i≠0
 ·have hg:=lM m n F hn hm hF true ⟨fun _=>h0,fun _=>rfl⟩
  simp only [grO,cond_true] at hg
  have hB : ∀ j,j<n → ∀ k,k<m→qz 100000 (gsB m (qF F) j k):=fun j hj k hk=>by rw [← pK]; exact (sr hm hA j (fun t ht=>h0 t Y) j k hk).mono (uQ Y)
  have zq : ∀ i,i<n→qz 800005 (qq m (qF F) i):=fun i hi=>kH (x:=100000) (y:=100000) hm (hB i hi) (hB i hi) m (Nat.le_refl _)
  have zm : ∀ i j,i<n→j<i→qz 1600010 (gsM m (qF F) i j):=fun i j hi hj=>lF (n:=800005) (m:=800005) (kH (x:=100000) (y:=100000) hm (fun k _=>(hA i k).mono W) (hB j Y) m (Nat.le_refl _)) (zq j Y) (h0 j Y)
  have hmd:=ml 1 2 W W W W W
  have hmq:=ml 3 4 W W W W W
  rw [xQ] at hmd
  rw [zY] at hmq
  have zh:qz 1 (1 / 2):=by rw [← xQ]; exact oh (n:=1) (lz1 S) (lz1 S) W
  have z34:qz 1 (3 / 4):=by rw [← zY]; exact oh (n:=1) (lz1 S) (lz1 S) W
  have hng:=r4 (1 / 2) (zh.1.small (n:=1) W)
  refine Ok.enter Tryz.func16 Z Tryz.ntmps16 Z (fun w O => ?_)
  refine ae (aj ?_)
  refine aQ Z Z (ltN Z) (fun b1 => ?_)
  refine Cn Z (Cp (aa (ae (aj (Cl (aL 0 Z Z) ?_)))))
  refine Cl (am (hg) Z ⟨H,Cq⟩) ?_
  refine Cm Z (Cl (ar Z Z) (Cl (ar Z Z) (Cl (ar Z Z) (Cn Z (Cn Z (Cn Z (Cp (aa (ae ?_)))))))))
  refine ae (aj (Cm Z (Cl (sF Y (c8 Z Z)) (Cp (aa (az Z (aw (aa (ae ?_)))))))))
  refine aj ?_
  refine Cl (am (hmd) Z ⟨H,H,Cq⟩) ?_
  refine aT (T:=45) Z Z Z (fun b6 => ?_)
  refine dF 0 Z Z Z Z (Cp (aa (ae (ae (aj (Cn Z (Cp (aa (av ?_)))))))))
  refine cx (Γ' := [(1,_),(2,_),(3,_),(4,_),(6,_),(7,_)]) Cg (SubM.refl _) ?_
  refine bE (σ:=Nat) (Γk := [(1,_),(3,_),(4,_),(6,_)]) Cg (fun i => [(7,one (.int .i64 (i:Nat)))]) (fun i M0=>M0) (fun i=>i≤n∧RedQ i (gsM m (qF F)) (qq m (qF F))) (fun i=>n - i) (0) (⟨Nat.zero_le _,⟨fun i j h=>absurd h (Nat.not_lt_zero _),fun i j h=>absurd h (Nat.not_lt_zero _),fun i h=>absurd h (Nat.not_lt_zero _)⟩⟩) Ch (.keep Ck (.keep Ck (.nil))) (fun i hi => ?_)
  refine bY (Γ' := [(7,_),(1,_),(3,_),(4,_),(6,_)]) (M' := [_,_]) Z Z ?_
  obtain ⟨hi',hr⟩:=hi
  by_cases hin:i<n
  ·refine ae (ae (aj (Cm Z (Cl (ai Z) (Cl (ak 1 Z Z Z) (Cl (sT Y (a9 Z Z)) (Cp (aa (aI Z ?_)))))))))
   refine aw (aa (ae (av (ae (ae (aj (Cn Z (Cp (aa ?_)))))))))
   refine av (cx (Γ' := [(1,_),(3,_),(4,_),(6,_),(7,_),(8,_)]) Cg (SubM.refl _) ?_)
   refine bE (σ:=Nat) (Γk := [(1,_),(3,_),(4,_),(6,_),(7,_)]) Cg (fun j => [(8,one (.int .i64 (j:Nat)))]) (fun j M0=>M0) (fun j=>j≤i ∧ ∀ t,t<j→gsM m (qF F) i t≤1 / 2 ∧ -(1 / 2)≤gsM m (qF F) i t) (fun j=>i - j) (0) (⟨Nat.zero_le _,fun t h=>absurd h (Nat.not_lt_zero _)⟩) Ch (.keep Ck (.keep Ck (.nil))) (fun j hj => ?_)
   refine bY (Γ' := [(8,_),(1,_),(3,_),(4,_),(6,_),(7,_)]) (M' := [_,_]) Z Z ?_
   obtain ⟨hj',hs⟩:=hj
   by_cases hji:j<i
   ·have hc1:=oB (gsM m (qF F) i j) (1 / 2) 1600010 1 (zm i j hin hji) zh W
    have hc2:=oB (gsM m (qF F) i j) (-(1 / 2)) 1600010 1 (zm i j hin hji) (tr zh) W
    rw [uS] at hc1 hc2
    by_cases h1:gsM m (qF F) i j≤1 / 2
    ·have k1:=zt h1
     by_cases h2 : -(1 / 2)≤gsM m (qF F) i j
     ·have k2:=uU h2
      refine ae (ae (aj (Cm Z (Cm Z (Cl (sT Y (a9 Z Z)) (Cp (aa (aI Z (aw ?_)))))))))
      refine aa (ae (av (ae (a4 23 aU X W (Cm Z (Cm Z (Cl (ax Z Z Y) (Cl (aG Z) (Cm Z ?_)))))))))
      refine Cl (ax Z Z Y) (Cl (aG Z) (Cl (ak 0 Z Z Z) ?_))
      refine Cl (am (hc1) Z ⟨H,H,Cq⟩) ?_
      refine Cl (sF (by assumption) (ek Z Z)) (Cm Z (Co (ab Z) (Co (ab Z) (Co (ax Z Z Y) (Co (aG Z) (Co (ab Z) (Co (ax Z Z Y) (Co (aG Z) (Co (ak 0 Z Z Z) ?_)))))))))
      refine Co (am (hng) Z ⟨H,Cq⟩) ?_
      refine Co (am (hc2) Z ⟨H,H,Cq⟩) ?_
      refine Co (sF (by assumption) (a9 Z Z)) (Cl (bj Z Z) (Cp (Cp (aa (az Z (aw (aA (aa (aj ?_)))))))))
      refine Cm Z (Cl (bC _ 1 Z Z Y) (Cn Z (Cp ?_)))
      refine aS (j+1) (⟨hji,fun t ht=>by rcases Nat.lt_or_eq_of_le (Nat.lt_succ_iff.1 ht) with h | h;exact hs t h;rw [h]; exact ⟨h1,h2⟩⟩) Y Ch (.keep Ck (.keep Ck (.nil)))
     ·rw [uT (Rat.not_le.1 h2)] at hc2
      obtain rfl:v=false:=by cases v;rfl;exact absurd ((hv.1 Z).2.dn i j hin hji) h2
      refine ae (ae (aj (Cm Z (Cm Z (Cl (sT Y (a9 Z Z)) (Cp (aa (aI Z (aw ?_)))))))))
      refine aa (ae (av (ae (a4 23 aU X W (Cm Z (Cm Z (Cl (ax Z Z Y) (Cl (aG Z) (Cm Z ?_)))))))))
      refine Cl (ax Z Z Y) (Cl (aG Z) (Cl (ak 0 Z Z Z) ?_))
      refine Cl (am (hc1) Z ⟨H,H,Cq⟩) ?_
      refine Cl (sF (by assumption) (ek Z Z)) (Cm Z (Co (ab Z) (Co (ab Z) (Co (ax Z Z Y) (Co (aG Z) (Co (ab Z) (Co (ax Z Z Y) (Co (aG Z) (Co (ak 0 Z Z Z) ?_)))))))))
      refine Co (am (hng) Z ⟨H,Cq⟩) ?_
      refine Co (am (hc2) Z ⟨H,H,Cq⟩) ?_
      refine Co (sT Y (a9 Z Z)) (Cl (bj Z Z) (Cp (Cp (aa (aI Z (ae (aj (Cn Z (Cp ?_)))))))))
      refine aa (aD (be (aE (aE (be (aE (be (aE (aE ?_)))))))))
      refine be (aE ?_)
      refine aO Tryz.results16 (.tmp Z H)
    ·rw [zr (Rat.not_le.1 h1)] at hc1
     obtain rfl:v=false:=by cases v;rfl;exact absurd ((hv.1 Z).2.up i j hin hji) h1
     refine ae (ae (aj (Cm Z (Cm Z (Cl (sT Y (a9 Z Z)) (Cp (aa (aI Z (aw ?_)))))))))
     refine aa (ae (av (ae (a4 23 aU X W (Cm Z (Cm Z (Cl (ax Z Z Y) (Cl (aG Z) (Cm Z ?_)))))))))
     refine Cl (ax Z Z Y) (Cl (aG Z) (Cl (ak 0 Z Z Z) ?_))
     refine Cl (am (hc1) Z ⟨H,H,Cq⟩) ?_
     refine Cl (sT Y (ek Z Z)) (Cm Z (sn0 Z Z Z Z Z (sn0 Z Z Z Z Z (sn0 Z Z Z Z Z (sn0 Z Z Z Z Z (sn0 Z Z Z Z Z (sn0 Z Z Z Z Z (sn0 Z Z Z Z Z (sn0 Z Z Z Z Z ?_)))))))))
     refine sn0 Z Z Z Z Z (sn0 Z Z Z Z Z (sn0 Z Z Z Z Z (Cl (a6 Z Z) (Cp (Cp (aa (aI Z (ae (aj ?_)))))))))
     refine Cn Z (Cp (aa (aD (be (aE (aE (be (aE (be ?_)))))))))
     refine aE (aE (be (aE ?_)))
     refine aO Tryz.results16 (.tmp Z H)
   ·have he:j=i:=by omega
    subst he
    by_cases hj0:j=0
    ·subst hj0
     refine ae (ae (aj (Cm Z (Cm Z (Cl (sF Y (a9 Z Z)) (Cp (aa (az Z (aX ?_)))))))))
     refine au (au (aC (aa (ae (ae (aj (Cm Z (Cl (sT Y (cN Z Z)) (Cp ?_)))))))))
     refine aa (aI Z (aX (au (aC (aa (aj (Cm Z (Cl (bC _ 1 Z Z Y) (Cn Z ?_)))))))))
     refine Cp ?_
     refine aS (1) (⟨hin,⟨fun a b h1 h2=>absurd h2 Y,fun a b h1 h2=>absurd h2 Y,fun p h=>absurd h Y⟩⟩) Y Ch (.keep Ck (.keep Ck (.nil)))
    ·obtain ⟨p,rfl⟩ : ∃ p,j=p+1:=⟨j - 1,by omega⟩
     have y1:=zm (p+1) p hin Y
     have y2:=jz y1 y1
     have y3:=tt z34 y2
     have y4:=jz y3 (zq p Y)
     have hmu:=jB _ _ _ _ y1 y1 W
     have hsu:=ol _ _ _ _ z34 y2 W
     have hmq2:=jB _ _ _ _ y3 (zq p Y) W
     have hcq:=oB _ _ _ _ (zq (p+1) hin) y4 W
     rw [uS] at hcq
     by_cases ho:(3 / 4 - gsM m (qF F) (p+1) p*gsM m (qF F) (p+1) p)*qq m (qF F) p≤qq m (qF F) (p+1)
     ·have k3:=uU ho
      refine ae (ae (aj (Cm Z (Cm Z (Cl (sF Y (a9 Z Z)) (Cp (aa (az Z (aX ?_)))))))))
      refine au (au (aC (aa (ae (ae (aj (Cm Z (Cl (sF Y (cN Z Z)) (Cp ?_)))))))))
      refine aa (az Z (aw (aa (ae ?_))))
      refine dN aU X X ?_
      refine uxk (hmq) Z ⟨H,H,Cq⟩ Z ?_
      refine ux (fun B=>ab Z) Z Z ?_
      refine ux (fun B=>ab Z) Z Z ?_
      refine ux (fun B=>ax Z Z Y) Z Z ?_
      refine ux (fun B=>aG Z) Z Z ?_
      refine ux (fun B=>ab Z) Z Z ?_
      refine ux (fun B=>ct _ 1 Z Z Y Y) Z Z ?_
      refine ux (fun B=>ax Z Z Y) Z Z ?_
      refine ux (fun B=>aG Z) Z Z ?_
      refine ux (fun B=>ab Z) Z Z ?_
      refine ux (fun B=>ab Z) Z Z ?_
      refine ux (fun B=>ax Z Z Y) Z Z ?_
      refine ux (fun B=>aG Z) Z Z ?_
      refine ux (fun B=>ab Z) Z Z ?_
      refine ux (fun B=>ct _ 1 Z Z Y Y) Z Z ?_
      refine ux (fun B=>ax Z Z Y) Z Z ?_
      refine ux (fun B=>aG Z) Z Z ?_
      refine uxk (hmu) Z ⟨H,H,Cq⟩ Z ?_
      refine uxk (hsu) Z ⟨H,H,Cq⟩ Z ?_
      refine ua Z (us Z ?_)
      refine RunU.nil (fun γ => ?_)
      refine cC (M' := [_,_,_]) Z (aa (ae (a4 13 aU X W (Cm Z (Cm Z (Cl (ax Z Z Y) (Cl (aG Z) (Cl (ak 0 Z Z Z) (Cm Z ?_)))))))))
      refine Cm Z (Cl (ct _ 1 Z Z Y Y) (Cl (ax Z Z Y) (Cl (aG Z) ?_)))
      refine Cl (am (hmq2) Z ⟨H,H,Cq⟩) ?_
      refine Cl (am (hcq) Z ⟨H,H,Cq⟩) ?_
      refine Cl (sF (by assumption) (a9 Z Z)) (Cp (Cp (aa (az Z (aw (aA (aa (aj (Cm Z ?_)))))))))
      refine Cl (bC _ 1 Z Z Y) (Cn Z (Cp ?_))
      refine aS (p+1+1) (⟨hin,⟨fun a b ha hb=>by rcases Nat.lt_or_eq_of_le (Nat.lt_succ_iff.1 ha) with h | h;exact hr.up a b h hb;subst h;exact (hs b hb).1,fun a b ha hb=>by rcases Nat.lt_or_eq_of_le (Nat.lt_succ_iff.1 ha) with h | h;exact hr.dn a b h hb;subst h;exact (hs b hb).2,fun q hq=>by rcases Nat.lt_or_eq_of_le (show q≤p by omega) with h | h;exact hr.or q Y;subst h;exact ho⟩⟩) Y Ch (.drop (.keep Ck (.keep Ck (.nil))))
     ·rw [uT (Rat.not_le.1 ho)] at hcq
      obtain rfl:v=false:=by cases v;rfl;exact absurd ((hv.1 Z).2.or p hin) ho
      refine ae (ae (aj (Cm Z (Cm Z (Cl (sF Y (a9 Z Z)) (Cp (aa (az Z (aX ?_)))))))))
      refine au (au (aC (aa (ae (ae (aj (Cm Z (Cl (sF Y (cN Z Z)) (Cp ?_)))))))))
      refine aa (az Z (aw (aa (ae ?_))))
      refine dN aU X X ?_
      refine uxk (hmq) Z ⟨H,H,Cq⟩ Z ?_
      refine ux (fun B=>ab Z) Z Z ?_
      refine ux (fun B=>ab Z) Z Z ?_
      refine ux (fun B=>ax Z Z Y) Z Z ?_
      refine ux (fun B=>aG Z) Z Z ?_
      refine ux (fun B=>ab Z) Z Z ?_
      refine ux (fun B=>ct _ 1 Z Z Y Y) Z Z ?_
      refine ux (fun B=>ax Z Z Y) Z Z ?_
      refine ux (fun B=>aG Z) Z Z ?_
      refine ux (fun B=>ab Z) Z Z ?_
      refine ux (fun B=>ab Z) Z Z ?_
      refine ux (fun B=>ax Z Z Y) Z Z ?_
      refine ux (fun B=>aG Z) Z Z ?_
      refine ux (fun B=>ab Z) Z Z ?_
      refine ux (fun B=>ct _ 1 Z Z Y Y) Z Z ?_
      refine ux (fun B=>ax Z Z Y) Z Z ?_
      refine ux (fun B=>aG Z) Z Z ?_
      refine uxk (hmu) Z ⟨H,H,Cq⟩ Z ?_
      refine uxk (hsu) Z ⟨H,H,Cq⟩ Z ?_
      refine ua Z (us Z ?_)
      refine RunU.nil (fun γ => ?_)
      refine cC (M' := [_,_,_]) Z (aa (ae (a4 13 aU X W (Cm Z (Cm Z (Cl (ax Z Z Y) (Cl (aG Z) (Cl (ak 0 Z Z Z) (Cm Z ?_)))))))))
      refine Cm Z (Cl (ct _ 1 Z Z Y Y) (Cl (ax Z Z Y) (Cl (aG Z) ?_)))
      refine Cl (am (hmq2) Z ⟨H,H,Cq⟩) ?_
      refine Cl (am (hcq) Z ⟨H,H,Cq⟩) ?_
      refine Cl (sT Y (a9 Z Z)) (Cp (Cp (aa (aI Z (ae (aj (Cn Z (Cp (aa ?_)))))))))
      refine aD (be (aE (aE (be (aE ?_)))))
      refine aO Tryz.results16 (.tmp Z H)
  ·have he:n=i:=by omega
   subst he
   obtain rfl:v=true:=hv.2 ⟨h0,hr⟩
   refine ae (ae (aj (Cm Z (Cl (ai Z) (Cl (ak 1 Z Z Z) (Cl (sF Y (a9 Z Z)) (Cp (aa (az Z ?_)))))))))
   refine aX (au (au (aC (aa (ae (aj (Cn Z (Cp (aa ?_)))))))))
   refine aD ?_
   refine aO Tryz.results16 (.tmp Z H)
 ·have hg:=lM m n F hn hm hF false ⟨fun h=>absurd h W,fun h=>absurd h h0⟩
  simp only [grO,cond_false] at hg
  obtain rfl:v=false:=by cases v;rfl;exact absurd (hv.1 Z).1 h0
  refine Ok.enter Tryz.func16 Z Tryz.ntmps16 Z (fun w O => ?_)
  refine ae (aj ?_)
  refine aQ Z Z (ltN Z) (fun b1 => ?_)
  refine Cn Z (Cp (aa (ae (aj (Cl (aL 0 Z Z) ?_)))))
  refine Cl (am (hg) Z ⟨H,Cq⟩) ?_
  refine Cm Z (Cl (ar Z Z) (Cl (ar Z Z) (Cl (ar Z Z) (Cn Z (Cn Z (Cn Z (Cp (aa (ae ?_)))))))))
  refine ae (aj (Cm Z (Cl (sT Y (c8 Z Z)) (Cp (aa (aI Z (ae (aj (Cn Z ?_)))))))))
  refine Cp (aa (aD (aE ?_)))
  refine aO Tryz.results16 (.tmp Z H)
end Tor
end
section
namespace Tor
open Go Go.RowKit Go.Proofs
open Lin (dZ lZ uZ eh dR)
structure RedL where
 bd:Nat
 cd:Nat
 bl:Nat
 Bl:Nat→Nat
 bR:Nat
 bU:Nat
 bV:Nat
 BR:Nat→Nat
 CR:Nat→Nat
 BU:Nat→Nat
 CU:Nat→Nat
 BV:Nat→Nat
 CV:Nat→Nat
abbrev vL (n bd cd bl:Nat):VT:=bB 2 [(0, .one,one (slV (some bd) (n+1) cd)),(1, .one,one (slV (some bl) n n))]
abbrev ss (b n:Nat) (s:RedL):Own:=aW b 100 5 [(0, .agg 2,vL n s.bd s.cd s.bl),(2, .agg 3,bB 3 [(0, .one,one (slV (some s.bR) n n)),(1, .one,one (slV (some s.bU) n n)),(2, .one,one (slV (some s.bV) n n))])]
abbrev o4 (b m n:Nat) (s:RedL) (D:Nat→Int) (L R U Cd:Nat→Nat→Int):Mem :=
 [ss b n s,dO (some s.bd) s.cd (n+1) D,fW s.bl n n (fun q=>q) s.Bl (fun q=>q),cK (fun q=>q) n s.Bl (fun q=>q) L,
  fW s.bR n n (fun _=>m) s.BR s.CR,cK (fun _=>m) n s.BR s.CR R,fW s.bU n n (fun _=>n) s.BU s.CU,cK (fun _=>n) n s.BU s.CU U,fW s.bV n n (fun _=>n) s.BV s.CV,cK (fun _=>n) n s.BV s.CV Cd]
abbrev xR (n bd cd bl:Nat) (B:Nat→Nat) (D:Nat→Int) (L:Nat→Nat→Int):Mem := [dO (some bd) cd (n+1) D,fW bl n n (fun q=>q) B (fun q=>q),cK (fun q=>q) n B (fun q=>q) L]
theorem su {n bd cd bl:Nat} {B:Nat→Nat} {D:Nat→Int} {L:Nat→Nat→Int} : Ent (xR n bd cd bl B D L) (vL n bd cd bl) (tz n D L):=by
 refine Ent.agg (.cons List.mem_cons_self ?_ (.cons (List.mem_cons_of_mem _ List.mem_cons_self) ?_ .nil))
 ·unfold cH;exact Ent.sl List.mem_cons_self
 ·refine Ent.slE (List.mem_cons_of_mem _ List.mem_cons_self) fun q hq => ?_
  unfold cH
  exact Ent.rvo (List.mem_cons_of_mem _ (List.mem_cons_of_mem _ List.mem_cons_self)) hq Z
theorem tG (n bd cd bl:Nat) (B:Nat→Nat) (D:Nat→Int) (L:Nat→Nat→Int) (i j:Nat) (hn:n≤1048576) (hi:i<n) (hj:j<i) (hL:dc (L i j)):OkI Tryz.prog 51 [vL n bd cd bl,one (.int .i64 (i:Nat)),one (.int .i64 (j:Nat))] (xR n bd cd bl B D L) (fun _:Unit=>one (.bool (decide (mr D L i j)))) (fun _=>xR n bd cd bl B D L) :=
 (pG n D L i j hn hi hj hL).lend ⟨su,Ent.refl _,Ent.refl _,Cq⟩ uM
theorem xS (n bd cd bl:Nat) (B:Nat→Nat) (D:Nat→Int) (L:Nat→Nat→Int) (k p:Nat) (hn:n≤1048576) (hp:k=p+1) (hk:k<n) (hL:dc (L (p+1) p)) (h0:dc (D p)) (h1:dc (D (p+1))) (h2:dc (D (p+2))):OkI Tryz.prog 52 [vL n bd cd bl,one (.int .i64 (k:Nat))] (xR n bd cd bl B D L) (fun _:Unit=>one (.bool (decide (oA D L p)))) (fun _=>xR n bd cd bl B D L) :=
 (uL n D L k p hn hp hk hL h0 h1 h2).lend ⟨su,Ent.refl _,Cq⟩ uM
abbrev trF (V:Nat→Nat→Int):Nat→Nat→Int:=fun a b=>V b a
structure ShH (m n k:Nat) (s:LS):Prop where
 hd:dZ m s.R n≠0
 D : ∀ a,a≤n→dc (dZ m s.R a)
 L : ∀ i,i≤k → ∀ a b,a<n→b<a→dc (lZ m (stA m k s i).R a b)
 z : ∀ i,i≤k → ∀ a,dZ m (stA m k s i).R a=dZ m s.R a
 R : ∀ i,i≤k → ∀ a b,ef ((stA m k s i).R a b)
 U : ∀ i,i≤k → ∀ a b,ef ((stA m k s i).U a b)
 V : ∀ i,i≤k → ∀ a b,ef ((stA m k s i).V a b)
def lSt (k j:Nat) (q d:Int) (L:Nat→Nat→Int) (e:Nat):Nat→Nat→Int:=fun a b=>if a=k∧b=j then L k j - q*d else if a=k∧b<e then L k b - q*L j b else L a b
theorem BC {k j n:Nat} {q d:Int} {L:Nat→Nat→Int} {B:Nat→Nat} : Own.le (rvO 43 (.agg 2) (fun q=>q) n B (fun q=>q) (dP (eK L) k j (aK (L k j - q*d))) (fun _=>false)) (cK (fun q=>q) n B (fun q=>q) (lSt k j q d L 0)):=c9 (fun _ _=>rfl) (fun _ _ _=>⟨rfl,rfl⟩) fun a b _ _ _=>by
 show VT.le (dP _ _ _ _ a b) (aK (lSt k j q d L 0 a b))
 unfold dP lSt
 by_cases h:a=k∧b=j
 ·rw [if_pos h,if_pos h]; exact VT.le_refl _
 ·rw [if_neg h,if_neg h,if_neg Y]; exact VT.le_refl _
theorem zZ {k j e:Nat} {q d:Int} {L:Nat→Nat→Int} (h:e<j):lSt k j q d L e k e=L k e:=by
 unfold lSt;rw [if_neg Y,if_neg Y]
theorem z5 {k j e:Nat} {q d:Int} {L:Nat→Nat→Int} (h:j<k):lSt k j q d L e j e=L j e:=by
 unfold lSt;rw [if_neg Y,if_neg Y]
theorem BD {k j e n:Nat} {q d:Int} {L:Nat→Nat→Int} {B:Nat→Nat} (he:e<j) (hj:j<k):Own.le (rvO 43 (.agg 2) (fun q=>q) n B (fun q=>q) (dP (eK (lSt k j q d L e)) k e (aK (lSt k j q d L e k e - q*lSt k j q d L e j e))) (fun _=>false)) (cK (fun q=>q) n B (fun q=>q) (lSt k j q d L (e+1))):=c9 (fun _ _=>rfl) (fun _ _ _=>⟨rfl,rfl⟩) fun a b _ _ _=>by
 show VT.le (dP _ _ _ _ a b) (aK (lSt k j q d L (e+1) a b))
 unfold dP
 by_cases h:a=k∧b=e
 ·rw [if_pos h,zZ he,z5 hj,h.1,h.2]
  unfold lSt
  rw [if_neg Y,if_pos ⟨rfl,by omega⟩]; exact VT.le_refl _
 ·rw [if_neg h]
  show VT.le (aK (lSt k j q d L e a b)) _
  unfold lSt
  by_cases h1:a=k∧b=j
  ·rw [if_pos h1,if_pos h1]; exact VT.le_refl _
  ·rw [if_neg h1,if_neg h1]
   by_cases h2:a=k∧b<e
   ·rw [if_pos h2,if_pos Y]; exact VT.le_refl _
   ·rw [if_neg h2,if_neg Y]; exact VT.le_refl _
theorem BE {m k j n:Nat} {q d:Int} {R:Nat→Nat→Int} {B:Nat→Nat} (hj:j<k) (hd:d=dZ m R (j+1)) (h0 : ∀ a,a≤n→dZ m R a≠0):Own.le (cK (fun q=>q) n B (fun q=>q) (lSt k j q d (lZ m R) j)) (cK (fun q=>q) n B (fun q=>q) (lZ m (gV k j q R))):=c9 (fun _ _=>rfl) (fun _ _ _=>⟨rfl,rfl⟩) fun a b ha _ hb=>by
 show VT.le (aK (lSt k j q d (lZ m R) j a b)) (aK (lZ m (Lin.shZ k j q R) a b))
 have e:lSt k j q d (lZ m R) j a b=lZ m (Lin.shZ k j q R) a b:=by
  unfold lSt
  by_cases h:a=k
  ·subst h
   by_cases h1:b=j
   ·subst h1;rw [if_pos ⟨rfl,rfl⟩,Lin.lH hj (h0 _ Y),hd]
   ·rw [if_neg Y]
    by_cases h2:b<j
    ·rw [if_pos ⟨rfl,h2⟩,Lin.oy hj h2 (h0 _ Y)]
    ·rw [if_neg Y,Lin.lI hj Y (h0 _ Y)]
  ·rw [if_neg Y,if_neg Y,Lin.qO hj h (h0 _ Y)]
 rw [e]; exact VT.le_refl _
theorem xT {k j n c:Nat} {q:Int} {B C:Nat→Nat} {F:Nat→Nat→Int} : Own.le (cK (fun _=>c) n B C (adF k j (-q) F)) (cK (fun _=>c) n B C (gV k j q F)):=c9 (fun _ _=>rfl) (fun _ _ _=>⟨rfl,rfl⟩) fun a b _ _ _=>by
 show VT.le (aK (adF k j (-q) F a b)) (aK (gV k j q F a b))
 unfold adF gV
 rw [Int.neg_mul, ← Int.sub_eq_add_neg]; exact VT.le_refl _
theorem BF {k j n c:Nat} {q:Int} {B C:Nat→Nat} {F:Nat→Nat→Int} : Own.le (cK (fun _=>c) n B C (adF j k q (trF F))) (cK (fun _=>c) n B C (trF (mo j k q F))):=c9 (fun _ _=>rfl) (fun _ _ _=>⟨rfl,rfl⟩) fun a b _ _ _=>by
 show VT.le (aK (adF j k q (trF F) a b)) (aK (mo j k q F b a))
 unfold adF mo
 exact VT.le_refl _
theorem zu {x:Int} (h:ef x):ef (-x):=by unfold ef at h ⊢; rwa [Int.natAbs_neg]
theorem zv {a b e f:Nat} (h1:a≤b+1) (h2:b≤2^e) (hf:e+1=f):a≤2^f:=by
 subst hf
 have h3:1≤2^e:=Nat.pow_pos W
 rw [Nat.pow_succ]; omega
theorem AU {x:Int} (h:x.natAbs≤2^401):ef x:=Nat.le_trans (ig (t:=401) (k:=64) h W) W
theorem AV {m n:Nat} {B:Nat→Nat} {s t:LS} (h:s=t):Own.le (cK (fun q=>q) n B (fun q=>q) (lZ m t.R)) (cK (fun q=>q) n B (fun q=>q) (lZ m s.R)):=by rw [h]; exact Own.le_refl _
theorem AW {c n:Nat} {B C:Nat→Nat} {s t:LS} (h:s=t):Own.le (cK (fun _=>c) n B C t.R) (cK (fun _=>c) n B C s.R):=by rw [h]; exact Own.le_refl _
theorem AX {c n:Nat} {B C:Nat→Nat} {s t:LS} (h:s=t):Own.le (cK (fun _=>c) n B C t.U) (cK (fun _=>c) n B C s.U):=by rw [h]; exact Own.le_refl _
theorem AY {c n:Nat} {B C:Nat→Nat} {s t:LS} (h:s=t):Own.le (cK (fun _=>c) n B C (trF t.V)) (cK (fun _=>c) n B C (trF s.V)):=by rw [h]; exact Own.le_refl _
attribute [local irreducible] J PJ aJ one slT cv bB bL exT cp eP aW aN slV VT.le Ret bK
attribute [local irreducible] rvO aK
set_option maxRecDepth 100000 in
theorem tH (b m n k:Nat) (r:RedL) (s:LS) (hn:n≤1048576) (hm:m≤1048576) (hk:k<n) (hS:ShH m n k s) :
  OkI Tryz.prog 63 [one (.pointer (some ⟨b,0,none⟩)),one (.int .i64 (k:Nat))] (o4 b m n r (dZ m s.R) (lZ m s.R) s.R s.U (trF s.V))
   (fun _:Unit=>bL []) (fun _=>o4 b m n r (dZ m s.R) (lZ m (stA m k s k).R) (stA m k s k).R (stA m k s k).U (trF (stA m k s k).V)):=by
 obtain ⟨bd,cd,bl,Bl,bR,bU,bV,BR,CR,BU,CU,BV,CV⟩:=r
 unfold o4 ss
 dsimp only
 refine OkI.enter Tryz.func63 Z Tryz.ntmps63 Z (fun w O => ?_)
 refine ae (aj (Cm Z (Cl (eG Z Z (aM Y Y)) (Cn Z (Cp (aa (av (cx (Γ' := [(0,_),(1,_),(4,_)]) Cg (SubM.refl _) ?_))))))))
 refine bE (σ:=Nat) (Γk := [(0,_),(1,_)]) Cg (fun i => [(4,one (.int .i64 ((k:Int) - 1 - (i:Nat))))]) (fun i M0=>((((M0.set 3 (cK (fun q=>q) n Bl (fun q=>q) (lZ m (stA m k s i).R))).set 5 (cK (fun _=>m) n BR CR (stA m k s i).R)).set 7 (cK (fun _=>n) n BU CU (stA m k s i).U)).set 9 (cK (fun _=>n) n BV CV (trF (stA m k s i).V)))) (fun i=>i≤k) (fun i=>k - i) (0) (Nat.zero_le _) Ch (.keep Ck (.keep Ck (.keep Ck (.keep Ck (.keep Ck (.keep Ck (.keep Ck (.keep Ck (.keep Ck (.keep Ck (.nil))))))))))) (fun i hi => ?_)
 refine bY (Γ' := [(4,_),(0,_),(1,_)]) (M' := [_,_,_,_,_,_,_,_,_,_]) Z Z ?_
 by_cases hik:i<k
 ·obtain ⟨j,hj⟩ : ∃ j,j=k - 1 - i:=⟨_,rfl⟩
  have hjk:j<k:=by omega
  have hst:stA m k s (i+1)=stJ m k j (stA m k s i):=by rw [hj]; rfl
  have hL:=hS.L i hi
  have hL':=hS.L (i+1) hik
  have hz:=hS.z i hi
  have hR:=hS.R i hi
  have hU:=hS.U i hi
  have hV:=hS.V i hi
  have hD:=hS.D
  have hd : ∀ a,a≤n→dZ m (stA m k s i).R a≠0:=fun a ha=>by rw [hz]; exact Lin.cB hS.hd ha
  rw [hst] at hL'
  refine nm (t:=4) (ψ:=one (.int .i64 (j:Nat))) Z (ao (congrArg (Value.int IntKind.i64) Y)) ?_
  rw [show ((k:Int) - 1 - (i:Nat))=(j:Nat) by omega]
  have hnext : ∀ {t':LS},t'=stJ m k j (stA m k s i)→stA m k s (i+1)=t':=fun h=>by rw [hst,h]
  generalize stA m k s i=t at *
  have hsh:=tG n bd cd bl Bl (dZ m s.R) (lZ m t.R) k j hn hk hjk (hL k j hk hjk)
  have hiff:mr (dZ m s.R) (lZ m t.R) k j↔dR m t.R k j:=by unfold mr Lin.dR;rw [hz]
  refine ae (ae (aj (Cm Z (Cl (sT Y (jo Z Z)) (Cp (aa (aI Z (aw (aa ?_)))))))))
  refine ae (av (ae (ae (aj (Cm Z (Cl (bx Z) (Cl (ai Z) (Cl (ak 0 Z Z Z) (Cm Z ?_)))))))))
  refine Cm Z ?_
  refine hP (Min := [_,_,_]) (Kp := [_,_,_,_,_,_,_]) hsh Z ⟨H,H,H,Cq⟩ (List.perm_middle (l₁ := [_,_,_])).symm Z Z (fun _ => ?_)
  refine fv (.ofPerm (List.perm_middle (l₁ := [_,_,_]))) ?_
  by_cases hs:dR m t.R k j
  ·rw [decide_eq_true (hiff.2 hs)]
   have hn':=hnext (if_pos hs).symm
   refine Cp (aa (aI Z (aX (au (aC (aa (aj (Cm Z (Cl (eG Z Z (aM Y Y)) ?_)))))))))
   refine Cn Z (Cp ?_)
   refine aS (i+1) Y Y Ch (.keep Ck (.keep Ck (.keep Ck (.keep (AV hn') (.keep Ck (.keep (AW hn') (.keep Ck (.keep (AX hn') (.keep Ck (.keep (AY hn') (.nil)))))))))))
  ·rw [decide_eq_false (fun h=>hs (hiff.1 h))]
   have hdp:0<dZ m s.R (j+1):=by have:=Lin.jg (hd (j+1) Y);rwa [hz] at this
   have m1:dc (lZ m t.R k j):=hL k j hk hjk
   have m2:dc (dZ m s.R (j+1)):=hD _ Y
   have b1:((lZ m t.R k j)+(lZ m t.R k j)).natAbs≤2^401:=kG (t:=400) (v:=401) m1 m1 W
   have b2:((lZ m t.R k j)+(lZ m t.R k j)+(dZ m s.R (j+1))).natAbs≤2^402:=kG (t:=401) (v:=402) b1 (zU (t:=400) (u:=401) m2 W) W
   have b3:((dZ m s.R (j+1))+(dZ m s.R (j+1))).natAbs≤2^401:=kG (t:=400) (v:=401) m2 m2 W
   have c0:=bw m1
   have c1:=bw m2
   have c2:=ew (t:=401) b1 W
   have c3:=ew (t:=402) b2 W
   have c4:=ew (t:=401) b3 W
   obtain ⟨q,hq⟩ : ∃ q,q=oz (lZ m t.R k j) (dZ m s.R (j+1)):=⟨_,rfl⟩
   have hqa:q.natAbs≤2^401:=by
    have h1:=sd (x:=lZ m t.R k j) hdp
    rw [← hq] at h1
    have h2:(lZ m t.R k j).natAbs≤2^400:=m1
    exact zv (e:=400) (f:=401) h1 h2 W
   have hdm:Ok Tryz.prog 98 [aK ((lZ m t.R k j)+(lZ m t.R k j)+(dZ m s.R (j+1))),aK ((dZ m s.R (j+1))+(dZ m s.R (j+1)))] (bL [aK q,aK (((lZ m t.R k j)+(lZ m t.R k j)+(dZ m s.R (j+1))) % ((dZ m s.R (j+1))+(dZ m s.R (j+1)))),one (.int .i64 0)]):=by
    have h:=gy ((lZ m t.R k j)+(lZ m t.R k j)+(dZ m s.R (j+1))) ((dZ m s.R (j+1))+(dZ m s.R (j+1))) Y c3 c4
    rw [show ((lZ m t.R k j)+(lZ m t.R k j)+(dZ m s.R (j+1))) / ((dZ m s.R (j+1))+(dZ m s.R (j+1)))=q by rw [hq]; unfold oz;rw [Int.two_mul,Int.two_mul]] at h;exact h
   have c5:=ew (t:=401) hqa W
   have c6:bI (-q):=jV c5
   have c7:bI (q*dZ m s.R (j+1)):=ew (t:=801) (eM (t:=401) (u:=400) (v:=801) hqa m2 W) W
   have l1:ef q:=AU hqa
   have l2:ef (-q):=zu l1
   have a1:=qG bR n n (fun _=>m) BR CR t.R k j (-q) hn hm hk Y Z Y l2 hR
   have a2:=qG bU n n (fun _=>n) BU CU t.U k j (-q) hn hn hk Y Z Y l2 hU
   have a3:=qG bV n n (fun _=>n) BV CV (trF t.V) j k q hn hn Y hk Z Y l1 (fun a b=>hV b a)
   refine Cp (aa (az Z (aw (aa (ae ?_)))))
   refine dN aU X X ?_
   refine ux (fun B=>ab Z) Z Z ?_
   refine ux (fun B=>bx Z) Z Z ?_
   refine ux (fun B=>ai Z) Z Z ?_
   refine ux (fun B=>ai Z) Z Z ?_
   refine ux (fun B=>bt 0 0 1 Z Z Z Z Z) Z Z ?_
   refine ux (fun B=>ab Z) Z Z ?_
   refine ux (fun B=>an Z Z Y) Z Z ?_
   refine ux (fun B=>bn 2 Z Z Y) Z Z ?_
   refine ux (fun B=>ab Z) Z Z ?_
   refine ux (fun B=>an Z Z Y) Z Z ?_
   refine ux (fun B=>dM 3 Z Z Y Z Y) Z Z ?_
   refine ux (fun B=>ab Z) Z Z ?_
   refine ux (fun B=>bx Z) Z Z ?_
   refine ux (fun B=>ai Z) Z Z ?_
   refine ux (fun B=>ai Z) Z Z ?_
   refine ux (fun B=>bt 0 0 0 Z Z Z Z Z) Z Z ?_
   refine ux (fun B=>ab Z) Z Z ?_
   refine ux (fun B=>bC _ 1 Z Z Y) Z Z ?_
   refine ux (fun B=>an Z Z Y) Z Z ?_
   refine ux (fun B=>bn 1 Z Z Y) Z Z ?_
   refine ua Z (ua Z (us Z (us Z ?_)))
   refine RunU.nil (fun γ => ?_)
   refine cC (M' := [_,_,_,_,_,_,_,_,_,_,_,_]) Z (aa (ae (aj (Cl (ak 1 Z Z Z) (Cl (ak 1 Z Z Z) ?_)))))
   refine Cl (am (fO _ _ (by assumption) (by assumption)) Z ⟨H,H,Cq⟩) ?_
   refine aP (T:=43) Z (ltN Z) (fun b7 => ?_)
   refine aB 0 Z Z Z Z Z (leN Z) Z (Cp (aa (ae ?_)))
   refine dN aU X X ?_
   refine ux (fun B=>ak 0 Z Z Z) Z Z ?_
   refine ux (fun B=>ak 1 Z Z Z) Z Z ?_
   refine uxk (fO _ _ (by assumption) (by assumption)) Z ⟨H,H,Cq⟩ Z ?_
   refine ux (fun B=>ak 1 Z Z Z) Z Z ?_
   refine ux (fun B=>ak 1 Z Z Z) Z Z ?_
   refine uxk (fO _ _ (by assumption) (by assumption)) Z ⟨H,H,Cq⟩ Z ?_
   refine uxk (hdm) Z ⟨H,H,Cq⟩ Z ?_
   refine ux (fun B=>ab Z) Z Z ?_
   refine ux (fun B=>ar Z Z) Z Z ?_
   refine ux (fun B=>ar Z Z) Z Z ?_
   refine ux (fun B=>ar Z Z) Z Z ?_
   refine ua Z (ua Z (us Z (us Z ?_)))
   refine ux (fun B=>ah Z) Z Z ?_
   refine RunU.nil (fun γ => ?_)
   refine cC (M' := [_,_,_,_,_,_,_,_,_,_,_,_,_,_,_]) Z (aa (ae (aj (Cl (ak 1 Z Z Z) ?_))))
   refine Cl (am (ub _ (by assumption)) Z ⟨H,Cq⟩) ?_
   refine aP (T:=43) Z (ltN Z) (fun b11 => ?_)
   refine aB 0 Z Z Z Z Z (leN Z) Z (Cp (aa (ae (kS 16 8 aU X W (Cm Z (Cl (bx Z) (Cl (ai Z) (Cl (ez 0 _ Z Z (ltN Z)) (Cl (bt 6 2 0 Z Z Z Z Z) ?_)))))))))
   refine Cm Z (Cm Z (Cl (ak 0 Z Z Z) (Cp ?_)))
   refine hP (Min := [_,_]) (Kp := [_,_,_,_,_,_,_,_,_,_,_,_,_,_]) a1 Z ⟨H,H,H,H,Cq⟩ ((List.perm_append_comm (l₁ := [_,_,_,_,_,_,_,_,_,_]) (l₂ := [_,_])).append_right [_,_,_,_]) Z Z (fun _ => ?_)
   refine fv (.ofPerm ((List.perm_append_comm (l₁ := [_,_]) (l₂ := [_,_,_,_,_,_,_,_,_,_])).append_right [_,_,_,_])) (Cp (aa (ae (kS 16 8 aU X W (Cm Z (Cl (bx Z) (Cl (ai Z) (Cl (ez 1 _ Z Z (ltN Z)) (Cl (bt 6 2 1 Z Z Z Z Z) ?_)))))))))
   refine Cm Z (Cm Z (Cl (ak 0 Z Z Z) (Cp ?_)))
   refine hP (Min := [_,_]) (Kp := [_,_,_,_,_,_,_,_,_,_,_,_,_,_]) a2 Z ⟨H,H,H,H,Cq⟩ ((List.perm_append_comm (l₁ := [_,_,_,_,_,_,_,_,_,_,_,_]) (l₂ := [_,_])).append_right [_,_]) Z Z (fun _ => ?_)
   refine fv (.ofPerm ((List.perm_append_comm (l₁ := [_,_]) (l₂ := [_,_,_,_,_,_,_,_,_,_,_,_])).append_right [_,_])) (Cp (aa (ae (kS 16 8 aU X W (Cm Z (Cl (bx Z) (Cl (ai Z) (Cl (ez 2 _ Z Z (ltN Z)) (Cl (bt 6 2 2 Z Z Z Z Z) ?_)))))))))
   refine Cm Z (Cm Z (Cl (ak 2 Z Z Z) (Cp ?_)))
   refine hP (Min := [_,_]) (Kp := [_,_,_,_,_,_,_,_,_,_,_,_,_,_]) a3 Z ⟨H,H,H,H,Cq⟩ (List.perm_append_comm (l₁ := [_,_,_,_,_,_,_,_,_,_,_,_,_,_]) (l₂ := [_,_])) Z Z (fun _ => ?_)
   refine fv (.ofPerm (List.perm_append_comm (l₁ := [_,_]) (l₂ := [_,_,_,_,_,_,_,_,_,_,_,_,_,_]))) (Cp (aa (ae (a4 14 aU X W (Cm Z (Cl (bx Z) (Cl (ai Z) (Cl (ai Z) (Cl (bt 6 0 1 Z Z Z Z Z) ?_)))))))))
   refine Cm Z (Cl (an Z Z Y) (Cl (bn 8 Z Z Y) (Cm Z (Cl (ak 5 Z Z Z) (Cl (ak 2 Z Z Z) (Cl (ak 4 Z Z Z) ?_))))))
   refine Cl (am (dw _ _ (by assumption) (by assumption)) Z ⟨H,H,Cq⟩) ?_
   refine Cl (am (lk _ _ (by assumption) (by assumption)) Z ⟨H,H,Cq⟩) ?_
   refine Cp (Cl (an Z Z Y) ?_)
   (refine cZ 9 Z Z Z ?_ Z ?_ Z ?_;omega;omega)
   refine Cp (aa (ae (aj (Cm Z (Cm Z (Cp (aa (av (cx (Γ' := [(0,_),(1,_),(4,_),(8,_),(104,_),(105,_)]) Cg (SubM.refl _) ?_)))))))))
   refine bE (σ:=Nat) (Γk := [(0,_),(1,_),(4,_),(8,_),(104,_)]) Cg (fun e => [(105,one (.int .i64 (e:Nat)))]) (fun e M0=>(M0.set 9 (cK (fun q=>q) n Bl (fun q=>q) (lSt k j q (dZ m s.R (j+1)) (lZ m t.R) e)))) (fun e=>e≤j) (fun e=>j - e) (0) (Nat.zero_le _) Ch (.keep Ck (.keep Ck (.keep Ck (.keep Ck (.keep Ck (.keep Ck (.keep Ck (.keep Ck (.keep Ck (.keep (BC) (.keep Ck (.keep Ck (.keep Ck (.keep Ck (.keep Ck (.keep Ck (.nil))))))))))))))))) (fun e he => ?_)
   refine bY (Γ' := [(105,_),(0,_),(1,_),(4,_),(8,_),(104,_)]) (M' := [_,_,_,_,_,_,_,_,_,_,_,_,_,_,_,_]) Z Z ?_
   by_cases hej:e<j
   ·have m3:dc (lSt k j q (dZ m s.R (j+1)) (lZ m t.R) e k e):=by rw [zZ hej]; exact hL k e hk Y
    have m4:dc (lSt k j q (dZ m s.R (j+1)) (lZ m t.R) e j e):=by rw [z5 hjk]; exact hL j e Y hej
    have d1:=bw m3
    have d2:=bw m4
    have d3:bI (q*lSt k j q (dZ m s.R (j+1)) (lZ m t.R) e j e):=ew (t:=801) (eM (t:=401) (u:=400) (v:=801) hqa m4 W) W
    have hek:e<k:=by omega
    refine ae (aj (Cl (sT Y (a9 Z Z)) (Cp (aa (ae (aI Z (aw (aa (ae ?_)))))))))
    refine av (ae (aj (Cm Z (Cn Z (Cp (aa (a4 34 aU X W (Cm Z (Cl (bx Z) ?_)))))))))
    refine Cl (ai Z) (Cl (ai Z) (Cl (bt 6 0 1 Z Z Z Z Z) (Cm Z (Cl (an Z Z Y) (Cl (bn 8 Z Z Y) (Cm Z (Cm Z (Cl (bx Z) (Cl (ai Z) ?_)))))))))
    refine Cl (ai Z) (Cl (bt 6 0 1 Z Z Z Z Z) (Cm Z (Cl (an Z Z Y) (Cl (bn 8 Z Z Y) (Cm Z (Cl (an Z Z Y) (Cl (dM 9 Z Z Y Z Y) (Cl (ak 2 Z Z Z) (Cm Z ?_)))))))))
    refine Cl (bx Z) (Cl (ai Z) (Cl (ai Z) (Cl (bt 6 0 1 Z Z Z Z Z) (Cm Z (Cl (an Z Z Y) (Cl (bn 8 Z Z Y) (Cm Z (Cl (an Z Z Y) (Cl (dM 9 Z Z Y Z Y) ?_)))))))))
    refine Cl (am (dw _ _ (by assumption) (by assumption)) Z ⟨H,H,Cq⟩) ?_
    refine Cl (am (lk _ _ (by assumption) (by assumption)) Z ⟨H,H,Cq⟩) ?_
    refine Cp (Cl (an Z Z Y) ?_)
    (refine cZ 9 Z Z Z ?_ Z ?_ Z ?_;omega;omega)
    refine Cp (aA (aa (aj (Cl (bC _ 1 Z Z Y) (Cm Z (Cp ?_))))))
    refine aS (e+1) (hej) Y Ch (.keep Ck (.keep Ck (.keep Ck (.keep Ck (.keep Ck (.keep Ck (.keep Ck (.keep Ck (.keep Ck (.keep (BD hej hjk) (.keep Ck (.keep Ck (.keep Ck (.keep Ck (.keep Ck (.keep Ck (.nil)))))))))))))))))
   ·have he:e=j:=by omega
    subst he
    have hn':=hnext (t':=⟨gV k e q t.R,gV k e q t.U,mo e k q t.V⟩) (by unfold stJ;rw [if_neg hs,hz, ← hq])
    refine ae (aj (Cl (sF Y (a9 Z Z)) (Cp (aa (ae (az Z (aX (au (au ?_)))))))))
    refine aC (aA (aa (aj (Cm Z (Cl (eG Z Z (aM Y Y)) (Cn Z (Cp ?_)))))))
    refine aS (i+1) Y Y Ch (.drop (.drop (.drop (.drop (.drop (.drop (.keep Ck (.keep Ck (.keep Ck (.keep (by (rw [hn']; exact BE hjk (hz _).symm hd)) (.keep Ck (.keep (by (rw [hn']; exact xT)) (.keep Ck (.keep (by (rw [hn']; exact xT)) (.keep Ck (.keep (by (rw [hn']; exact BF)) (.nil)))))))))))))))))
 ·have he:i=k:=by omega
  subst he
  refine ae (ae (aj (Cm Z (Cl (sF Y (jo Z Z)) (Cp (aa (az Z (aX (au ?_)))))))))
  refine au (aC (qa ?_))
  exact wo (σ:=Unit) (ψ:=fun _=>bL []) () Tryz.results63 H (SubM.refl _)
end Tor
end
section
namespace Tor
open Go Go.RowKit Go.Proofs
open Lin (dZ lZ uZ eh dR)
def swI {α:Type} (c i p:Nat) (f:Nat→α):Nat→α:=if c<i then swp p (p+1) f else f
theorem oI {bz cap n c p:Nat} {B C:Nat→Nat} : Own.le (aN (some bz) 50 .one cap n (upd (upd (fun q=>one (slV (some (B q)) c (C q))) p (one (slV (some (B (p+1))) c (C (p+1))))) (p+1) (one (slV (some (B p)) c (C p))))) (fW bz cap n (fun _=>c) (swp p (p+1) B) (swp p (p+1) C)):=bJ fun q _=>by
 unfold upd swp
 by_cases h1:q=p+1
 ·have h2 : ¬ q=p:=by omega
  simp only [h1,if_true,if_pos]
  simp
 ·by_cases h2:q=p
  ·simp [h1,h2]
  ·simp [h1,h2]
theorem oJ {n c p:Nat} {B C:Nat→Nat} {F:Nat→Nat→Int} : Own.le (rvO 43 (.agg 2) (fun _=>c) n B C (swp p (p+1) (eK F)) (fun _=>false)) (cK (fun _=>c) n B C (swp p (p+1) F)):=c9 (fun _ _=>rfl) (fun _ _ _=>⟨rfl,rfl⟩) fun q j _ _ _=>by
 show VT.le (swp p (p+1) (eK F) q j) (aK (swp p (p+1) F q j))
 unfold swp
 split
 ·exact VT.le_refl _
 ·split <;> exact VT.le_refl _
def lEx (p x:Nat) (L:Nat→Nat→Int):Nat→Nat→Int:=fun a b=>if a=p∧b<x then L (p+1) b else if a=p+1∧b<x then L p b else L a b
theorem BG {p n:Nat} {L:Nat→Nat→Int} {B:Nat→Nat} : Own.le (cK (fun q=>q) n B (fun q=>q) L) (cK (fun q=>q) n B (fun q=>q) (lEx p 0 L)):=c9 (fun _ _=>rfl) (fun _ _ _=>⟨rfl,rfl⟩) fun a b _ _ _=>by
 show VT.le (aK (L a b)) (aK (lEx p 0 L a b))
 unfold lEx;rw [if_neg Y,if_neg Y]; exact VT.le_refl _
theorem BH {p x n:Nat} {L:Nat→Nat→Int} {B:Nat→Nat} : Own.le (rvO 43 (.agg 2) (fun q=>q) n B (fun q=>q) (dP (dP (eK (lEx p x L)) p x (eK (lEx p x L) (p+1) x)) (p+1) x (eK (lEx p x L) p x)) (fun _=>false)) (cK (fun q=>q) n B (fun q=>q) (lEx p (x+1) L)):=c9 (fun _ _=>rfl) (fun _ _ _=>⟨rfl,rfl⟩) fun a b _ _ _=>by
 show VT.le (dP _ _ _ _ a b) (aK (lEx p (x+1) L a b))
 have e1:lEx p x L (p+1) x=L (p+1) x:=by unfold lEx;rw [if_neg Y,if_neg Y]
 have e2:lEx p x L p x=L p x:=by unfold lEx;rw [if_neg Y,if_neg Y]
 unfold dP
 by_cases h:a=p+1∧b=x
 ·rw [if_pos h]
  show VT.le (aK (lEx p x L p x)) _
  rw [e2,h.1,h.2,show lEx p (x+1) L (p+1) x=L p x by unfold lEx;rw [if_neg Y,if_pos Y]]; exact VT.le_refl _
 ·rw [if_neg h]
  by_cases h1:a=p∧b=x
  ·rw [if_pos h1]
   show VT.le (aK (lEx p x L (p+1) x)) _
   rw [e1,h1.1,h1.2,show lEx p (x+1) L p x=L (p+1) x by unfold lEx;rw [if_pos Y]]; exact VT.le_refl _
  ·rw [if_neg h1]
   show VT.le (aK (lEx p x L a b)) _
   unfold lEx
   by_cases h2:a=p∧b<x
   ·rw [if_pos h2,if_pos Y]; exact VT.le_refl _
   ·rw [if_neg h2,if_neg (c:=a=p∧b<x+1) Y]
    by_cases h3:a=p+1∧b<x
    ·rw [if_pos h3,if_pos Y]; exact VT.le_refl _
    ·rw [if_neg h3,if_neg Y]; exact VT.le_refl _
theorem xU {p:Nat} {L:Nat→Nat→Int} : lEx p p L (p+1) p=L (p+1) p:=by unfold lEx;rw [if_neg Y,if_neg Y]
def lEi (m p i:Nat) (R:Nat→Nat→Int):Nat→Nat→Int:=fun a b=>if p+1<a∧i≤a then lZ m R a b else lZ m (Lin.exZ p R) a b
def lEj (m p i:Nat) (R:Nat→Nat→Int):Nat→Nat→Int:=fun a b=>if a=i∧b=p+1 then lZ m (Lin.exZ p R) i (p+1) else lEi m p i R a b
theorem BI {m p n:Nat} {R:Nat→Nat→Int} {B:Nat→Nat} (h0 : ∀ a,a≤n→dZ m R a≠0) (hk:p+1<n):Own.le (cK (fun q=>q) n B (fun q=>q) (lEx p p (lZ m R))) (cK (fun q=>q) n B (fun q=>q) (lEi m p (p+2) R)):=c9 (fun _ _=>rfl) (fun _ _ _=>⟨rfl,rfl⟩) fun a b ha _ hb=>by
 show VT.le (aK (lEx p p (lZ m R) a b)) (aK (lEi m p (p+2) R a b))
 have Cf:=h0 (p+2) Y
 have e:lEx p p (lZ m R) a b=lEi m p (p+2) R a b:=by
  unfold lEi
  by_cases h:p+1<a
  ·rw [if_pos ⟨h,by omega⟩]; unfold lEx;rw [if_neg Y,if_neg Y]
  ·rw [if_neg (fun h2=>h h2.1)]
   by_cases hbp:b=p
   ·have ha1:a=p+1:=by omega
    subst hbp ha1
    rw [xU,Lin.xq Cf]
   ·have hlt:b<p:=by omega
    rw [Lin.qP Cf hbp Y (h0 _ Y)]
    unfold lEx Lin.exI
    by_cases h1:a=p
    ·rw [if_pos ⟨h1,hlt⟩,if_pos h1]
    ·rw [if_neg (fun h2=>h1 h2.1),if_neg h1]
     by_cases h3:a=p+1
     ·rw [if_pos ⟨h3,hlt⟩,if_pos h3]
     ·rw [if_neg (fun h2=>h3 h2.1),if_neg h3]
 rw [e]; exact VT.le_refl _
theorem BJ {m p i n:Nat} {R:Nat→Nat→Int} {B:Nat→Nat} : Own.le (rvO 43 (.agg 2) (fun q=>q) n B (fun q=>q) (dP (eK (lEi m p i R)) i (p+1) (aK (lZ m (Lin.exZ p R) i (p+1)))) (fun _=>false)) (cK (fun q=>q) n B (fun q=>q) (lEj m p i R)):=c9 (fun _ _=>rfl) (fun _ _ _=>⟨rfl,rfl⟩) fun a b _ _ _=>by
 show VT.le (dP _ _ _ _ a b) (aK (lEj m p i R a b))
 unfold dP lEj
 by_cases h:a=i∧b=p+1
 ·rw [if_pos h,if_pos h]; exact VT.le_refl _
 ·rw [if_neg h,if_neg h]; exact VT.le_refl _
theorem BK {m p i n:Nat} {R:Nat→Nat→Int} {B:Nat→Nat} (h0 : ∀ a,a≤n→dZ m R a≠0) (hi:p+1<i) (hin:i<n):Own.le (rvO 43 (.agg 2) (fun q=>q) n B (fun q=>q) (dP (eK (lEj m p i R)) i p (aK (lZ m (Lin.exZ p R) i p))) (fun _=>false)) (cK (fun q=>q) n B (fun q=>q) (lEi m p (i+1) R)):=c9 (fun _ _=>rfl) (fun _ _ _=>⟨rfl,rfl⟩) fun a b ha _ hb=>by
 show VT.le (dP _ _ _ _ a b) (aK (lEi m p (i+1) R a b))
 have Cf:=h0 (p+2) Y
 unfold dP
 by_cases h:a=i∧b=p
 ·rw [if_pos h,h.1,h.2,show lEi m p (i+1) R i p=lZ m (Lin.exZ p R) i p from if_neg Y]; exact VT.le_refl _
 ·rw [if_neg h]
  show VT.le (aK (lEj m p i R a b)) _
  have e:lEj m p i R a b=lEi m p (i+1) R a b:=by
   unfold lEj
   by_cases h1:a=i∧b=p+1
   ·rw [if_pos h1,h1.1,h1.2]; exact (if_neg Y).symm
   ·rw [if_neg h1]
    by_cases h2:a=i
    ·subst h2
     have e2:lEi m p a R a b=lZ m R a b:=if_pos ⟨hi,Nat.le_refl _⟩
     have e3:lEi m p (a+1) R a b=lZ m (Lin.exZ p R) a b:=if_neg Y
     rw [e2,e3,Lin.qP Cf (fun hb=>h ⟨rfl,hb⟩) (fun hb=>h1 ⟨rfl,hb⟩) (h0 _ Y)]
     unfold Lin.exI
     rw [if_neg Y,if_neg Y]
    ·unfold lEi
     by_cases h3:p+1<a∧i≤a
     ·rw [if_pos h3,if_pos Y]
     ·rw [if_neg h3,if_neg Y]
  rw [e]; exact VT.le_refl _
theorem BL {m p n:Nat} {R:Nat→Nat→Int} {B:Nat→Nat} : Own.le (cK (fun q=>q) n B (fun q=>q) (lEi m p n R)) (cK (fun q=>q) n B (fun q=>q) (lZ m (Lin.exZ p R))):=c9 (fun _ _=>rfl) (fun _ _ _=>⟨rfl,rfl⟩) fun a b ha _ _=>by
 show VT.le (aK (lEi m p n R a b)) _
 rw [show lEi m p n R a b=lZ m (Lin.exZ p R) a b from if_neg Y]; exact VT.le_refl _
theorem BM {m p n cd bd:Nat} {R:Nat→Nat→Int} (Cf:dZ m R (p+2)≠0):Own.le (aN (some bd) 43 (.agg 2) cd (n+1) (upd (fun q=>aK (dZ m R q)) (p+1) (aK (dZ m (Lin.exZ p R) (p+1))))) (dO (some bd) cd (n+1) (dZ m (Lin.exZ p R))):=bJ fun q _=>by
 unfold upd
 by_cases h:q=p+1
 ·rw [if_pos h,h]
 ·rw [if_neg h,Lin.nh Cf h]
abbrev RedL.sw (p:Nat) (r:RedL):RedL:=⟨r.bd,r.cd,r.bl,r.Bl,r.bR,r.bU,r.bV,swp p (p+1) r.BR,swp p (p+1) r.CR,swp p (p+1) r.BU,swp p (p+1) r.CU,swp p (p+1) r.BV,swp p (p+1) r.CV⟩
attribute [local irreducible] J PJ aJ one slT cv bB bL exT cp eP aW aN slV VT.le Ret bK
attribute [local irreducible] rvO aK
set_option maxRecDepth 100000 in
theorem sx (b m n p:Nat) (r:RedL) (R U Cd:Nat→Nat→Int) (hn:n≤1048576) (hm:m≤1048576) (hk:p+1<n) (hd:dZ m R n≠0)
  (hD : ∀ a,a≤n→dc (dZ m R a)) (hL : ∀ i j,i<n→j<i→dc (lZ m R i j)) (hD':dc (dZ m (Lin.exZ p R) (p+1))) (hL' : ∀ i j,i<n→j<i→dc (lZ m (Lin.exZ p R) i j)) :
  OkI Tryz.prog 64 [one (.pointer (some ⟨b,0,none⟩)),one (.int .i64 ((p+1:Nat):Int))] (o4 b m n r (dZ m R) (lZ m R) R U Cd)
   (fun _:Unit=>bL []) (fun _=>o4 b m n (r.sw p) (dZ m (Lin.exZ p R)) (lZ m (Lin.exZ p R)) (Lin.exZ p R) (swp p (p+1) U) (swp p (p+1) Cd)):=by
 obtain ⟨bd,cd,bl,Bl,bR,bU,bV,BR,CR,BU,CU,BV,CV⟩:=r
 unfold o4 ss
 dsimp only
 refine OkI.enter Tryz.func64 Z Tryz.ntmps64 Z (fun w O => ?_)
 refine ae (ae (aj (Cm Z (Cl (bx Z) (Cl (ai Z) (Cl (ak 0 Z Z Z) (Cm Z (Cp (aa ?_)))))))))
 refine av (cx (Γ' := [(0,_),(1,_),(17,_),(18,_)]) Cg (SubM.refl _) ?_)
 refine bE (σ:=Nat) (Γk := [(0,_),(1,_),(17,_)]) Cg (fun i => [(18,one (.int .i64 (i:Nat)))]) (fun i M0=>((((((M0.set 4 (fW bR n n (fun _=>m) (swI 0 i p BR) (swI 0 i p CR))).set 5 (cK (fun _=>m) n (swI 0 i p BR) (swI 0 i p CR) (swI 0 i p R))).set 6 (fW bU n n (fun _=>n) (swI 1 i p BU) (swI 1 i p CU))).set 7 (cK (fun _=>n) n (swI 1 i p BU) (swI 1 i p CU) (swI 1 i p U))).set 8 (fW bV n n (fun _=>n) (swI 2 i p BV) (swI 2 i p CV))).set 9 (cK (fun _=>n) n (swI 2 i p BV) (swI 2 i p CV) (swI 2 i p Cd)))) (fun i=>i≤3) (fun i=>3 - i) (0) (Nat.zero_le _) Ch (.keep Ck (.keep Ck (.keep Ck (.keep Ck (.keep Ck (.keep Ck (.keep Ck (.keep Ck (.keep Ck (.keep Ck (.nil))))))))))) (fun i hi => ?_)
 refine bY (Γ' := [(18,_),(0,_),(1,_),(17,_)]) (M' := [_,_,_,_,_,_,_,_,_,_]) Z Z ?_
 by_cases h0:i=0
 ·subst h0
  simp only [swI,Nat.lt_irrefl,if_false,if_true,Nat.not_lt_zero,Nat.zero_lt_one,Nat.reduceLT]
  refine ae (aj (Cl (sT Y (a9 Z Z)) (Cp (aa (ae (aI Z (aw (aa (ae ?_)))))))))
  refine av (ae (aj (Cl (nE Z Z Y Z) (Cn Z (Cp (aa ?_))))))
  apply mb (Γ1 := [(0,_),(1,_),(5,_),(17,_),(18,_)]) (M1 := [_,_,_,_,_,_,_,_,_,_]) 14 7 [3,4] [] aU X W
  ·refine Cm Z (Cm Z (Cl (ct _ 1 Z Z Y Y) (Cm Z (Cm Z (Cm Z (Cm Z (Cl (an Z Z Y) (Cl (bn 4 Z Z Y) (Cm Z ?_)))))))))
   refine Cm Z (Cl (ct _ 1 Z Z Y Y) (Cl (an Z Z Y) (Cl (bn 4 Z Z Y) (Cp ?_))))
   refine s8 (Γa := [(0,_),(1,_),(5,_),(17,_),(18,_),(21,_),(23,_),(29,_),(34,_)]) (Γb := [(0,_),(1,_),(5,_),(17,_),(18,_),(21,_),(23,_),(29,_),(34,_),(25,_)]) (Γc := [(0,_),(1,_),(5,_),(17,_),(18,_),(21,_),(23,_),(29,_),(34,_),(24,_)]) (Γd := [(0,_),(1,_),(5,_),(17,_),(18,_),(21,_),(23,_),(29,_),(34,_),(24,_),(25,_)]) (rem := [14,15,16,17]) Z Cj Z Cj Z Cj Z Cj Z ?_ ?_ ?_ ?_
   ·refine fF (r1 := [4,14,15,16,17]) (r2 := [3,14,15,16,17]) (r3 := [3,4,15,16,17]) (i:=3) (j:=4) (k:=14) X Z Z Z Z Z Z ?_ ?_ ?_ ip.nil
    refine Cm Z (Cp ?_)
    refine ⟨rfl,?_⟩
    refine bP (rem' := [14,15,16,17]) (rem'' := [4,15,16,17]) (i:=4) (j:=14) X Z Z Z Z ?_ ?_ ip.nil
    refine Cm Z (Cp ?_)
    refine ⟨rfl,?_⟩
    refine aq (rem' := [15,16,17]) (i:=14) X Z Z ?_ ip.nil
    refine Cl (an Z Z Y) (Cp ?_)
    refine ⟨rfl,?_⟩
    refine aq (rem' := [16,17]) (i:=15) X Z Z ?_ ip.nil
    (refine ay 4 Z Z Z ?_ Z ?_;omega)
    refine Cp ?_
    refine ⟨rfl,?_⟩
    refine aq (rem' := [17]) (i:=16) X Z Z ?_ ip.nil
    refine Cl (an Z Z Y) (Cp ?_)
    refine ⟨rfl,?_⟩
    refine aq (rem' := []) (i:=17) X Z Z ?_ ip.nil
    (refine ay 4 Z Z Z ?_ Z ?_;omega)
    refine Cp ?_
    refine ⟨rfl,?_⟩
    refine a5 Cj (SubM.refl _) ip.nil
    refine Cl (an Z Z Y) (Cp ?_)
    refine ⟨rfl,?_⟩
    refine bP (rem' := [15,16,17]) (rem'' := [4,16,17]) (i:=4) (j:=15) X Z Z Z Z ?_ ?_ ip.nil
    refine Cm Z (Cp ?_)
    refine ⟨rfl,?_⟩
    refine aq (rem' := [16,17]) (i:=15) X Z Z ?_ ip.nil
    (refine ay 4 Z Z Z ?_ Z ?_;omega)
    refine Cp ?_
    refine ⟨rfl,?_⟩
    refine aq (rem' := [17]) (i:=16) X Z Z ?_ ip.nil
    refine Cl (an Z Z Y) (Cp ?_)
    refine ⟨rfl,?_⟩
    refine aq (rem' := []) (i:=17) X Z Z ?_ ip.nil
    (refine ay 4 Z Z Z ?_ Z ?_;omega)
    refine Cp ?_
    refine ⟨rfl,?_⟩
    refine a5 Cj (SubM.refl _) ip.nil
    (refine ay 4 Z Z Z ?_ Z ?_;omega)
    refine Cp ?_
    refine ⟨rfl,?_⟩
    refine aq (rem' := [16,17]) (i:=4) X Z Z ?_ ip.nil
    refine Cm Z (Cp ?_)
    refine ⟨rfl,?_⟩
    refine aq (rem' := [17]) (i:=16) X Z Z ?_ ip.nil
    refine Cl (an Z Z Y) (Cp ?_)
    refine ⟨rfl,?_⟩
    refine aq (rem' := []) (i:=17) X Z Z ?_ ip.nil
    (refine ay 4 Z Z Z ?_ Z ?_;omega)
    refine Cp ?_
    refine ⟨rfl,?_⟩
    refine a5 Cj (SubM.refl _) ip.nil
    refine Cm Z (Cp ?_)
    refine ⟨rfl,?_⟩
    refine bP (rem' := [14,15,16,17]) (rem'' := [3,15,16,17]) (i:=3) (j:=14) X Z Z Z Z ?_ ?_ ip.nil
    refine Cm Z (Cp ?_)
    refine ⟨rfl,?_⟩
    refine aq (rem' := [15,16,17]) (i:=14) X Z Z ?_ ip.nil
    refine Cl (an Z Z Y) (Cp ?_)
    refine ⟨rfl,?_⟩
    refine aq (rem' := [16,17]) (i:=15) X Z Z ?_ ip.nil
    (refine ay 4 Z Z Z ?_ Z ?_;omega)
    refine Cp ?_
    refine ⟨rfl,?_⟩
    refine aq (rem' := [17]) (i:=16) X Z Z ?_ ip.nil
    refine Cl (an Z Z Y) (Cp ?_)
    refine ⟨rfl,?_⟩
    refine aq (rem' := []) (i:=17) X Z Z ?_ ip.nil
    (refine ay 4 Z Z Z ?_ Z ?_;omega)
    refine Cp ?_
    refine ⟨rfl,?_⟩
    refine a5 Cj (SubM.refl _) ip.nil
    refine Cl (an Z Z Y) (Cp ?_)
    refine ⟨rfl,?_⟩
    refine bP (rem' := [15,16,17]) (rem'' := [3,16,17]) (i:=3) (j:=15) X Z Z Z Z ?_ ?_ ip.nil
    refine Cm Z (Cp ?_)
    refine ⟨rfl,?_⟩
    refine aq (rem' := [16,17]) (i:=15) X Z Z ?_ ip.nil
    (refine ay 4 Z Z Z ?_ Z ?_;omega)
    refine Cp ?_
    refine ⟨rfl,?_⟩
    refine aq (rem' := [17]) (i:=16) X Z Z ?_ ip.nil
    refine Cl (an Z Z Y) (Cp ?_)
    refine ⟨rfl,?_⟩
    refine aq (rem' := []) (i:=17) X Z Z ?_ ip.nil
    (refine ay 4 Z Z Z ?_ Z ?_;omega)
    refine Cp ?_
    refine ⟨rfl,?_⟩
    refine a5 Cj (SubM.refl _) ip.nil
    (refine ay 4 Z Z Z ?_ Z ?_;omega)
    refine Cp ?_
    refine ⟨rfl,?_⟩
    refine aq (rem' := [16,17]) (i:=3) X Z Z ?_ ip.nil
    refine Cm Z (Cp ?_)
    refine ⟨rfl,?_⟩
    refine aq (rem' := [17]) (i:=16) X Z Z ?_ ip.nil
    refine Cl (an Z Z Y) (Cp ?_)
    refine ⟨rfl,?_⟩
    refine aq (rem' := []) (i:=17) X Z Z ?_ ip.nil
    (refine ay 4 Z Z Z ?_ Z ?_;omega)
    refine Cp ?_
    refine ⟨rfl,?_⟩
    refine a5 Cj (SubM.refl _) ip.nil
    refine Cl (an Z Z Y) (Cp ?_)
    refine ⟨rfl,?_⟩
    refine fF (r1 := [4,15,16,17]) (r2 := [3,15,16,17]) (r3 := [3,4,16,17]) (i:=3) (j:=4) (k:=15) X Z Z Z Z Z Z ?_ ?_ ?_ ip.nil
    refine Cm Z (Cp ?_)
    refine ⟨rfl,?_⟩
    refine bP (rem' := [15,16,17]) (rem'' := [4,16,17]) (i:=4) (j:=15) X Z Z Z Z ?_ ?_ ip.nil
    refine Cm Z (Cp ?_)
    refine ⟨rfl,?_⟩
    refine aq (rem' := [16,17]) (i:=15) X Z Z ?_ ip.nil
    (refine ay 4 Z Z Z ?_ Z ?_;omega)
    refine Cp ?_
    refine ⟨rfl,?_⟩
    refine aq (rem' := [17]) (i:=16) X Z Z ?_ ip.nil
    refine Cl (an Z Z Y) (Cp ?_)
    refine ⟨rfl,?_⟩
    refine aq (rem' := []) (i:=17) X Z Z ?_ ip.nil
    (refine ay 4 Z Z Z ?_ Z ?_;omega)
    refine Cp ?_
    refine ⟨rfl,?_⟩
    refine a5 Cj (SubM.refl _) ip.nil
    (refine ay 4 Z Z Z ?_ Z ?_;omega)
    refine Cp ?_
    refine ⟨rfl,?_⟩
    refine aq (rem' := [16,17]) (i:=4) X Z Z ?_ ip.nil
    refine Cm Z (Cp ?_)
    refine ⟨rfl,?_⟩
    refine aq (rem' := [17]) (i:=16) X Z Z ?_ ip.nil
    refine Cl (an Z Z Y) (Cp ?_)
    refine ⟨rfl,?_⟩
    refine aq (rem' := []) (i:=17) X Z Z ?_ ip.nil
    (refine ay 4 Z Z Z ?_ Z ?_;omega)
    refine Cp ?_
    refine ⟨rfl,?_⟩
    refine a5 Cj (SubM.refl _) ip.nil
    refine Cm Z (Cp ?_)
    refine ⟨rfl,?_⟩
    refine bP (rem' := [15,16,17]) (rem'' := [3,16,17]) (i:=3) (j:=15) X Z Z Z Z ?_ ?_ ip.nil
    refine Cm Z (Cp ?_)
    refine ⟨rfl,?_⟩
    refine aq (rem' := [16,17]) (i:=15) X Z Z ?_ ip.nil
    (refine ay 4 Z Z Z ?_ Z ?_;omega)
    refine Cp ?_
    refine ⟨rfl,?_⟩
    refine aq (rem' := [17]) (i:=16) X Z Z ?_ ip.nil
    refine Cl (an Z Z Y) (Cp ?_)
    refine ⟨rfl,?_⟩
    refine aq (rem' := []) (i:=17) X Z Z ?_ ip.nil
    (refine ay 4 Z Z Z ?_ Z ?_;omega)
    refine Cp ?_
    refine ⟨rfl,?_⟩
    refine a5 Cj (SubM.refl _) ip.nil
    (refine ay 4 Z Z Z ?_ Z ?_;omega)
    refine Cp ?_
    refine ⟨rfl,?_⟩
    refine aq (rem' := [16,17]) (i:=3) X Z Z ?_ ip.nil
    refine Cm Z (Cp ?_)
    refine ⟨rfl,?_⟩
    refine aq (rem' := [17]) (i:=16) X Z Z ?_ ip.nil
    refine Cl (an Z Z Y) (Cp ?_)
    refine ⟨rfl,?_⟩
    refine aq (rem' := []) (i:=17) X Z Z ?_ ip.nil
    (refine ay 4 Z Z Z ?_ Z ?_;omega)
    refine Cp ?_
    refine ⟨rfl,?_⟩
    refine a5 Cj (SubM.refl _) ip.nil
    (refine ay 4 Z Z Z ?_ Z ?_;omega)
    refine Cp ?_
    refine ⟨rfl,?_⟩
    refine bP (rem' := [4,16,17]) (rem'' := [3,16,17]) (i:=3) (j:=4) X Z Z Z Z ?_ ?_ ip.nil
    refine Cm Z (Cp ?_)
    refine ⟨rfl,?_⟩
    refine aq (rem' := [16,17]) (i:=4) X Z Z ?_ ip.nil
    refine Cm Z (Cp ?_)
    refine ⟨rfl,?_⟩
    refine aq (rem' := [17]) (i:=16) X Z Z ?_ ip.nil
    refine Cl (an Z Z Y) (Cp ?_)
    refine ⟨rfl,?_⟩
    refine aq (rem' := []) (i:=17) X Z Z ?_ ip.nil
    (refine ay 4 Z Z Z ?_ Z ?_;omega)
    refine Cp ?_
    refine ⟨rfl,?_⟩
    refine a5 Cj (SubM.refl _) ip.nil
    refine Cm Z (Cp ?_)
    refine ⟨rfl,?_⟩
    refine aq (rem' := [16,17]) (i:=3) X Z Z ?_ ip.nil
    refine Cm Z (Cp ?_)
    refine ⟨rfl,?_⟩
    refine aq (rem' := [17]) (i:=16) X Z Z ?_ ip.nil
    refine Cl (an Z Z Y) (Cp ?_)
    refine ⟨rfl,?_⟩
    refine aq (rem' := []) (i:=17) X Z Z ?_ ip.nil
    (refine ay 4 Z Z Z ?_ Z ?_;omega)
    refine Cp ?_
    refine ⟨rfl,?_⟩
    refine a5 Cj (SubM.refl _) ip.nil
   ·refine bP (rem' := [14,15,16,17]) (rem'' := [3,15,16,17]) (i:=3) (j:=14) X Z Z Z Z ?_ ?_ ip.nil
    refine Cm Z (Cp ?_)
    refine ⟨rfl,?_⟩
    refine aq (rem' := [15,16,17]) (i:=14) X Z Z ?_ ip.nil
    refine Cl (an Z Z Y) (Cp ?_)
    refine ⟨rfl,?_⟩
    refine aq (rem' := [16,17]) (i:=15) X Z Z ?_ ip.nil
    (refine ay 4 Z Z Z ?_ Z ?_;omega)
    refine Cp ?_
    refine ⟨rfl,?_⟩
    refine aq (rem' := [17]) (i:=16) X Z Z ?_ ip.nil
    refine Cl (an Z Z Y) (Cp ?_)
    refine ⟨rfl,?_⟩
    refine aq (rem' := []) (i:=17) X Z Z ?_ ip.nil
    (refine ay 4 Z Z Z ?_ Z ?_;omega)
    refine Cp ?_
    refine ⟨rfl,?_⟩
    refine a5 Cj (SubM.refl _) ip.nil
    refine Cl (an Z Z Y) (Cp ?_)
    refine ⟨rfl,?_⟩
    refine bP (rem' := [15,16,17]) (rem'' := [3,16,17]) (i:=3) (j:=15) X Z Z Z Z ?_ ?_ ip.nil
    refine Cm Z (Cp ?_)
    refine ⟨rfl,?_⟩
    refine aq (rem' := [16,17]) (i:=15) X Z Z ?_ ip.nil
    (refine ay 4 Z Z Z ?_ Z ?_;omega)
    refine Cp ?_
    refine ⟨rfl,?_⟩
    refine aq (rem' := [17]) (i:=16) X Z Z ?_ ip.nil
    refine Cl (an Z Z Y) (Cp ?_)
    refine ⟨rfl,?_⟩
    refine aq (rem' := []) (i:=17) X Z Z ?_ ip.nil
    (refine ay 4 Z Z Z ?_ Z ?_;omega)
    refine Cp ?_
    refine ⟨rfl,?_⟩
    refine a5 Cj (SubM.refl _) ip.nil
    (refine ay 4 Z Z Z ?_ Z ?_;omega)
    refine Cp ?_
    refine ⟨rfl,?_⟩
    refine aq (rem' := [16,17]) (i:=3) X Z Z ?_ ip.nil
    refine Cm Z (Cp ?_)
    refine ⟨rfl,?_⟩
    refine aq (rem' := [17]) (i:=16) X Z Z ?_ ip.nil
    refine Cl (an Z Z Y) (Cp ?_)
    refine ⟨rfl,?_⟩
    refine aq (rem' := []) (i:=17) X Z Z ?_ ip.nil
    (refine ay 4 Z Z Z ?_ Z ?_;omega)
    refine Cp ?_
    refine ⟨rfl,?_⟩
    refine a5 Cj (SubM.refl _) ip.nil
   ·refine bP (rem' := [14,15,16,17]) (rem'' := [4,15,16,17]) (i:=4) (j:=14) X Z Z Z Z ?_ ?_ ip.nil
    refine Cm Z (Cp ?_)
    refine ⟨rfl,?_⟩
    refine aq (rem' := [15,16,17]) (i:=14) X Z Z ?_ ip.nil
    refine Cl (an Z Z Y) (Cp ?_)
    refine ⟨rfl,?_⟩
    refine aq (rem' := [16,17]) (i:=15) X Z Z ?_ ip.nil
    (refine ay 4 Z Z Z ?_ Z ?_;omega)
    refine Cp ?_
    refine ⟨rfl,?_⟩
    refine aq (rem' := [17]) (i:=16) X Z Z ?_ ip.nil
    refine Cl (an Z Z Y) (Cp ?_)
    refine ⟨rfl,?_⟩
    refine aq (rem' := []) (i:=17) X Z Z ?_ ip.nil
    (refine ay 4 Z Z Z ?_ Z ?_;omega)
    refine Cp ?_
    refine ⟨rfl,?_⟩
    refine a5 Cj (SubM.refl _) ip.nil
    refine Cl (an Z Z Y) (Cp ?_)
    refine ⟨rfl,?_⟩
    refine bP (rem' := [15,16,17]) (rem'' := [4,16,17]) (i:=4) (j:=15) X Z Z Z Z ?_ ?_ ip.nil
    refine Cm Z (Cp ?_)
    refine ⟨rfl,?_⟩
    refine aq (rem' := [16,17]) (i:=15) X Z Z ?_ ip.nil
    (refine ay 4 Z Z Z ?_ Z ?_;omega)
    refine Cp ?_
    refine ⟨rfl,?_⟩
    refine aq (rem' := [17]) (i:=16) X Z Z ?_ ip.nil
    refine Cl (an Z Z Y) (Cp ?_)
    refine ⟨rfl,?_⟩
    refine aq (rem' := []) (i:=17) X Z Z ?_ ip.nil
    (refine ay 4 Z Z Z ?_ Z ?_;omega)
    refine Cp ?_
    refine ⟨rfl,?_⟩
    refine a5 Cj (SubM.refl _) ip.nil
    (refine ay 4 Z Z Z ?_ Z ?_;omega)
    refine Cp ?_
    refine ⟨rfl,?_⟩
    refine aq (rem' := [16,17]) (i:=4) X Z Z ?_ ip.nil
    refine Cm Z (Cp ?_)
    refine ⟨rfl,?_⟩
    refine aq (rem' := [17]) (i:=16) X Z Z ?_ ip.nil
    refine Cl (an Z Z Y) (Cp ?_)
    refine ⟨rfl,?_⟩
    refine aq (rem' := []) (i:=17) X Z Z ?_ ip.nil
    (refine ay 4 Z Z Z ?_ Z ?_;omega)
    refine Cp ?_
    refine ⟨rfl,?_⟩
    refine a5 Cj (SubM.refl _) ip.nil
   ·refine aq (rem' := [15,16,17]) (i:=14) X Z Z ?_ ip.nil
    refine Cl (an Z Z Y) (Cp ?_)
    refine ⟨rfl,?_⟩
    refine aq (rem' := [16,17]) (i:=15) X Z Z ?_ ip.nil
    (refine ay 4 Z Z Z ?_ Z ?_;omega)
    refine Cp ?_
    refine ⟨rfl,?_⟩
    refine aq (rem' := [17]) (i:=16) X Z Z ?_ ip.nil
    refine Cl (an Z Z Y) (Cp ?_)
    refine ⟨rfl,?_⟩
    refine aq (rem' := []) (i:=17) X Z Z ?_ ip.nil
    (refine ay 4 Z Z Z ?_ Z ?_;omega)
    refine Cp ?_
    refine ⟨rfl,?_⟩
    refine a5 Cj (SubM.refl _) ip.nil
  ·refine gm (ConvM.cons (ConvM.cons (ConvM.cons (ConvM.cons ((ConvM.le (oI (p:=p))).trans (.trans (ConvM.cons (om (i:=p) (k:=p+1) Y hk)) (ConvM.cons (ConvM.le oJ)))))))) (aA (aa (aj (Cl (bC _ 1 Z Z Y) (Cm Z (Cp ?_))))))
   refine aS (1) Y Y Ch (.keep Ck (.keep Ck (.keep Ck (.keep Ck (.keep Ck (.keep Ck (.keep Ck (.keep Ck (.keep Ck (.keep Ck (.nil)))))))))))
 by_cases h1:i=1
 ·subst h1
  simp only [swI,Nat.lt_irrefl,if_false,if_true,Nat.not_lt_zero,Nat.zero_lt_one,Nat.reduceLT]
  refine ae (aj (Cl (sT Y (a9 Z Z)) (Cp (aa (ae (aI Z (aw (aa (ae ?_)))))))))
  refine av (ae (aj (Cl (nE Z Z Y Z) (Cn Z (Cp (aa ?_))))))
  apply mb (Γ1 := [(0,_),(1,_),(5,_),(17,_),(18,_)]) (M1 := [_,_,_,_,_,_,_,_,_,_]) 14 7 [3,4] [] aU X W
  ·refine Cm Z (Cm Z (Cl (ct _ 1 Z Z Y Y) (Cm Z (Cm Z (Cm Z (Cm Z (Cl (an Z Z Y) (Cl (bn 6 Z Z Y) (Cm Z ?_)))))))))
   refine Cm Z (Cl (ct _ 1 Z Z Y Y) (Cl (an Z Z Y) (Cl (bn 6 Z Z Y) (Cp ?_))))
   refine s8 (Γa := [(0,_),(1,_),(5,_),(17,_),(18,_),(21,_),(23,_),(29,_),(34,_)]) (Γb := [(0,_),(1,_),(5,_),(17,_),(18,_),(21,_),(23,_),(29,_),(34,_),(25,_)]) (Γc := [(0,_),(1,_),(5,_),(17,_),(18,_),(21,_),(23,_),(29,_),(34,_),(24,_)]) (Γd := [(0,_),(1,_),(5,_),(17,_),(18,_),(21,_),(23,_),(29,_),(34,_),(24,_),(25,_)]) (rem := [14,15,16,17]) Z Cj Z Cj Z Cj Z Cj Z ?_ ?_ ?_ ?_
   ·refine fF (r1 := [4,14,15,16,17]) (r2 := [3,14,15,16,17]) (r3 := [3,4,15,16,17]) (i:=3) (j:=4) (k:=14) X Z Z Z Z Z Z ?_ ?_ ?_ ip.nil
    refine Cm Z (Cp ?_)
    refine ⟨rfl,?_⟩
    refine bP (rem' := [14,15,16,17]) (rem'' := [4,15,16,17]) (i:=4) (j:=14) X Z Z Z Z ?_ ?_ ip.nil
    refine Cm Z (Cp ?_)
    refine ⟨rfl,?_⟩
    refine aq (rem' := [15,16,17]) (i:=14) X Z Z ?_ ip.nil
    refine Cl (an Z Z Y) (Cp ?_)
    refine ⟨rfl,?_⟩
    refine aq (rem' := [16,17]) (i:=15) X Z Z ?_ ip.nil
    (refine ay 6 Z Z Z ?_ Z ?_;omega)
    refine Cp ?_
    refine ⟨rfl,?_⟩
    refine aq (rem' := [17]) (i:=16) X Z Z ?_ ip.nil
    refine Cl (an Z Z Y) (Cp ?_)
    refine ⟨rfl,?_⟩
    refine aq (rem' := []) (i:=17) X Z Z ?_ ip.nil
    (refine ay 6 Z Z Z ?_ Z ?_;omega)
    refine Cp ?_
    refine ⟨rfl,?_⟩
    refine a5 Cj (SubM.refl _) ip.nil
    refine Cl (an Z Z Y) (Cp ?_)
    refine ⟨rfl,?_⟩
    refine bP (rem' := [15,16,17]) (rem'' := [4,16,17]) (i:=4) (j:=15) X Z Z Z Z ?_ ?_ ip.nil
    refine Cm Z (Cp ?_)
    refine ⟨rfl,?_⟩
    refine aq (rem' := [16,17]) (i:=15) X Z Z ?_ ip.nil
    (refine ay 6 Z Z Z ?_ Z ?_;omega)
    refine Cp ?_
    refine ⟨rfl,?_⟩
    refine aq (rem' := [17]) (i:=16) X Z Z ?_ ip.nil
    refine Cl (an Z Z Y) (Cp ?_)
    refine ⟨rfl,?_⟩
    refine aq (rem' := []) (i:=17) X Z Z ?_ ip.nil
    (refine ay 6 Z Z Z ?_ Z ?_;omega)
    refine Cp ?_
    refine ⟨rfl,?_⟩
    refine a5 Cj (SubM.refl _) ip.nil
    (refine ay 6 Z Z Z ?_ Z ?_;omega)
    refine Cp ?_
    refine ⟨rfl,?_⟩
    refine aq (rem' := [16,17]) (i:=4) X Z Z ?_ ip.nil
    refine Cm Z (Cp ?_)
    refine ⟨rfl,?_⟩
    refine aq (rem' := [17]) (i:=16) X Z Z ?_ ip.nil
    refine Cl (an Z Z Y) (Cp ?_)
    refine ⟨rfl,?_⟩
    refine aq (rem' := []) (i:=17) X Z Z ?_ ip.nil
    (refine ay 6 Z Z Z ?_ Z ?_;omega)
    refine Cp ?_
    refine ⟨rfl,?_⟩
    refine a5 Cj (SubM.refl _) ip.nil
    refine Cm Z (Cp ?_)
    refine ⟨rfl,?_⟩
    refine bP (rem' := [14,15,16,17]) (rem'' := [3,15,16,17]) (i:=3) (j:=14) X Z Z Z Z ?_ ?_ ip.nil
    refine Cm Z (Cp ?_)
    refine ⟨rfl,?_⟩
    refine aq (rem' := [15,16,17]) (i:=14) X Z Z ?_ ip.nil
    refine Cl (an Z Z Y) (Cp ?_)
    refine ⟨rfl,?_⟩
    refine aq (rem' := [16,17]) (i:=15) X Z Z ?_ ip.nil
    (refine ay 6 Z Z Z ?_ Z ?_;omega)
    refine Cp ?_
    refine ⟨rfl,?_⟩
    refine aq (rem' := [17]) (i:=16) X Z Z ?_ ip.nil
    refine Cl (an Z Z Y) (Cp ?_)
    refine ⟨rfl,?_⟩
    refine aq (rem' := []) (i:=17) X Z Z ?_ ip.nil
    (refine ay 6 Z Z Z ?_ Z ?_;omega)
    refine Cp ?_
    refine ⟨rfl,?_⟩
    refine a5 Cj (SubM.refl _) ip.nil
    refine Cl (an Z Z Y) (Cp ?_)
    refine ⟨rfl,?_⟩
    refine bP (rem' := [15,16,17]) (rem'' := [3,16,17]) (i:=3) (j:=15) X Z Z Z Z ?_ ?_ ip.nil
    refine Cm Z (Cp ?_)
    refine ⟨rfl,?_⟩
    refine aq (rem' := [16,17]) (i:=15) X Z Z ?_ ip.nil
    (refine ay 6 Z Z Z ?_ Z ?_;omega)
    refine Cp ?_
    refine ⟨rfl,?_⟩
    refine aq (rem' := [17]) (i:=16) X Z Z ?_ ip.nil
    refine Cl (an Z Z Y) (Cp ?_)
    refine ⟨rfl,?_⟩
    refine aq (rem' := []) (i:=17) X Z Z ?_ ip.nil
    (refine ay 6 Z Z Z ?_ Z ?_;omega)
    refine Cp ?_
    refine ⟨rfl,?_⟩
    refine a5 Cj (SubM.refl _) ip.nil
    (refine ay 6 Z Z Z ?_ Z ?_;omega)
    refine Cp ?_
    refine ⟨rfl,?_⟩
    refine aq (rem' := [16,17]) (i:=3) X Z Z ?_ ip.nil
    refine Cm Z (Cp ?_)
    refine ⟨rfl,?_⟩
    refine aq (rem' := [17]) (i:=16) X Z Z ?_ ip.nil
    refine Cl (an Z Z Y) (Cp ?_)
    refine ⟨rfl,?_⟩
    refine aq (rem' := []) (i:=17) X Z Z ?_ ip.nil
    (refine ay 6 Z Z Z ?_ Z ?_;omega)
    refine Cp ?_
    refine ⟨rfl,?_⟩
    refine a5 Cj (SubM.refl _) ip.nil
    refine Cl (an Z Z Y) (Cp ?_)
    refine ⟨rfl,?_⟩
    refine fF (r1 := [4,15,16,17]) (r2 := [3,15,16,17]) (r3 := [3,4,16,17]) (i:=3) (j:=4) (k:=15) X Z Z Z Z Z Z ?_ ?_ ?_ ip.nil
    refine Cm Z (Cp ?_)
    refine ⟨rfl,?_⟩
    refine bP (rem' := [15,16,17]) (rem'' := [4,16,17]) (i:=4) (j:=15) X Z Z Z Z ?_ ?_ ip.nil
    refine Cm Z (Cp ?_)
    refine ⟨rfl,?_⟩
    refine aq (rem' := [16,17]) (i:=15) X Z Z ?_ ip.nil
    (refine ay 6 Z Z Z ?_ Z ?_;omega)
    refine Cp ?_
    refine ⟨rfl,?_⟩
    refine aq (rem' := [17]) (i:=16) X Z Z ?_ ip.nil
    refine Cl (an Z Z Y) (Cp ?_)
    refine ⟨rfl,?_⟩
    refine aq (rem' := []) (i:=17) X Z Z ?_ ip.nil
    (refine ay 6 Z Z Z ?_ Z ?_;omega)
    refine Cp ?_
    refine ⟨rfl,?_⟩
    refine a5 Cj (SubM.refl _) ip.nil
    (refine ay 6 Z Z Z ?_ Z ?_;omega)
    refine Cp ?_
    refine ⟨rfl,?_⟩
    refine aq (rem' := [16,17]) (i:=4) X Z Z ?_ ip.nil
    refine Cm Z (Cp ?_)
    refine ⟨rfl,?_⟩
    refine aq (rem' := [17]) (i:=16) X Z Z ?_ ip.nil
    refine Cl (an Z Z Y) (Cp ?_)
    refine ⟨rfl,?_⟩
    refine aq (rem' := []) (i:=17) X Z Z ?_ ip.nil
    (refine ay 6 Z Z Z ?_ Z ?_;omega)
    refine Cp ?_
    refine ⟨rfl,?_⟩
    refine a5 Cj (SubM.refl _) ip.nil
    refine Cm Z (Cp ?_)
    refine ⟨rfl,?_⟩
    refine bP (rem' := [15,16,17]) (rem'' := [3,16,17]) (i:=3) (j:=15) X Z Z Z Z ?_ ?_ ip.nil
    refine Cm Z (Cp ?_)
    refine ⟨rfl,?_⟩
    refine aq (rem' := [16,17]) (i:=15) X Z Z ?_ ip.nil
    (refine ay 6 Z Z Z ?_ Z ?_;omega)
    refine Cp ?_
    refine ⟨rfl,?_⟩
    refine aq (rem' := [17]) (i:=16) X Z Z ?_ ip.nil
    refine Cl (an Z Z Y) (Cp ?_)
    refine ⟨rfl,?_⟩
    refine aq (rem' := []) (i:=17) X Z Z ?_ ip.nil
    (refine ay 6 Z Z Z ?_ Z ?_;omega)
    refine Cp ?_
    refine ⟨rfl,?_⟩
    refine a5 Cj (SubM.refl _) ip.nil
    (refine ay 6 Z Z Z ?_ Z ?_;omega)
    refine Cp ?_
    refine ⟨rfl,?_⟩
    refine aq (rem' := [16,17]) (i:=3) X Z Z ?_ ip.nil
    refine Cm Z (Cp ?_)
    refine ⟨rfl,?_⟩
    refine aq (rem' := [17]) (i:=16) X Z Z ?_ ip.nil
    refine Cl (an Z Z Y) (Cp ?_)
    refine ⟨rfl,?_⟩
    refine aq (rem' := []) (i:=17) X Z Z ?_ ip.nil
    (refine ay 6 Z Z Z ?_ Z ?_;omega)
    refine Cp ?_
    refine ⟨rfl,?_⟩
    refine a5 Cj (SubM.refl _) ip.nil
    (refine ay 6 Z Z Z ?_ Z ?_;omega)
    refine Cp ?_
    refine ⟨rfl,?_⟩
    refine bP (rem' := [4,16,17]) (rem'' := [3,16,17]) (i:=3) (j:=4) X Z Z Z Z ?_ ?_ ip.nil
    refine Cm Z (Cp ?_)
    refine ⟨rfl,?_⟩
    refine aq (rem' := [16,17]) (i:=4) X Z Z ?_ ip.nil
    refine Cm Z (Cp ?_)
    refine ⟨rfl,?_⟩
    refine aq (rem' := [17]) (i:=16) X Z Z ?_ ip.nil
    refine Cl (an Z Z Y) (Cp ?_)
    refine ⟨rfl,?_⟩
    refine aq (rem' := []) (i:=17) X Z Z ?_ ip.nil
    (refine ay 6 Z Z Z ?_ Z ?_;omega)
    refine Cp ?_
    refine ⟨rfl,?_⟩
    refine a5 Cj (SubM.refl _) ip.nil
    refine Cm Z (Cp ?_)
    refine ⟨rfl,?_⟩
    refine aq (rem' := [16,17]) (i:=3) X Z Z ?_ ip.nil
    refine Cm Z (Cp ?_)
    refine ⟨rfl,?_⟩
    refine aq (rem' := [17]) (i:=16) X Z Z ?_ ip.nil
    refine Cl (an Z Z Y) (Cp ?_)
    refine ⟨rfl,?_⟩
    refine aq (rem' := []) (i:=17) X Z Z ?_ ip.nil
    (refine ay 6 Z Z Z ?_ Z ?_;omega)
    refine Cp ?_
    refine ⟨rfl,?_⟩
    refine a5 Cj (SubM.refl _) ip.nil
   ·refine bP (rem' := [14,15,16,17]) (rem'' := [3,15,16,17]) (i:=3) (j:=14) X Z Z Z Z ?_ ?_ ip.nil
    refine Cm Z (Cp ?_)
    refine ⟨rfl,?_⟩
    refine aq (rem' := [15,16,17]) (i:=14) X Z Z ?_ ip.nil
    refine Cl (an Z Z Y) (Cp ?_)
    refine ⟨rfl,?_⟩
    refine aq (rem' := [16,17]) (i:=15) X Z Z ?_ ip.nil
    (refine ay 6 Z Z Z ?_ Z ?_;omega)
    refine Cp ?_
    refine ⟨rfl,?_⟩
    refine aq (rem' := [17]) (i:=16) X Z Z ?_ ip.nil
    refine Cl (an Z Z Y) (Cp ?_)
    refine ⟨rfl,?_⟩
    refine aq (rem' := []) (i:=17) X Z Z ?_ ip.nil
    (refine ay 6 Z Z Z ?_ Z ?_;omega)
    refine Cp ?_
    refine ⟨rfl,?_⟩
    refine a5 Cj (SubM.refl _) ip.nil
    refine Cl (an Z Z Y) (Cp ?_)
    refine ⟨rfl,?_⟩
    refine bP (rem' := [15,16,17]) (rem'' := [3,16,17]) (i:=3) (j:=15) X Z Z Z Z ?_ ?_ ip.nil
    refine Cm Z (Cp ?_)
    refine ⟨rfl,?_⟩
    refine aq (rem' := [16,17]) (i:=15) X Z Z ?_ ip.nil
    (refine ay 6 Z Z Z ?_ Z ?_;omega)
    refine Cp ?_
    refine ⟨rfl,?_⟩
    refine aq (rem' := [17]) (i:=16) X Z Z ?_ ip.nil
    refine Cl (an Z Z Y) (Cp ?_)
    refine ⟨rfl,?_⟩
    refine aq (rem' := []) (i:=17) X Z Z ?_ ip.nil
    (refine ay 6 Z Z Z ?_ Z ?_;omega)
    refine Cp ?_
    refine ⟨rfl,?_⟩
    refine a5 Cj (SubM.refl _) ip.nil
    (refine ay 6 Z Z Z ?_ Z ?_;omega)
    refine Cp ?_
    refine ⟨rfl,?_⟩
    refine aq (rem' := [16,17]) (i:=3) X Z Z ?_ ip.nil
    refine Cm Z (Cp ?_)
    refine ⟨rfl,?_⟩
    refine aq (rem' := [17]) (i:=16) X Z Z ?_ ip.nil
    refine Cl (an Z Z Y) (Cp ?_)
    refine ⟨rfl,?_⟩
    refine aq (rem' := []) (i:=17) X Z Z ?_ ip.nil
    (refine ay 6 Z Z Z ?_ Z ?_;omega)
    refine Cp ?_
    refine ⟨rfl,?_⟩
    refine a5 Cj (SubM.refl _) ip.nil
   ·refine bP (rem' := [14,15,16,17]) (rem'' := [4,15,16,17]) (i:=4) (j:=14) X Z Z Z Z ?_ ?_ ip.nil
    refine Cm Z (Cp ?_)
    refine ⟨rfl,?_⟩
    refine aq (rem' := [15,16,17]) (i:=14) X Z Z ?_ ip.nil
    refine Cl (an Z Z Y) (Cp ?_)
    refine ⟨rfl,?_⟩
    refine aq (rem' := [16,17]) (i:=15) X Z Z ?_ ip.nil
    (refine ay 6 Z Z Z ?_ Z ?_;omega)
    refine Cp ?_
    refine ⟨rfl,?_⟩
    refine aq (rem' := [17]) (i:=16) X Z Z ?_ ip.nil
    refine Cl (an Z Z Y) (Cp ?_)
    refine ⟨rfl,?_⟩
    refine aq (rem' := []) (i:=17) X Z Z ?_ ip.nil
    (refine ay 6 Z Z Z ?_ Z ?_;omega)
    refine Cp ?_
    refine ⟨rfl,?_⟩
    refine a5 Cj (SubM.refl _) ip.nil
    refine Cl (an Z Z Y) (Cp ?_)
    refine ⟨rfl,?_⟩
    refine bP (rem' := [15,16,17]) (rem'' := [4,16,17]) (i:=4) (j:=15) X Z Z Z Z ?_ ?_ ip.nil
    refine Cm Z (Cp ?_)
    refine ⟨rfl,?_⟩
    refine aq (rem' := [16,17]) (i:=15) X Z Z ?_ ip.nil
    (refine ay 6 Z Z Z ?_ Z ?_;omega)
    refine Cp ?_
    refine ⟨rfl,?_⟩
    refine aq (rem' := [17]) (i:=16) X Z Z ?_ ip.nil
    refine Cl (an Z Z Y) (Cp ?_)
    refine ⟨rfl,?_⟩
    refine aq (rem' := []) (i:=17) X Z Z ?_ ip.nil
    (refine ay 6 Z Z Z ?_ Z ?_;omega)
    refine Cp ?_
    refine ⟨rfl,?_⟩
    refine a5 Cj (SubM.refl _) ip.nil
    (refine ay 6 Z Z Z ?_ Z ?_;omega)
    refine Cp ?_
    refine ⟨rfl,?_⟩
    refine aq (rem' := [16,17]) (i:=4) X Z Z ?_ ip.nil
    refine Cm Z (Cp ?_)
    refine ⟨rfl,?_⟩
    refine aq (rem' := [17]) (i:=16) X Z Z ?_ ip.nil
    refine Cl (an Z Z Y) (Cp ?_)
    refine ⟨rfl,?_⟩
    refine aq (rem' := []) (i:=17) X Z Z ?_ ip.nil
    (refine ay 6 Z Z Z ?_ Z ?_;omega)
    refine Cp ?_
    refine ⟨rfl,?_⟩
    refine a5 Cj (SubM.refl _) ip.nil
   ·refine aq (rem' := [15,16,17]) (i:=14) X Z Z ?_ ip.nil
    refine Cl (an Z Z Y) (Cp ?_)
    refine ⟨rfl,?_⟩
    refine aq (rem' := [16,17]) (i:=15) X Z Z ?_ ip.nil
    (refine ay 6 Z Z Z ?_ Z ?_;omega)
    refine Cp ?_
    refine ⟨rfl,?_⟩
    refine aq (rem' := [17]) (i:=16) X Z Z ?_ ip.nil
    refine Cl (an Z Z Y) (Cp ?_)
    refine ⟨rfl,?_⟩
    refine aq (rem' := []) (i:=17) X Z Z ?_ ip.nil
    (refine ay 6 Z Z Z ?_ Z ?_;omega)
    refine Cp ?_
    refine ⟨rfl,?_⟩
    refine a5 Cj (SubM.refl _) ip.nil
  ·refine gm (ConvM.cons (ConvM.cons (ConvM.cons (ConvM.cons (ConvM.cons (ConvM.cons ((ConvM.le (oI (p:=p))).trans (.trans (ConvM.cons (om (i:=p) (k:=p+1) Y hk)) (ConvM.cons (ConvM.le oJ)))))))))) (aA (aa (aj (Cl (bC _ 1 Z Z Y) (Cm Z (Cp ?_))))))
   refine aS (2) Y Y Ch (.keep Ck (.keep Ck (.keep Ck (.keep Ck (.keep Ck (.keep Ck (.keep Ck (.keep Ck (.keep Ck (.keep Ck (.nil)))))))))))
 by_cases h2:i=2
 ·subst h2
  simp only [swI,Nat.lt_irrefl,if_false,if_true,Nat.not_lt_zero,Nat.zero_lt_one,Nat.reduceLT]
  refine ae (aj (Cl (sT Y (a9 Z Z)) (Cp (aa (ae (aI Z (aw (aa (ae ?_)))))))))
  refine av (ae (aj (Cl (nE Z Z Y Z) (Cn Z (Cp (aa ?_))))))
  apply mb (Γ1 := [(0,_),(1,_),(5,_),(17,_),(18,_)]) (M1 := [_,_,_,_,_,_,_,_,_,_]) 14 7 [3,4] [] aU X W
  ·refine Cm Z (Cm Z (Cl (ct _ 1 Z Z Y Y) (Cm Z (Cm Z (Cm Z (Cm Z (Cl (an Z Z Y) (Cl (bn 8 Z Z Y) (Cm Z ?_)))))))))
   refine Cm Z (Cl (ct _ 1 Z Z Y Y) (Cl (an Z Z Y) (Cl (bn 8 Z Z Y) (Cp ?_))))
   refine s8 (Γa := [(0,_),(1,_),(5,_),(17,_),(18,_),(21,_),(23,_),(29,_),(34,_)]) (Γb := [(0,_),(1,_),(5,_),(17,_),(18,_),(21,_),(23,_),(29,_),(34,_),(25,_)]) (Γc := [(0,_),(1,_),(5,_),(17,_),(18,_),(21,_),(23,_),(29,_),(34,_),(24,_)]) (Γd := [(0,_),(1,_),(5,_),(17,_),(18,_),(21,_),(23,_),(29,_),(34,_),(24,_),(25,_)]) (rem := [14,15,16,17]) Z Cj Z Cj Z Cj Z Cj Z ?_ ?_ ?_ ?_
   ·refine fF (r1 := [4,14,15,16,17]) (r2 := [3,14,15,16,17]) (r3 := [3,4,15,16,17]) (i:=3) (j:=4) (k:=14) X Z Z Z Z Z Z ?_ ?_ ?_ ip.nil
    refine Cm Z (Cp ?_)
    refine ⟨rfl,?_⟩
    refine bP (rem' := [14,15,16,17]) (rem'' := [4,15,16,17]) (i:=4) (j:=14) X Z Z Z Z ?_ ?_ ip.nil
    refine Cm Z (Cp ?_)
    refine ⟨rfl,?_⟩
    refine aq (rem' := [15,16,17]) (i:=14) X Z Z ?_ ip.nil
    refine Cl (an Z Z Y) (Cp ?_)
    refine ⟨rfl,?_⟩
    refine aq (rem' := [16,17]) (i:=15) X Z Z ?_ ip.nil
    (refine ay 8 Z Z Z ?_ Z ?_;omega)
    refine Cp ?_
    refine ⟨rfl,?_⟩
    refine aq (rem' := [17]) (i:=16) X Z Z ?_ ip.nil
    refine Cl (an Z Z Y) (Cp ?_)
    refine ⟨rfl,?_⟩
    refine aq (rem' := []) (i:=17) X Z Z ?_ ip.nil
    (refine ay 8 Z Z Z ?_ Z ?_;omega)
    refine Cp ?_
    refine ⟨rfl,?_⟩
    refine a5 Cj (SubM.refl _) ip.nil
    refine Cl (an Z Z Y) (Cp ?_)
    refine ⟨rfl,?_⟩
    refine bP (rem' := [15,16,17]) (rem'' := [4,16,17]) (i:=4) (j:=15) X Z Z Z Z ?_ ?_ ip.nil
    refine Cm Z (Cp ?_)
    refine ⟨rfl,?_⟩
    refine aq (rem' := [16,17]) (i:=15) X Z Z ?_ ip.nil
    (refine ay 8 Z Z Z ?_ Z ?_;omega)
    refine Cp ?_
    refine ⟨rfl,?_⟩
    refine aq (rem' := [17]) (i:=16) X Z Z ?_ ip.nil
    refine Cl (an Z Z Y) (Cp ?_)
    refine ⟨rfl,?_⟩
    refine aq (rem' := []) (i:=17) X Z Z ?_ ip.nil
    (refine ay 8 Z Z Z ?_ Z ?_;omega)
    refine Cp ?_
    refine ⟨rfl,?_⟩
    refine a5 Cj (SubM.refl _) ip.nil
    (refine ay 8 Z Z Z ?_ Z ?_;omega)
    refine Cp ?_
    refine ⟨rfl,?_⟩
    refine aq (rem' := [16,17]) (i:=4) X Z Z ?_ ip.nil
    refine Cm Z (Cp ?_)
    refine ⟨rfl,?_⟩
    refine aq (rem' := [17]) (i:=16) X Z Z ?_ ip.nil
    refine Cl (an Z Z Y) (Cp ?_)
    refine ⟨rfl,?_⟩
    refine aq (rem' := []) (i:=17) X Z Z ?_ ip.nil
    (refine ay 8 Z Z Z ?_ Z ?_;omega)
    refine Cp ?_
    refine ⟨rfl,?_⟩
    refine a5 Cj (SubM.refl _) ip.nil
    refine Cm Z (Cp ?_)
    refine ⟨rfl,?_⟩
    refine bP (rem' := [14,15,16,17]) (rem'' := [3,15,16,17]) (i:=3) (j:=14) X Z Z Z Z ?_ ?_ ip.nil
    refine Cm Z (Cp ?_)
    refine ⟨rfl,?_⟩
    refine aq (rem' := [15,16,17]) (i:=14) X Z Z ?_ ip.nil
    refine Cl (an Z Z Y) (Cp ?_)
    refine ⟨rfl,?_⟩
    refine aq (rem' := [16,17]) (i:=15) X Z Z ?_ ip.nil
    (refine ay 8 Z Z Z ?_ Z ?_;omega)
    refine Cp ?_
    refine ⟨rfl,?_⟩
    refine aq (rem' := [17]) (i:=16) X Z Z ?_ ip.nil
    refine Cl (an Z Z Y) (Cp ?_)
    refine ⟨rfl,?_⟩
    refine aq (rem' := []) (i:=17) X Z Z ?_ ip.nil
    (refine ay 8 Z Z Z ?_ Z ?_;omega)
    refine Cp ?_
    refine ⟨rfl,?_⟩
    refine a5 Cj (SubM.refl _) ip.nil
    refine Cl (an Z Z Y) (Cp ?_)
    refine ⟨rfl,?_⟩
    refine bP (rem' := [15,16,17]) (rem'' := [3,16,17]) (i:=3) (j:=15) X Z Z Z Z ?_ ?_ ip.nil
    refine Cm Z (Cp ?_)
    refine ⟨rfl,?_⟩
    refine aq (rem' := [16,17]) (i:=15) X Z Z ?_ ip.nil
    (refine ay 8 Z Z Z ?_ Z ?_;omega)
    refine Cp ?_
    refine ⟨rfl,?_⟩
    refine aq (rem' := [17]) (i:=16) X Z Z ?_ ip.nil
    refine Cl (an Z Z Y) (Cp ?_)
    refine ⟨rfl,?_⟩
    refine aq (rem' := []) (i:=17) X Z Z ?_ ip.nil
    (refine ay 8 Z Z Z ?_ Z ?_;omega)
    refine Cp ?_
    refine ⟨rfl,?_⟩
    refine a5 Cj (SubM.refl _) ip.nil
    (refine ay 8 Z Z Z ?_ Z ?_;omega)
    refine Cp ?_
    refine ⟨rfl,?_⟩
    refine aq (rem' := [16,17]) (i:=3) X Z Z ?_ ip.nil
    refine Cm Z (Cp ?_)
    refine ⟨rfl,?_⟩
    refine aq (rem' := [17]) (i:=16) X Z Z ?_ ip.nil
    refine Cl (an Z Z Y) (Cp ?_)
    refine ⟨rfl,?_⟩
    refine aq (rem' := []) (i:=17) X Z Z ?_ ip.nil
    (refine ay 8 Z Z Z ?_ Z ?_;omega)
    refine Cp ?_
    refine ⟨rfl,?_⟩
    refine a5 Cj (SubM.refl _) ip.nil
    refine Cl (an Z Z Y) (Cp ?_)
    refine ⟨rfl,?_⟩
    refine fF (r1 := [4,15,16,17]) (r2 := [3,15,16,17]) (r3 := [3,4,16,17]) (i:=3) (j:=4) (k:=15) X Z Z Z Z Z Z ?_ ?_ ?_ ip.nil
    refine Cm Z (Cp ?_)
    refine ⟨rfl,?_⟩
    refine bP (rem' := [15,16,17]) (rem'' := [4,16,17]) (i:=4) (j:=15) X Z Z Z Z ?_ ?_ ip.nil
    refine Cm Z (Cp ?_)
    refine ⟨rfl,?_⟩
    refine aq (rem' := [16,17]) (i:=15) X Z Z ?_ ip.nil
    (refine ay 8 Z Z Z ?_ Z ?_;omega)
    refine Cp ?_
    refine ⟨rfl,?_⟩
    refine aq (rem' := [17]) (i:=16) X Z Z ?_ ip.nil
    refine Cl (an Z Z Y) (Cp ?_)
    refine ⟨rfl,?_⟩
    refine aq (rem' := []) (i:=17) X Z Z ?_ ip.nil
    (refine ay 8 Z Z Z ?_ Z ?_;omega)
    refine Cp ?_
    refine ⟨rfl,?_⟩
    refine a5 Cj (SubM.refl _) ip.nil
    (refine ay 8 Z Z Z ?_ Z ?_;omega)
    refine Cp ?_
    refine ⟨rfl,?_⟩
    refine aq (rem' := [16,17]) (i:=4) X Z Z ?_ ip.nil
    refine Cm Z (Cp ?_)
    refine ⟨rfl,?_⟩
    refine aq (rem' := [17]) (i:=16) X Z Z ?_ ip.nil
    refine Cl (an Z Z Y) (Cp ?_)
    refine ⟨rfl,?_⟩
    refine aq (rem' := []) (i:=17) X Z Z ?_ ip.nil
    (refine ay 8 Z Z Z ?_ Z ?_;omega)
    refine Cp ?_
    refine ⟨rfl,?_⟩
    refine a5 Cj (SubM.refl _) ip.nil
    refine Cm Z (Cp ?_)
    refine ⟨rfl,?_⟩
    refine bP (rem' := [15,16,17]) (rem'' := [3,16,17]) (i:=3) (j:=15) X Z Z Z Z ?_ ?_ ip.nil
    refine Cm Z (Cp ?_)
    refine ⟨rfl,?_⟩
    refine aq (rem' := [16,17]) (i:=15) X Z Z ?_ ip.nil
    (refine ay 8 Z Z Z ?_ Z ?_;omega)
    refine Cp ?_
    refine ⟨rfl,?_⟩
    refine aq (rem' := [17]) (i:=16) X Z Z ?_ ip.nil
    refine Cl (an Z Z Y) (Cp ?_)
    refine ⟨rfl,?_⟩
    refine aq (rem' := []) (i:=17) X Z Z ?_ ip.nil
    (refine ay 8 Z Z Z ?_ Z ?_;omega)
    refine Cp ?_
    refine ⟨rfl,?_⟩
    refine a5 Cj (SubM.refl _) ip.nil
    (refine ay 8 Z Z Z ?_ Z ?_;omega)
    refine Cp ?_
    refine ⟨rfl,?_⟩
    refine aq (rem' := [16,17]) (i:=3) X Z Z ?_ ip.nil
    refine Cm Z (Cp ?_)
    refine ⟨rfl,?_⟩
    refine aq (rem' := [17]) (i:=16) X Z Z ?_ ip.nil
    refine Cl (an Z Z Y) (Cp ?_)
    refine ⟨rfl,?_⟩
    refine aq (rem' := []) (i:=17) X Z Z ?_ ip.nil
    (refine ay 8 Z Z Z ?_ Z ?_;omega)
    refine Cp ?_
    refine ⟨rfl,?_⟩
    refine a5 Cj (SubM.refl _) ip.nil
    (refine ay 8 Z Z Z ?_ Z ?_;omega)
    refine Cp ?_
    refine ⟨rfl,?_⟩
    refine bP (rem' := [4,16,17]) (rem'' := [3,16,17]) (i:=3) (j:=4) X Z Z Z Z ?_ ?_ ip.nil
    refine Cm Z (Cp ?_)
    refine ⟨rfl,?_⟩
    refine aq (rem' := [16,17]) (i:=4) X Z Z ?_ ip.nil
    refine Cm Z (Cp ?_)
    refine ⟨rfl,?_⟩
    refine aq (rem' := [17]) (i:=16) X Z Z ?_ ip.nil
    refine Cl (an Z Z Y) (Cp ?_)
    refine ⟨rfl,?_⟩
    refine aq (rem' := []) (i:=17) X Z Z ?_ ip.nil
    (refine ay 8 Z Z Z ?_ Z ?_;omega)
    refine Cp ?_
    refine ⟨rfl,?_⟩
    refine a5 Cj (SubM.refl _) ip.nil
    refine Cm Z (Cp ?_)
    refine ⟨rfl,?_⟩
    refine aq (rem' := [16,17]) (i:=3) X Z Z ?_ ip.nil
    refine Cm Z (Cp ?_)
    refine ⟨rfl,?_⟩
    refine aq (rem' := [17]) (i:=16) X Z Z ?_ ip.nil
    refine Cl (an Z Z Y) (Cp ?_)
    refine ⟨rfl,?_⟩
    refine aq (rem' := []) (i:=17) X Z Z ?_ ip.nil
    (refine ay 8 Z Z Z ?_ Z ?_;omega)
    refine Cp ?_
    refine ⟨rfl,?_⟩
    refine a5 Cj (SubM.refl _) ip.nil
   ·refine bP (rem' := [14,15,16,17]) (rem'' := [3,15,16,17]) (i:=3) (j:=14) X Z Z Z Z ?_ ?_ ip.nil
    refine Cm Z (Cp ?_)
    refine ⟨rfl,?_⟩
    refine aq (rem' := [15,16,17]) (i:=14) X Z Z ?_ ip.nil
    refine Cl (an Z Z Y) (Cp ?_)
    refine ⟨rfl,?_⟩
    refine aq (rem' := [16,17]) (i:=15) X Z Z ?_ ip.nil
    (refine ay 8 Z Z Z ?_ Z ?_;omega)
    refine Cp ?_
    refine ⟨rfl,?_⟩
    refine aq (rem' := [17]) (i:=16) X Z Z ?_ ip.nil
    refine Cl (an Z Z Y) (Cp ?_)
    refine ⟨rfl,?_⟩
    refine aq (rem' := []) (i:=17) X Z Z ?_ ip.nil
    (refine ay 8 Z Z Z ?_ Z ?_;omega)
    refine Cp ?_
    refine ⟨rfl,?_⟩
    refine a5 Cj (SubM.refl _) ip.nil
    refine Cl (an Z Z Y) (Cp ?_)
    refine ⟨rfl,?_⟩
    refine bP (rem' := [15,16,17]) (rem'' := [3,16,17]) (i:=3) (j:=15) X Z Z Z Z ?_ ?_ ip.nil
    refine Cm Z (Cp ?_)
    refine ⟨rfl,?_⟩
    refine aq (rem' := [16,17]) (i:=15) X Z Z ?_ ip.nil
    (refine ay 8 Z Z Z ?_ Z ?_;omega)
    refine Cp ?_
    refine ⟨rfl,?_⟩
    refine aq (rem' := [17]) (i:=16) X Z Z ?_ ip.nil
    refine Cl (an Z Z Y) (Cp ?_)
    refine ⟨rfl,?_⟩
    refine aq (rem' := []) (i:=17) X Z Z ?_ ip.nil
    (refine ay 8 Z Z Z ?_ Z ?_;omega)
    refine Cp ?_
    refine ⟨rfl,?_⟩
    refine a5 Cj (SubM.refl _) ip.nil
    (refine ay 8 Z Z Z ?_ Z ?_;omega)
    refine Cp ?_
    refine ⟨rfl,?_⟩
    refine aq (rem' := [16,17]) (i:=3) X Z Z ?_ ip.nil
    refine Cm Z (Cp ?_)
    refine ⟨rfl,?_⟩
    refine aq (rem' := [17]) (i:=16) X Z Z ?_ ip.nil
    refine Cl (an Z Z Y) (Cp ?_)
    refine ⟨rfl,?_⟩
    refine aq (rem' := []) (i:=17) X Z Z ?_ ip.nil
    (refine ay 8 Z Z Z ?_ Z ?_;omega)
    refine Cp ?_
    refine ⟨rfl,?_⟩
    refine a5 Cj (SubM.refl _) ip.nil
   ·refine bP (rem' := [14,15,16,17]) (rem'' := [4,15,16,17]) (i:=4) (j:=14) X Z Z Z Z ?_ ?_ ip.nil
    refine Cm Z (Cp ?_)
    refine ⟨rfl,?_⟩
    refine aq (rem' := [15,16,17]) (i:=14) X Z Z ?_ ip.nil
    refine Cl (an Z Z Y) (Cp ?_)
    refine ⟨rfl,?_⟩
    refine aq (rem' := [16,17]) (i:=15) X Z Z ?_ ip.nil
    (refine ay 8 Z Z Z ?_ Z ?_;omega)
    refine Cp ?_
    refine ⟨rfl,?_⟩
    refine aq (rem' := [17]) (i:=16) X Z Z ?_ ip.nil
    refine Cl (an Z Z Y) (Cp ?_)
    refine ⟨rfl,?_⟩
    refine aq (rem' := []) (i:=17) X Z Z ?_ ip.nil
    (refine ay 8 Z Z Z ?_ Z ?_;omega)
    refine Cp ?_
    refine ⟨rfl,?_⟩
    refine a5 Cj (SubM.refl _) ip.nil
    refine Cl (an Z Z Y) (Cp ?_)
    refine ⟨rfl,?_⟩
    refine bP (rem' := [15,16,17]) (rem'' := [4,16,17]) (i:=4) (j:=15) X Z Z Z Z ?_ ?_ ip.nil
    refine Cm Z (Cp ?_)
    refine ⟨rfl,?_⟩
    refine aq (rem' := [16,17]) (i:=15) X Z Z ?_ ip.nil
    (refine ay 8 Z Z Z ?_ Z ?_;omega)
    refine Cp ?_
    refine ⟨rfl,?_⟩
    refine aq (rem' := [17]) (i:=16) X Z Z ?_ ip.nil
    refine Cl (an Z Z Y) (Cp ?_)
    refine ⟨rfl,?_⟩
    refine aq (rem' := []) (i:=17) X Z Z ?_ ip.nil
    (refine ay 8 Z Z Z ?_ Z ?_;omega)
    refine Cp ?_
    refine ⟨rfl,?_⟩
    refine a5 Cj (SubM.refl _) ip.nil
    (refine ay 8 Z Z Z ?_ Z ?_;omega)
    refine Cp ?_
    refine ⟨rfl,?_⟩
    refine aq (rem' := [16,17]) (i:=4) X Z Z ?_ ip.nil
    refine Cm Z (Cp ?_)
    refine ⟨rfl,?_⟩
    refine aq (rem' := [17]) (i:=16) X Z Z ?_ ip.nil
    refine Cl (an Z Z Y) (Cp ?_)
    refine ⟨rfl,?_⟩
    refine aq (rem' := []) (i:=17) X Z Z ?_ ip.nil
    (refine ay 8 Z Z Z ?_ Z ?_;omega)
    refine Cp ?_
    refine ⟨rfl,?_⟩
    refine a5 Cj (SubM.refl _) ip.nil
   ·refine aq (rem' := [15,16,17]) (i:=14) X Z Z ?_ ip.nil
    refine Cl (an Z Z Y) (Cp ?_)
    refine ⟨rfl,?_⟩
    refine aq (rem' := [16,17]) (i:=15) X Z Z ?_ ip.nil
    (refine ay 8 Z Z Z ?_ Z ?_;omega)
    refine Cp ?_
    refine ⟨rfl,?_⟩
    refine aq (rem' := [17]) (i:=16) X Z Z ?_ ip.nil
    refine Cl (an Z Z Y) (Cp ?_)
    refine ⟨rfl,?_⟩
    refine aq (rem' := []) (i:=17) X Z Z ?_ ip.nil
    (refine ay 8 Z Z Z ?_ Z ?_;omega)
    refine Cp ?_
    refine ⟨rfl,?_⟩
    refine a5 Cj (SubM.refl _) ip.nil
  ·refine gm (ConvM.cons (ConvM.cons (ConvM.cons (ConvM.cons (ConvM.cons (ConvM.cons (ConvM.cons (ConvM.cons ((ConvM.le (oI (p:=p))).trans (.trans (ConvM.cons (om (i:=p) (k:=p+1) Y hk)) (ConvM.cons (ConvM.le oJ)))))))))))) (aA (aa (aj (Cl (bC _ 1 Z Z Y) (Cm Z (Cp ?_))))))
   refine aS (3) Y Y Ch (.keep Ck (.keep Ck (.keep Ck (.keep Ck (.keep Ck (.keep Ck (.keep Ck (.keep Ck (.keep Ck (.keep Ck (.nil)))))))))))
 have h3:i=3:=by omega
 subst h3
 simp only [swI,Nat.lt_irrefl,if_false,if_true,Nat.not_lt_zero,Nat.zero_lt_one,Nat.reduceLT]
 refine ae (aj (Cl (sF Y (a9 Z Z)) (Cp (aa (ae (az Z (aX (au (au ?_)))))))))
 refine aC (aa (ae (ae (aj (Cm Z (Cl (ct _ 1 Z Z Y Y) (Cm Z (Cp (aa ?_)))))))))
 refine av (cx (Γ' := [(0,_),(1,_),(39,_),(40,_)]) Cg (SubM.refl _) ?_)
 refine bE (σ:=Nat) (Γk := [(0,_),(1,_)]) Cg (fun x => [(40,one (.int .i64 (x:Nat))),(39,one (.int .i64 (p:Nat)))]) (fun x M0=>(M0.set 3 (cK (fun q=>q) n Bl (fun q=>q) (lEx p x (lZ m R))))) (fun x=>x≤p) (fun x=>p - x) (0) (Nat.zero_le _) Ch (.keep Ck (.keep Ck (.keep Ck (.keep (BG) (.keep Ck (.keep Ck (.keep Ck (.keep Ck (.keep Ck (.keep Ck (.nil))))))))))) (fun x hx => ?_)
 refine bY (Γ' := [(40,_),(39,_),(0,_),(1,_)]) (M' := [_,_,_,_,_,_,_,_,_,_]) Z Z ?_
 by_cases hx:x<p
 ·have hx1:x<p+1:=by omega
  refine ae (aj (Cl (sT Y (a9 Z Z)) (Cp (aa (ae (aI Z (aw (aa (ae ?_)))))))))
  refine av (ae (aj (Cm Z (Cn Z (Cp (aa ?_))))))
  apply mb (Γ1 := [(0,_),(1,_),(39,_),(40,_)]) (M1 := [_,_,_,_,_,_,_,_,_,_]) 42 6 [18] [] aU X W
  ·refine Cm Z (Cl (bx Z) (Cl (ai Z) (Cl (ai Z) (Cl (bt 0 0 1 Z Z Z Z Z) (Cm Z (Cl (ct _ 1 Z Z Y Y) (Cl (an Z Z Y) (Cl (bn 2 Z Z Y) (Cm Z ?_)))))))))
   refine Cm Z (Cl (bx Z) (Cl (ai Z) (Cl (ai Z) (Cl (bt 0 0 1 Z Z Z Z Z) (Cm Z (Cl (an Z Z Y) (Cl (bn 2 Z Z Y) (Cm Z (Cm Z ?_)))))))))
   refine Cl (bx Z) (Cl (ai Z) (Cl (ai Z) (Cl (bt 0 0 1 Z Z Z Z Z) (Cm Z (Cl (an Z Z Y) (Cl (bn 2 Z Z Y) (Cm Z (Cl (an Z Z Y) (Cl (dM 3 Z Z Y Z Y) ?_)))))))))
   refine Cm Z (Cl (bx Z) (Cl (ai Z) (Cl (ai Z) (Cl (bt 0 0 1 Z Z Z Z Z) (Cm Z (Cl (ct _ 1 Z Z Y Y) (Cl (an Z Z Y) (Cl (bn 2 Z Z Y) (Cm Z ?_)))))))))
   refine Cl (an Z Z (by assumption)) (Cl (dM 3 Z Z Y Z Y) (Cp ?_))
   refine Aq (Γe := [(0,_),(1,_),(6,_),(39,_),(40,_),(51,_),(52,_),(72,_),(60,_),(84,_)]) (Γe' := [(0,_),(1,_),(39,_),(40,_),(51,_),(52,_),(72,_),(60,_),(84,_),(61,_)]) (rem := [42,43,44,45]) Z Cj Z Cj Z ?_ ?_
   ·refine bP (rem' := [42,43,44,45]) (rem'' := [18,43,44,45]) (i:=18) (j:=42) X Z Z Z Z ?_ ?_ ip.nil
    refine Cm Z (Cp ?_)
    refine ⟨rfl,?_⟩
    refine aq (rem' := [43,44,45]) (i:=42) X Z Z ?_ ip.nil
    refine Cl (an Z Z (by assumption)) (Cp ?_)
    refine ⟨rfl,?_⟩
    refine aq (rem' := [44,45]) (i:=43) X Z Z ?_ ip.nil
    (refine cZ 3 Z Z Z ?_ Z ?_ Z ?_;omega;omega)
    refine Cp ?_
    refine ⟨rfl,?_⟩
    refine aq (rem' := [45]) (i:=44) X Z Z ?_ ip.nil
    refine Cl (an Z Z Y) (Cp ?_)
    refine ⟨rfl,?_⟩
    refine aq (rem' := []) (i:=45) X Z Z ?_ ip.nil
    (refine cZ 3 Z Z Z ?_ Z ?_ Z ?_;omega;omega)
    refine Cp ?_
    refine ⟨rfl,?_⟩
    refine a5 Cj (SubM.refl _) ip.nil
    refine Cl (an Z Z (by assumption)) (Cp ?_)
    refine ⟨rfl,?_⟩
    refine bP (rem' := [43,44,45]) (rem'' := [18,44,45]) (i:=18) (j:=43) X Z Z Z Z ?_ ?_ ip.nil
    refine Cm Z (Cp ?_)
    refine ⟨rfl,?_⟩
    refine aq (rem' := [44,45]) (i:=43) X Z Z ?_ ip.nil
    (refine cZ 3 Z Z Z ?_ Z ?_ Z ?_;omega;omega)
    refine Cp ?_
    refine ⟨rfl,?_⟩
    refine aq (rem' := [45]) (i:=44) X Z Z ?_ ip.nil
    refine Cl (an Z Z Y) (Cp ?_)
    refine ⟨rfl,?_⟩
    refine aq (rem' := []) (i:=45) X Z Z ?_ ip.nil
    (refine cZ 3 Z Z Z ?_ Z ?_ Z ?_;omega;omega)
    refine Cp ?_
    refine ⟨rfl,?_⟩
    refine a5 Cj (SubM.refl _) ip.nil
    (refine cZ 3 Z Z Z ?_ Z ?_ Z ?_;omega;omega)
    refine Cp ?_
    refine ⟨rfl,?_⟩
    refine aq (rem' := [44,45]) (i:=18) X Z Z ?_ ip.nil
    refine Cm Z (Cp ?_)
    refine ⟨rfl,?_⟩
    refine aq (rem' := [45]) (i:=44) X Z Z ?_ ip.nil
    refine Cl (an Z Z Y) (Cp ?_)
    refine ⟨rfl,?_⟩
    refine aq (rem' := []) (i:=45) X Z Z ?_ ip.nil
    (refine cZ 3 Z Z Z ?_ Z ?_ Z ?_;omega;omega)
    refine Cp ?_
    refine ⟨rfl,?_⟩
    refine a5 Cj (SubM.refl _) ip.nil
   ·refine aq (rem' := [43,44,45]) (i:=42) X Z Z ?_ ip.nil
    refine Cl (an Z Z (by assumption)) (Cp ?_)
    refine ⟨rfl,?_⟩
    refine aq (rem' := [44,45]) (i:=43) X Z Z ?_ ip.nil
    (refine cZ 3 Z Z Z ?_ Z ?_ Z ?_;omega;omega)
    refine Cp ?_
    refine ⟨rfl,?_⟩
    refine aq (rem' := [45]) (i:=44) X Z Z ?_ ip.nil
    refine Cl (an Z Z Y) (Cp ?_)
    refine ⟨rfl,?_⟩
    refine aq (rem' := []) (i:=45) X Z Z ?_ ip.nil
    (refine cZ 3 Z Z Z ?_ Z ?_ Z ?_;omega;omega)
    refine Cp ?_
    refine ⟨rfl,?_⟩
    refine a5 Cj (SubM.refl _) ip.nil
  ·refine aA (aa (aj (Cl (bC _ 1 Z Z Y) (Cm Z (Cp ?_)))))
   refine aS (x+1) (hx) Y Ch (.keep Ck (.keep Ck (.keep Ck (.keep (BH) (.keep Ck (.keep Ck (.keep Ck (.keep Ck (.keep Ck (.keep Ck (.nil)))))))))))
 ·have he:p=x:=by omega
  subst he
  have hb1:p+1 - 1<p+1:=by omega
  have e1:lEx p p (lZ m R) (p+1) p=lZ m R (p+1) p:=xU
  have m1:dc (lEx p p (lZ m R) (p+1) p):=by rw [e1]; exact hL (p+1) p hk Y
  have m2:dc (dZ m R p):=hD p Y
  have m3:dc (dZ m R (p+1)):=hD (p+1) Y
  have m4:dc (dZ m R (p+2)):=hD (p+2) Y
  have b1:=eM (t:=400) (u:=400) (v:=800) m1 m1 W
  have b2:=eM (t:=400) (u:=400) (v:=800) m2 m4 W
  have c1:=bw m1
  have c2:=bw m2
  have c3:=bw m3
  have c4:=bw m4
  have c5:=ew (t:=800) b1 W
  have c6:=ew (t:=800) b2 W
  have c7:=ew (t:=801) (kG (t:=800) (v:=801) b2 b1 W) W
  have hn0 : ∀ a,a≤n→dZ m R a≠0:=fun a ha=>Lin.cB hd ha
  have hq1:Ok Tryz.prog 81 [aK (dZ m R p*dZ m R (p+2)+lEx p p (lZ m R) (p+1) p*lEx p p (lZ m R) (p+1) p),aK (dZ m R (p+1))] (aK (dZ m (Lin.exZ p R) (p+1))):=by
   have h:=fX (dZ m R p*dZ m R (p+2)+lEx p p (lZ m R) (p+1) p*lEx p p (lZ m R) (p+1) p) (dZ m R (p+1)) (hn0 _ Y) c7 c3
   rw [e1, ← Lin.uG (hn0 (p+2) Y),Int.mul_ediv_cancel _ (hn0 _ Y)] at h
   rw [e1, ← Lin.uG (hn0 (p+2) Y)]; exact h
  have Cf:dZ m R (p+2)≠0:=hn0 (p+2) Y
  refine ae (aj (Cl (sF Y (a9 Z Z)) (Cp (aa (ae (az Z (aX (au (au ?_)))))))))
  refine aC (aa (ae (aj (Cm Z (Cl (bx Z) (Cl (ai Z) (Cl (ai Z) (Cl (bt 0 0 1 Z Z Z Z Z) (Cm Z ?_)))))))))
  refine Cl (an Z Z Y) (Cl (bn 2 Z Z Y) (Cm Z (Cl (ct _ 1 Z Z Y Y) (Cl (an Z Z Y) (Cl (dM 3 Z Z Y Z Y) ?_)))))
  refine aP (T:=43) Z (ltN Z) (fun b7 => ?_)
  refine aB 0 Z Z Z Z Z (leN Z) Z (Cp (aa (ae (aj (Cl (ak 0 Z Z Z) (Cl (ak 0 Z Z Z) ?_))))))
  refine Cl (am (dw _ _ (by assumption) (by assumption)) Z ⟨H,H,Cq⟩) ?_
  refine aP (T:=43) Z (ltN Z) (fun b8 => ?_)
  refine aB 0 Z Z Z Z Z (leN Z) Z (Cp (aa (ae ?_)))
  refine dN aU X X ?_
  refine ux (fun B=>ab Z) Z Z ?_
  refine ux (fun B=>bx Z) Z Z ?_
  refine ux (fun B=>ai Z) Z Z ?_
  refine ux (fun B=>ai Z) Z Z ?_
  refine ux (fun B=>bt 2 0 0 Z Z Z Z Z) Z Z ?_
  refine ux (fun B=>ab Z) Z Z ?_
  refine ux (fun B=>ct _ 1 Z Z Y Y) Z Z ?_
  refine ux (fun B=>an Z Z Y) Z Z ?_
  refine ux (fun B=>bn 3 Z Z Y) Z Z ?_
  refine ux (fun B=>ab Z) Z Z ?_
  refine ux (fun B=>bx Z) Z Z ?_
  refine ux (fun B=>ai Z) Z Z ?_
  refine ux (fun B=>ai Z) Z Z ?_
  refine ux (fun B=>bt 2 0 0 Z Z Z Z Z) Z Z ?_
  refine ux (fun B=>ab Z) Z Z ?_
  refine ux (fun B=>bC _ 1 Z Z Y) Z Z ?_
  refine ux (fun B=>an Z Z Y) Z Z ?_
  refine ux (fun B=>bn 3 Z Z Y) Z Z ?_
  refine uxk (dw _ _ (by assumption) (by assumption)) Z ⟨H,H,Cq⟩ Z ?_
  refine ux (fun B=>ak 0 Z Z Z) Z Z ?_
  refine uxk (fO _ _ (by assumption) (by assumption)) Z ⟨H,H,Cq⟩ Z ?_
  refine ux (fun B=>ab Z) Z Z ?_
  refine ux (fun B=>bx Z) Z Z ?_
  refine ux (fun B=>ai Z) Z Z ?_
  refine ux (fun B=>ai Z) Z Z ?_
  refine ux (fun B=>bt 2 0 0 Z Z Z Z Z) Z Z ?_
  refine ux (fun B=>ab Z) Z Z ?_
  refine ux (fun B=>an Z Z Y) Z Z ?_
  refine ux (fun B=>bn 3 Z Z Y) Z Z ?_
  refine uxk (hq1) Z ⟨H,H,Cq⟩ Z ?_
  refine ua Z (us Z ?_)
  refine RunU.nil (fun γ => ?_)
  refine cC (M' := [_,_,_,_,_,_,_,_,_,_,_,_,_]) Z (aa (ae (ae (aj (Cm Z (Cl (bC _ 1 Z Z Y) (Cn Z (Cp (aa ?_)))))))))
  refine av (cx (Γ' := [(0,_),(1,_),(7,_),(9,_),(10,_)]) Cg (SubM.refl _) ?_)
  refine bE (σ:=Nat) (Γk := [(0,_),(1,_),(7,_),(9,_)]) Cg (fun i => [(10,one (.int .i64 (i:Nat)))]) (fun i M0=>(M0.set 6 (cK (fun q=>q) n Bl (fun q=>q) (lEi m p i R)))) (fun i=>p+2≤i∧i≤n) (fun i=>n - i) (p+2) (⟨Nat.le_refl _,hk⟩) Ch (.keep Ck (.keep Ck (.keep Ck (.keep Ck (.keep Ck (.keep Ck (.keep (BI hn0 hk) (.keep Ck (.keep Ck (.keep Ck (.keep Ck (.keep Ck (.keep Ck (.nil)))))))))))))) (fun i hi => ?_)
  refine bY (Γ' := [(10,_),(0,_),(1,_),(7,_),(9,_)]) (M' := [_,_,_,_,_,_,_,_,_,_,_,_,_]) Z Z ?_
  obtain ⟨hi1,hi2⟩:=hi
  by_cases hin:i<n
  ·have hi3:p+1<i:=by omega
   have hb2:p+1 - 1<i:=by omega
   have e2:lEi m p i R i p=lZ m R i p:=if_pos ⟨hi3,Nat.le_refl _⟩
   have e3:lEi m p i R i (p+1)=lZ m R i (p+1):=if_pos ⟨hi3,Nat.le_refl _⟩
   have e4:lEj m p i R i (p+1)=lZ m (Lin.exZ p R) i (p+1):=if_pos ⟨rfl,rfl⟩
   have m5:dc (lEi m p i R i p):=by rw [e2]; exact hL i p hin Y
   have m6:dc (lEi m p i R i (p+1)):=by rw [e3]; exact hL i (p+1) hin hi3
   have m7:dc (lEj m p i R i (p+1)):=by rw [e4]; exact hL' i (p+1) hin hi3
   have d5:=bw m5
   have d6:=bw m6
   have d7:=bw m7
   have dD:=bw hD'
   have p1:=eM (t:=400) (u:=400) (v:=800) m4 m5 W
   have p2:=eM (t:=400) (u:=400) (v:=800) m1 m6 W
   have p3:=eM (t:=400) (u:=400) (v:=800) hD' m6 W
   have p4:=eM (t:=400) (u:=400) (v:=800) m1 m7 W
   have s1:=ew (t:=800) p1 W
   have s2:=ew (t:=800) p2 W
   have s3:=ew (t:=800) p3 W
   have s4:=ew (t:=800) p4 W
   have hq2:Ok Tryz.prog 81 [aK (dZ m R (p+2)*lEi m p i R i p - lEx p p (lZ m R) (p+1) p*lEi m p i R i (p+1)),aK (dZ m R (p+1))] (aK (lZ m (Lin.exZ p R) i (p+1))):=by
    have h:=fX (dZ m R (p+2)*lEi m p i R i p - lEx p p (lZ m R) (p+1) p*lEi m p i R i (p+1)) (dZ m R (p+1)) (hn0 _ Y) (ew (t:=801) (tA (t:=800) (v:=801) p1 p2 W) W) c3
    rw [e1,e2,e3, ← Lin.uH Cf hi3,Int.mul_ediv_cancel _ (hn0 _ Y)] at h
    rw [e1,e2,e3, ← Lin.uH Cf hi3]; exact h
   have hq3:Ok Tryz.prog 81 [aK (dZ m (Lin.exZ p R) (p+1)*lEi m p i R i (p+1)+lEx p p (lZ m R) (p+1) p*lEj m p i R i (p+1)),aK (dZ m R (p+2))] (aK (lZ m (Lin.exZ p R) i p)):=by
    have h:=fX (dZ m (Lin.exZ p R) (p+1)*lEi m p i R i (p+1)+lEx p p (lZ m R) (p+1) p*lEj m p i R i (p+1)) (dZ m R (p+2)) Cf (ew (t:=801) (kG (t:=800) (v:=801) p3 p4 W) W) c4
    rw [e1,e3,e4, ← Lin.uI Cf hi3,Int.mul_ediv_cancel _ Cf] at h
    rw [e1,e3,e4, ← Lin.uI Cf hi3]; exact h
   refine ae (ae (aj (Cm Z (Cm Z (Cl (bx Z) (Cl (ai Z) (Cl (ai Z) (Cl (bt 3 0 1 Z Z Z Z Z) (Cl (f6 Z) ?_)))))))))
   refine Cl (sT Y (a9 Z Z)) (Cp (aa (aI Z (aw (aa (ae (av (ae (aj ?_)))))))))
   refine Cm Z (Cl (bx Z) (Cl (ai Z) (Cl (ai Z) (Cl (bt 3 0 1 Z Z Z Z Z) (Cm Z (Cl (an Z Z Y) (Cl (bn 5 Z Z Y) (Cm Z (Cl (an Z Z Y) ?_)))))))))
   refine Cl (dM 6 Z Z Y Z Y) ?_
   refine aP (T:=43) Z (ltN Z) (fun b11 => ?_)
   refine aB 0 Z Z Z Z Z (leN Z) Z (Cp (aa (ae ?_)))
   refine dN aU X X ?_
   refine ux (fun B=>ab Z) Z Z ?_
   refine ux (fun B=>bx Z) Z Z ?_
   refine ux (fun B=>ai Z) Z Z ?_
   refine ux (fun B=>ai Z) Z Z ?_
   refine ux (fun B=>bt 4 0 0 Z Z Z Z Z) Z Z ?_
   refine ux (fun B=>ab Z) Z Z ?_
   refine ux (fun B=>bC _ 1 Z Z Y) Z Z ?_
   refine ux (fun B=>an Z Z Y) Z Z ?_
   refine ux (fun B=>bn 5 Z Z Y) Z Z ?_
   refine ux (fun B=>ab Z) Z Z ?_
   refine ux (fun B=>bx Z) Z Z ?_
   refine ux (fun B=>ai Z) Z Z ?_
   refine ux (fun B=>ai Z) Z Z ?_
   refine ux (fun B=>bt 4 0 1 Z Z Z Z Z) Z Z ?_
   refine ux (fun B=>ab Z) Z Z ?_
   refine ux (fun B=>an Z Z Y) Z Z ?_
   refine ux (fun B=>bn 6 Z Z Y) Z Z ?_
   refine ux (fun B=>ab Z) Z Z ?_
   refine ux (fun B=>ct _ 1 Z Z Y Y) Z Z ?_
   refine ux (fun B=>an Z Z Y) Z Z ?_
   refine ux (fun B=>dM 7 Z Z Y Z Y) Z Z ?_
   refine uxk (dw _ _ (by assumption) (by assumption)) Z ⟨H,H,Cq⟩ Z ?_
   refine ux (fun B=>ak 3 Z Z Z) Z Z ?_
   refine ux (fun B=>ak 0 Z Z Z) Z Z ?_
   refine uxk (dw _ _ (by assumption) (by assumption)) Z ⟨H,H,Cq⟩ Z ?_
   refine uxk (lk _ _ (by assumption) (by assumption)) Z ⟨H,H,Cq⟩ Z ?_
   refine ua Z (us Z ?_)
   refine RunU.nil (fun γ => ?_)
   refine cC (M' := [_,_,_,_,_,_,_,_,_,_,_,_,_,_,_]) Z (aa (ae (a4 19 aU X W (Cm Z (Cl (bx Z) (Cl (ai Z) (Cl (ai Z) (Cl (bt 5 0 1 Z Z Z Z Z) (Cm Z ?_)))))))))
   refine Cl (an Z Z Y) (Cl (bn 7 Z Z Y) (Cm Z (Cl (ak 0 Z Z Z) (Cm Z (Cl (bx Z) (Cl (ai Z) (Cl (ai Z) (Cl (bt 5 0 0 Z Z Z Z Z) (Cm Z ?_)))))))))
   refine Cl (an Z Z Y) (Cl (bn 6 Z Z Y) ?_)
   refine Cl (am (hq2) Z ⟨H,H,Cq⟩) ?_
   refine Cp (Cl (an Z Z Y) ?_)
   (refine cZ 8 Z Z Z ?_ Z ?_ Z ?_;omega;omega)
   refine Cp (aa (ae (eS (ConvM.cons (ConvM.cons (ConvM.cons (ConvM.cons (ConvM.cons (ConvM.cons (ConvM.cons (ConvM.cons (ConvM.le BJ))))))))) ?_)))
   refine dN aU X X ?_
   refine ux (fun B=>ak 2 Z Z Z) Z Z ?_
   refine ux (fun B=>ak 1 Z Z Z) Z Z ?_
   refine uxk (dw _ _ (by assumption) (by assumption)) Z ⟨H,H,Cq⟩ Z ?_
   refine ux (fun B=>ak 4 Z Z Z) Z Z ?_
   refine ux (fun B=>ab Z) Z Z ?_
   refine ux (fun B=>bx Z) Z Z ?_
   refine ux (fun B=>ai Z) Z Z ?_
   refine ux (fun B=>ai Z) Z Z ?_
   refine ux (fun B=>bt 5 0 1 Z Z Z Z Z) Z Z ?_
   refine ux (fun B=>ab Z) Z Z ?_
   refine ux (fun B=>an Z Z Y) Z Z ?_
   refine ux (fun B=>bn 7 Z Z Y) Z Z ?_
   refine ux (fun B=>ab Z) Z Z ?_
   refine ux (fun B=>an Z Z Y) Z Z ?_
   refine ux (fun B=>dM 8 Z Z Y Z Y) Z Z ?_
   refine uxk (dw _ _ (by assumption) (by assumption)) Z ⟨H,H,Cq⟩ Z ?_
   refine uxk (fO _ _ (by assumption) (by assumption)) Z ⟨H,H,Cq⟩ Z ?_
   refine ua Z (us Z ?_)
   refine RunU.nil (fun γ => ?_)
   refine cC (M' := [_,_,_,_,_,_,_,_,_,_,_,_,_,_,_,_]) Z (aa (a4 21 aU X W (Cm Z (Cl (bx Z) (Cl (ai Z) (Cl (ai Z) (Cl (bt 6 0 1 Z Z Z Z Z) (Cm Z (Cl (an Z Z Y) ?_)))))))))
   refine Cl (bn 8 Z Z Y) (Cm Z (Cl (ct _ 1 Z Z Y Y) (Cl (ak 0 Z Z Z) (Cm Z (Cl (bx Z) (Cl (ai Z) (Cl (ai Z) (Cl (bt 6 0 0 Z Z Z Z Z) (Cm Z ?_)))))))))
   refine Cl (bC _ 1 Z Z Y) (Cl (an Z Z Y) (Cl (bn 7 Z Z Y) ?_))
   refine Cl (am (hq3) Z ⟨H,H,Cq⟩) ?_
   refine Cp (Cl (an Z Z Y) ?_)
   (refine cZ 9 Z Z Z ?_ Z ?_ Z ?_;omega;omega)
   refine Cp (aA (aa (aj (Cm Z (Cl (bC _ 1 Z Z Y) (Cn Z (Cp ?_)))))))
   refine aS (i+1) (⟨by omega,hin⟩) Y Ch (.drop (.drop (.drop (.keep Ck (.keep Ck (.keep Ck (.keep Ck (.keep Ck (.keep Ck (.keep (BK hn0 hi3 hin) (.keep Ck (.keep Ck (.keep Ck (.keep Ck (.keep Ck (.keep Ck (.nil)))))))))))))))))
  ·have he:n=i:=by omega
   subst he
   refine ae (ae (aj (Cm Z (Cm Z (Cl (bx Z) (Cl (ai Z) (Cl (ai Z) (Cl (bt 3 0 1 Z Z Z Z Z) (Cl (f6 Z) ?_)))))))))
   refine Cl (sF Y (a9 Z Z)) (Cp (aa (az Z (aX (au (au (aC (aa (a4 7 aU X W ?_)))))))))
   refine Cm Z (Cl (bx Z) (Cl (ai Z) (Cl (ai Z) (Cl (bt 3 0 0 Z Z Z Z Z) (Cm Z (Cl (ak 0 Z Z Z) (Cp (Cl (an Z Z Y) ?_))))))))
   (refine ay 4 Z Z Z ?_ Z ?_;omega)
   refine Cp (qa ?_)
   exact wo (σ:=Unit) (ψ:=fun _=>bL []) () Tryz.results64 H (.drop (.drop (.drop (.keep Ck (.keep (BM Cf) (.keep Ck (.keep BL (SubM.refl _))))))))
end Tor
end
section
namespace Tor
open Go Go.RowKit Go.Proofs
open Lin (dZ lZ uZ eh dR et)
/-! ### Sizes -/
def fB (B:Nat):Nat→Nat
 | 0 => 1
 | n + 1 => (n + 1) * (B * fB B n)
theorem lN {B:Nat} {f:Nat→Int} (h : ∀ k,(f k).natAbs≤B) : ∀ n,(Lin.smZ n f).natAbs≤n*B
 | 0 => by show (0 : Int).natAbs ≤ _; simp
 | n + 1 => by
  have h1:=lN h n
  have h2:=h n
  show (Lin.smZ n f+f n).natAbs≤_
  rw [Nat.succ_mul]
  omega
theorem pM {B:Nat} : ∀ {n:Nat} {F:Nat→Nat→Int},(∀ i j,(F i j).natAbs≤B)→(Lin.qr n F).natAbs≤fB B n
 | 0, _, _ => Nat.le_refl _
 | n + 1, F, hF => by
  show (Lin.smZ (n+1) _).natAbs≤(n+1)*(B*fB B n)
  refine lN (fun k => ?_) (n+1)
  rw [Int.natAbs_mul,Int.natAbs_mul,show (Lin.wV k).natAbs=1 by unfold Lin.wV;split <;> rfl,Nat.one_mul]
  exact Nat.mul_le_mul (hF 0 k) (pM fun i j=>hF _ _)
theorem fR {x:Int} {t:Nat} (h:x.natAbs≤2^t) (ht:t≤400):dc x:=zU (t:=t) (u:=400) h ht
theorem fC {m n:Nat} {F:Nat→Nat→Int} (hm:m≤4) (hn:n≤4) (hF : ∀ i j,(F i j).natAbs≤64):DesB m n F:=by
 have hd : ∀ i j,(eh m (F i) (F j)).natAbs≤16384:=fun i j=>by
  have h1:=lN (B:=4096) (f:=fun k=>F i k*F j k) (fun k=>by rw [Int.natAbs_mul]; exact Nat.mul_le_mul (hF i k) (hF j k)) m
  exact Nat.le_trans h1 (Nat.le_trans (Nat.mul_le_mul_right _ hm) W)
 refine ⟨fun i j=>fR (t:=6) (hF i j) W,fun i j t ht hj hi => ?_⟩
 have h1:=pM (n:=t+1) (fun a b=>hd (Lin.rr t i a) (Lin.rr t j b))
 refine fR (t:=70) (Nat.le_trans h1 ?_) W
 rcases (show t=0∨t=1∨t=2∨t=3 by omega) with rfl | rfl | rfl | rfl <;> decide
theorem LB.des {m n N0:Nat} {F:Nat→Nat→Int} (h:LB m n N0 F):DesB m n F:=fC h.m4 h.n4 h.f
section
variable {m n N0 e t k:Nat} {F:Nat→Nat→Int} {s:LS}
theorem lO {x:Int} (h:x.natAbs≤2^785000):ef x:=Nat.le_trans (ig (t:=785000) (k:=25000) h W) W
theorem LAll.d4 (h:LAll m n N0 F s e t k) (hb:LB m n N0 F) (h0:0<n) : ∀ a,a≤n→dc (dZ m s.R a):=fun a ha=>by
 have h1:=h.inv.dz hb.n4 h0 a ha
 have h2:=Lin.gz (m:=m) (F:=s.R) a
 have h3:=hb.p4
 exact fR (t:=48) Y W
theorem LAll.l4 (h:LAll m n N0 F s e t k) (hb:LB m n N0 F) : ∀ a b,a<n→b<a→dc (lZ m s.R a b):=fun a b ha hb' =>
 fR (t:=48) (Nat.le_trans (h.inv.lz hb.n4 a b ha hb') hb.p4) W
theorem Ph.shH (h:Ph m n N0 F 0 k e t s) (hb:LB m n N0 F) (hk:k<n):ShH m n k s:=by
 have hs:=h.all.inv.sh hk hb.n4
 have ht:=h.t_le hb
 have hB : ∀ i,i≤k→BndL (2^785000) (stA m k s i):=fun i hi=>(hs i hi).bnd.mono (hb.grow Y (by have:=hb.n4;omega))
 refine ⟨h.all.inv.dn,h.all.d4 hb Y,fun i hi a b ha hb' => ?_,fun i hi a=>(hs i hi).dz a,fun i hi a b=>lO ((hB i hi).r a b),fun i hi a b=>lO ((hB i hi).u a b),fun i hi a b=>lO ((hB i hi).v a b)⟩
 by_cases hak:a=k
 ·subst hak
  have h1:=(hs i hi).lb b hb'
  have h2:=so (c:=49*(i+1)) (i+1) hb.p5 Z
  exact fR (t:=49*(i+1)) (Nat.le_trans h1 h2) (by have:=hb.n4;omega)
 ·rw [(hs i hi).lo a b hak hb' Y]
  exact h.all.l4 hb a b ha hb'
end
abbrev rdT (a b c:VT):VT:=bB 9 [(0, .agg 3,a),(3, .agg 3,b),(6, .agg 3,c)]
abbrev AZ (m n N:Nat) (F:Nat→Nat→Int):Type := {s:LS // RedOut m n N F s}
abbrev BN (m n:Nat) (s:LS):VT:=rdT (cg n m s.R) (cg n n s.U) (cg n n s.V)
abbrev BO:VT:=rdT (cg 0 0 fun _ _=>0) (cg 0 0 fun _ _=>0) (cg 0 0 fun _ _=>0)
theorem qT {F:Nat→Nat→Int} : VT.le (one (.agg #[.int .i64 0, .int .i64 0, .slice none 0 0])) (cg 0 0 F):=fun v h e=>by
 have e:v = .agg #[.int .i64 0, .int .i64 0, .slice none 0 0]:=e
 subst e
 exact ⟨_,rfl,rfl,by kernel_rfl,fun q hq=>by
  simp only [List.mem_cons,List.not_mem_nil,or_false] at hq
  rcases hq with rfl | rfl | rfl
  ·exact ⟨_,rfl,rfl⟩
  ·exact ⟨_,rfl,rfl⟩
  ·exact ⟨_,rfl,gi _ _ Z⟩⟩
theorem A0:VT.le (bB 9 (de #[.int .i64 0, .int .i64 0, .slice none 0 0, .int .i64 0, .int .i64 0, .slice none 0 0, .int .i64 0, .int .i64 0, .slice none 0 0] [(0, .agg 3),(3, .agg 3),(6, .agg 3)])) BO:=e8 (fun q hq=>by
 simp only [List.mem_cons,List.not_mem_nil,or_false] at hq
 rcases hq with rfl | rfl | rfl
 ·exact ⟨_,List.mem_cons_self,qT⟩
 ·exact ⟨_,List.mem_cons_of_mem _ List.mem_cons_self,qT⟩
 ·exact ⟨_,List.mem_cons_of_mem _ (List.mem_cons_of_mem _ List.mem_cons_self),qT⟩)
theorem xV {b:Nat} {T:TypeId} {Cc:VT} : Own.le (aW b T 5 [(0, .agg 2,Cc),(2, .agg 3,one (.agg #[.slice none 0 0, .slice none 0 0, .slice none 0 0]))]) (aW b T 5 [(0, .agg 2,Cc),(2, .one,one (.slice none 0 0)),(3, .one,one (.slice none 0 0)),(4, .one,one (.slice none 0 0))]) :=
 ⟨rfl,fun g k ⟨c,h1,h2,h3,h4⟩=>⟨c,h1,h2,h3,fun q hq=>by
  obtain ⟨x,hx,hp⟩:=h4 _ (List.mem_cons_of_mem _ List.mem_cons_self)
  have hp:x = .agg #[.slice none 0 0, .slice none 0 0, .slice none 0 0]:=hp
  subst hp
  have hx:(if 2+3≤c.size then some (Value.agg (c.extract 2 (2+3))) else none)=some (.agg #[.slice none 0 0, .slice none 0 0, .slice none 0 0]):=hx
  rw [if_pos Y] at hx
  have hx:c.extract 2 5 = #[.slice none 0 0, .slice none 0 0, .slice none 0 0]:=by injection hx with hx;injection hx
  have hg : ∀ j,j<3→c[2+j]? = some (.slice none 0 0):=fun j hj=>by
   have e:(c.extract 2 5)[j]? = c[2+j]? := by rw [Array.getElem?_extract,if_pos Y]
   rw [← e,hx]
   rcases (show j=0∨j=1∨j=2 by omega) with rfl | rfl | rfl <;> rfl
  simp only [List.mem_cons,List.not_mem_nil,or_false] at hq
  rcases hq with rfl | rfl | rfl | rfl
  ·exact h4 _ List.mem_cons_self
  ·exact ⟨_,hg 0 W,rfl⟩
  ·exact ⟨_,hg 1 W,rfl⟩
  ·exact ⟨_,hg 2 W,rfl⟩⟩⟩
theorem zw {b:Nat} {T:TypeId} {Cc φ ψ χ:VT} : Own.le (aW b T 5 [(0, .agg 2,Cc),(2, .one, φ),(3, .one, ψ),(4, .one, χ)]) (aW b T 5 [(0, .agg 2,Cc),(2, .agg 3,bB 3 [(0, .one, φ),(1, .one, ψ),(2, .one, χ)])]) :=
 ⟨rfl,fun g k ⟨c,h1,h2,h3,h4⟩=>⟨c,h1,h2,h3,fun q hq=>by
  have hg : ∀ j,j<3→(c.extract 2 5)[j]? = c[2+j]? := fun j hj=>by rw [Array.getElem?_extract,if_pos Y]
  simp only [List.mem_cons,List.not_mem_nil,or_false] at hq
  rcases hq with rfl | rfl
  ·exact h4 _ List.mem_cons_self
  ·refine ⟨.agg (c.extract 2 5),if_pos (by show 2+3≤c.size;omega),c.extract 2 5,rfl,by rw [Array.size_extract]; omega,?_,fun q hq => ?_⟩
   ·rw [Array.all_eq_true] at h3 ⊢
    intro i hi
    rw [Array.getElem_extract]; exact h3 _ _
   ·simp only [List.mem_cons,List.not_mem_nil,or_false] at hq
    rcases hq with rfl | rfl | rfl
    ·obtain ⟨x,hx,hp⟩:=h4 (2, .one, φ) (by simp);exact ⟨x,(hg 0 W).trans hx,hp⟩
    ·obtain ⟨x,hx,hp⟩:=h4 (3, .one, ψ) (by simp);exact ⟨x,(hg 1 W).trans hx,hp⟩
    ·obtain ⟨x,hx,hp⟩:=h4 (4, .one, χ) (by simp);exact ⟨x,(hg 2 W).trans hx,hp⟩⟩⟩
theorem xW {T:TypeId} {bz cap n i b k m:Nat} {B C:Nat→Nat} {z:VT} : Own.le (aN (some bz) T .one cap n (upd (fun q=>if q<i then one (slV (some (B q)) m (C q)) else z) i (one (slV (some b) m k)))) (aN (some bz) T .one cap n (fun q=>if q<i+1 then one (slV (some (if q=i then b else B q)) m (if q=i then k else C q)) else z)):=bJ fun q _=>by
 unfold upd
 by_cases h:q=i
 ·subst h;rw [if_pos Z,if_pos (Nat.lt_succ_self q),if_pos Z,if_pos Z]
 ·rw [if_neg h]
  dsimp only
  by_cases h2:q<i
  ·rw [if_pos h2,if_pos Y,if_neg h,if_neg h]
  ·rw [if_neg h2,if_neg Y]
theorem vM {T:TypeId} {L:Lay} {n i b k:Nat} {c B C:Nat→Nat} {φ χ:Nat→Nat→VT} {ψ:Nat→VT} (h1 : ∀ j,j<c i→VT.le (ψ j) (χ i j)) (h2 : ∀ q j,q<i→j<c q→VT.le (φ q j) (χ q j)):Own.le (rvO T L c n (fun q=>if q=i then b else B q) (fun q=>if q=i then k else C q) (fun q=>if q=i then ψ else φ q) (fun q=>if q=i then false else decide (i≤q))) (rvO T L c n (fun q=>if q=i then b else B q) (fun q=>if q=i then k else C q) χ (fun q=>decide (i+1≤q))):=c9 (fun q _=>by
  by_cases h:q=i
  ·rw [if_pos h,decide_eq_false Y]
  ·rw [if_neg h]; exact decide_eq_decide.2 Y) (fun q _ _=>⟨rfl,rfl⟩) fun q j hq hS hj=>by
 by_cases h:q=i
 ·subst h;rw [if_pos Z]; exact h1 j hj
 ·rw [if_neg h] at hS ⊢
  exact h2 q j (by have:=of_decide_eq_false hS;omega) hj
theorem z6 (n:Nat) (is:List Nat) {L L':Mem} (h:is.isPerm (List.range n)=true) (hn:L.length=n) (h2:is.map (fun i=>L.getD i (aN none 0 .one 0 0 fun _=>bK))=L'):L.Perm L':=by
 subst hn
 have h1:=(List.isPerm_iff.1 h).map fun i=>L.getD i (aN none 0 .one 0 0 fun _=>bK)
 rw [h2] at h1
 have e:(List.range L.length).map (fun i=>L.getD i (aN none 0 .one 0 0 fun _=>bK))=L:=by
  refine List.ext_getElem (by simp) fun i h1 h2 => ?_
  simp [List.getD,h2]
 rw [e] at h1
 exact h1.symm
theorem BP {n:Nat} {B C:Nat→Nat} : Own.le (cK (fun _=>n) n B C idF) (cK (fun _=>n) n B C (trF idF)):=c9 (fun _ _=>rfl) (fun _ _ _=>⟨rfl,rfl⟩) fun a b _ _ _=>by
 show VT.le (aK (if a=b then 1 else 0)) (aK (if b=a then 1 else 0))
 by_cases h:a=b
 ·rw [if_pos h,if_pos h.symm]; exact VT.le_refl _
 ·rw [if_neg h,if_neg (fun e=>h e.symm)]; exact VT.le_refl _
theorem qU {n a b k e:Nat} (h:phN a<phN b):phM n a k e<phM n b k e:=Nat.add_lt_add_left h _
theorem A1 {n p:Nat} {B C:Nat→Nat} {V:Nat→Nat→Int} : Own.le (cK (fun _=>n) n B C (swp p (p+1) (trF V))) (cK (fun _=>n) n B C (trF (tu p (p+1) V))):=c9 (fun _ _=>rfl) (fun _ _ _=>⟨rfl,rfl⟩) fun a b _ _ _=>by
 show VT.le (aK (swp p (p+1) (trF V) a b)) (aK (tu p (p+1) V b a))
 have e:swp p (p+1) (trF V) a b=tu p (p+1) V b a:=by
  unfold tu swp
  split
  ·rfl
  ·split <;> rfl
 rw [e]; exact VT.le_refl _
theorem BQ {sv:Option Nat} {cd k:Nat} {D D':Nat→Int} (h : ∀ a,D a=D' a):Own.le (dO sv cd k D) (dO sv cd k D'):=bJ fun q _=>by rw [h]
theorem mu {Ms:Mem} {n c bz:Nat} {B C:Nat→Nat} {F:Nat→Nat→Int} (h1:fW bz n n (fun _=>c) B C∈Ms) (h2:cK (fun _=>c) n B C F∈Ms):Ent Ms (one (slV (some bz) n n)) (slT .one n fun i=>cH c (F i)):=by
 refine Ent.slE h1 fun q hq => ?_
 unfold cH
 exact Ent.rvo h2 hq Z
theorem A2 {a b c a' b' c':VT} (h1:VT.le a a') (h2:VT.le b b') (h3:VT.le c c'):VT.le (rdT a b c) (rdT a' b' c'):=e8 (fun q hq=>by
 simp only [List.mem_cons,List.not_mem_nil,or_false] at hq
 rcases hq with rfl | rfl | rfl
 ·exact ⟨_,List.mem_cons_self,h1⟩
 ·exact ⟨_,List.mem_cons_of_mem _ List.mem_cons_self,h2⟩
 ·exact ⟨_,List.mem_cons_of_mem _ (List.mem_cons_of_mem _ List.mem_cons_self),h3⟩)
attribute [local irreducible] J PJ aJ one slT cv bB bL exT cp eP aW aN slV VT.le Ret bK
attribute [local irreducible] rvO aK
theorem pN (m n:Nat) (F:Nat→Nat→Int) (hn:n≤1048576) (hm:m≤1048576) (hb:DesB m n F) (hd:dZ m F n=0):Ok Tryz.prog 26 [cg n m F] (bL [BO,one (.int .i64 170)]):=by
 have hva:=cT n m F
 obtain ⟨k,h1,h2,h3⟩:=lK hd
 have hde:=jG m n k F hn hm hb h1 h2 h3
 refine Ok.enter Tryz.func26 Z Tryz.ntmps26 Z (fun w O => ?_)
 refine ae (aj ?_)
 refine aQ Z Z (ltN Z) (fun b1 => ?_)
 refine aT (T:=54) Z Z Z (fun b2 => ?_)
 refine Cn Z (Cp (aa (ae (ae (aj (Cl (aL 1 Z Z) ?_))))))
 refine Cl (am (hva) Z ⟨H,Cq⟩) ?_
 refine Cl (bS Z) (Cp (aa (az Z (aw (aa (ae (aj (Cl (ai Z) (Cl (ak 1 Z Z Z) ?_)))))))))
 refine Cl (am (hde) Z ⟨H,Cq⟩) ?_
 refine Cm Z (Cl (ar Z Z) (Cl (ar Z Z) ?_))
 refine aT (T:=81) Z Z Z (fun b4 => ?_)
 refine aR 0 Z Z Z Z (Cn Z (Cp (aa (ae (ae (aj (Cm Z (Cl (bS Z) (Cp ?_)))))))))
 refine aa (aI Z (ae (aj (stB Z Z Z (BuildK.nil (aR 1 Z Z Z Z (Cn Z (Cp (aa ?_)))))))))
 refine aD (aE ?_)
 refine eX Tryz.results26 (.cellW 1 Z Z (A0)) (.tmp Z H)
set_option maxRecDepth 100000 in
theorem j8 (m n N0:Nat) (F:Nat→Nat→Int) (hb:LB m n N0 F) (hd:dZ m F n≠0):OkM (σ:=AZ m n (2*N0) F) Tryz.prog 26 [cg n m F] (fun s=>bL [BN m n s.1,one (.int .i64 0)]) (fun _ => []):=by
 have hn:n≤1048576:=by have:=hb.n4;omega
 have hm:m≤1048576:=by have:=hb.m4;omega
 have hva:=cT n m F
 have hde:=mJ m n F hn hm hb.des hd
 refine OkM.enter Tryz.func26 Z Tryz.ntmps26 Z (fun w O => ?_)
 refine ae (aj ?_)
 refine aQ Z Z (ltN Z) (fun b1 => ?_)
 refine aT (T:=54) Z Z Z (fun b2 => ?_)
 refine Cn Z (Cp (aa (ae (ae (aj (Cl (aL 1 Z Z) ?_))))))
 refine Cl (am (hva) Z ⟨H,Cq⟩) ?_
 refine Cl (bS Z) (Cp (aa (az Z (aw (aa (ae (aj (Cl (ai Z) (Cl (ak 1 Z Z Z) ?_)))))))))
 refine ea (hde) Z ⟨H,Cq⟩ Z Z (fun s19 => ?_)
 refine Cm Z (Cl (ar Z Z) (Cl (ar Z Z) ?_))
 refine aT (T:=81) Z Z Z (fun b4 => ?_)
 refine aR 0 Z Z Z Z (Cn Z (Cp (aa (ae (ae (aj (Cm Z (Cl (bS Z) (Cp ?_)))))))))
 refine aa (az Z (aw (aa (ae (aj (Cl (ai Z) (Cl (ak 5 Z Z Z) (Cn Z (Cp ?_)))))))))
 refine aa (ae (aj (Cl (aL 0 Z Z) (stB Z Z Z (BuildK.cons Z Z Z (BuildK.nil ?_))))))
 refine aT (T:=100) Z Z Z (fun b7 => ?_)
 refine aR 0 Z Z Z Z (Cp (aa (ae (eS (ConvM.le xV) (aj (Cm Z ?_))))))
 refine bX n n Z Z Z Z (Nat.le_refl _) Z Z Y Z Z (fun bR => ?_)
 refine Cl (ai Z) (Cl (ez 0 _ Z Z (ltN Z)) (aB 1 Z Z Z Z Z (leN Z) Z (Cp (aa (ae (ae (aj (Cl (ai Z) (Cl (ak 7 Z Z Z) ?_)))))))))
 refine Cl (aV Z) (Cm Z (Cp (aa (av ?_))))
 refine eS (jC (T:=43) (L := .agg 2) (c:=fun _=>m) (n:=n) (B:=fun _=>0) (C:=fun _=>0) (φ:=eK F) (Ce:=fun q=>decide (0≤q)) (fun i _=>decide_eq_true (Nat.zero_le i))) ?_
 refine cx (Γ' := [(1,_),(2,_),(3,_),(6,_),(7,_),(34,_),(35,_),(36,_)]) Cg (SubM.refl _) ?_
 refine bE (σ:=Nat × (Nat→Nat) × (Nat→Nat)) (Γk := [(1,_),(2,_),(3,_),(6,_),(7,_),(34,_),(35,_)]) Cg (fun s => [(36,one (.int .i64 (s.1:Nat)))]) (fun s M0=>((M0.set 0 (rvO 43 (.agg 2) (fun _=>m) n s.2.1 s.2.2 (eK F) (fun q=>decide (s.1≤q)))).set 1 (aN (some bR) 50 .one n n (fun q=>if q<s.1 then one (slV (some (s.2.1 q)) m (s.2.2 q)) else one (.slice none 0 0))))) (fun s=>s.1≤n) (fun s=>n - s.1) ((0,fun _=>0,fun _=>0)) (Nat.zero_le _) Ch (.keep Ck (.keep Ck (.keep Ck (.keep Ck (.keep Ck (.keep Ck (.keep Ck (.keep Ck (.keep Ck (.nil)))))))))) (fun s hs => ?_)
 refine bY (Γ' := [(36,_),(1,_),(2,_),(3,_),(6,_),(7,_),(34,_),(35,_)]) (M' := [_,_,_,_,_,_,_,_,_]) Z Z ?_
 obtain ⟨i,B,C⟩:=s
 dsimp only at hs ⊢
 by_cases hi:i<n
 ·have hm0:0<m:=by
   rcases Nat.eq_zero_or_pos m with h | h
   ·exfalso
    subst h
    exact Lin.cB hd (show 1≤n by omega) Z
   ·exact h
  have hcl:=vG m (F i) hm0 hm
  refine ae (aj (Cl (sT Y (a9 Z Z)) (Cp (aa (ae (aI Z (aw (aa (ae ?_)))))))))
  refine av (ae (aj (Cm Z (Cl (ax Z Z Y) (Cl (aG Z) (Cn Z (Cn Z (Cp (aa ?_)))))))))
  refine oD 2 6 [5] (0,0) (fun j s=>one (slV (some s.1) m s.2)) (fun j s => [aN (some s.1) 43 (.agg 2) s.2 m (fun j=>aK (F i j))]) aU X W Z W ?_
  refine kx Z (fun s B=>ai Z) Z ?_
  refine kx Z (fun s B=>ez 0 0 Z Z W) Z ?_
  refine kx Z (fun s B=>ak 2 Z Z Z) Z ?_
  refine kx Z (fun s B=>ab Z) Z ?_
  refine kx Z (fun s B=>ab Z) Z ?_
  refine kc Z (fun s B=>zk hcl Z ⟨H,Cq⟩) Z ?_
  refine .nil fun s => ?_
  refine kZ (Γ' := [(46,one (slV (some (s 5).1) m (s 5).2)),(44,one (.int .i64 (i:Nat))),(43,one (slV (some bR) n n)),(36,one (.int .i64 (i:Nat))),(1,_),(2,_),(3,_),(6,_),(7,_),(34,_),(35,_)]) (M' := [_,_,_,_,_,_,_,_,_,_]) Cj (SubM.refl _) ?_
  generalize s 5=p
  obtain ⟨b,c⟩:=p
  dsimp only
  refine Cl (an Z Z Y) ?_
  (refine ay 2 Z Z Z ?_ Z ?_;omega)
  refine Cp (aA (aa (aj (Cl (bC _ 1 Z Z Y) (Cm Z (Cp ?_))))))
  refine gm (je (c:=fun _=>m) (i:=i) hi (decide_eq_true (Nat.le_refl i))) ?_
  refine aS ((i+1,(fun q=>if q=i then b else B q),fun q=>if q=i then c else C q)) Y Y Ch (.keep (vM (fun j hj=>VT.le_refl _) (fun q j _ _=>VT.le_refl _)) (.keep (xW) (.keep Ck (.keep Ck (.keep Ck (.keep Ck (.keep Ck (.keep Ck (.keep Ck (.nil))))))))))
 ·have he:n=i:=by omega
  subst he
  refine ae (aj (Cl (sF Y (a9 Z Z)) (Cp (aa (ae (az Z (aX (au (au ?_)))))))))
  refine aC (aa (ae (aj (Cm Z ?_))))
  refine ea (uq _ (by assumption)) Z ⟨H,Cq⟩ Z Z (fun s50 => ?_)
  refine Cm Z ?_
  refine ea (uq _ (by assumption)) Z ⟨H,Cq⟩ Z Z (fun s52 => ?_)
  refine Cl (ai Z) (Cl (ez 1 _ Z Z (ltN Z)) (aB 6 Z Z Z Z Z (leN Z) Z (Cl (ai Z) (Cl (ez 2 _ Z Z (ltN Z)) (aB 6 Z Z Z Z Z (leN Z) Z (Cp (aa (ae (ae ?_)))))))))
  refine aj (Cn Z (Cn Z (Cp (aa (av ?_)))))
  obtain ⟨bd,cd,bl,Bl⟩:=s19
  obtain ⟨bU,BU⟩:=s50
  obtain ⟨bV,BV⟩:=s52
  refine vZ (M' := [aW b7 100 5 [(0, .agg 2,vL n bd cd bl),(2, .one,one (slV (some bR) n n)),(3, .one,one (slV (some bU) n n)),(4, .one,one (slV (some bV) n n))],dO (some bd) cd (n+1) (dZ m F),fW bl n n (fun q=>q) Bl (fun q=>q),cK (fun q=>q) n Bl (fun q=>q) (lZ m F),aN (some bR) 50 .one n n (fun q=>if q<n then one (slV (some (B q)) m (C q)) else one (.slice none 0 0)),rvO 43 (.agg 2) (fun _=>m) n B C (eK F) (fun q=>decide (n≤q)),fW bU n n (fun _=>n) BU (fun _=>n),cK (fun _=>n) n BU (fun _=>n) idF,fW bV n n (fun _=>n) BV (fun _=>n),cK (fun _=>n) n BV (fun _=>n) idF,aW b4 81 2 [(0, .one,one (slV (some bd) (n+1) cd)),(1, .one,one (slV (some bl) n n))],aW b2 54 9 (de #[Value.int .i64 0,Value.int .i64 0,Value.slice none 0 0,Value.int .i64 0,Value.int .i64 0,Value.slice none 0 0,Value.int .i64 0,Value.int .i64 0,Value.slice none 0 0] [(0, .agg 3),(3, .agg 3),(6, .agg 3)]),aW b1 28 3 [(0, .one,one (.int .i64 (n:Nat))),(1, .one,one (.int .i64 (m:Nat))),(2, .one,slT .one n fun i=>cH m (F i))]]) (z6 13 [6,8,9,10,5,4,2,3,0,1,7,11,12] S Z Z) ?_
  refine cx (Γ' := [(11,_),(10,_),(1,_),(2,_),(3,_),(6,_),(7,_)]) (M':=o4 b7 m n ⟨bd,cd,bl,Bl,bR,bU,bV,B,C,BU,fun _=>n,BV,fun _=>n⟩ (dZ m F) (lZ m F) F idF (trF idF) ++ [_,_,_]) Cj (.keep zw (.keep Ck (.keep Ck (.keep Ck (.keep (bJ fun q hq=>if_pos hq) (.keep (c9 (fun q hq=>decide_eq_false Y) (fun q _ _=>⟨rfl,rfl⟩) (fun q j _ _ _=>VT.le_refl _)) (.keep Ck (.keep Ck (.keep Ck (.keep BP (SubM.refl _))))))))))) ?_
  unfold o4 ss
  dsimp only [List.cons_append,List.nil_append]
  refine cx (Γ' := [(1,_),(2,_),(3,_),(6,_),(7,_),(10,_),(11,_)]) Cg (SubM.refl _) ?_
  refine bE (σ:=Nat × Nat × Nat × Nat × LS × RedL) (Γk := [(1,_),(2,_),(3,_),(6,_),(7,_)]) Cg (fun x => [(10,one (.int .i64 (x.1:Nat))),(11,one (.int .i64 (x.2.1:Nat)))]) (fun x M0=>((((((((((M0.set 0 (ss b7 n x.2.2.2.2.2)).set 1 (dO (some x.2.2.2.2.2.bd) x.2.2.2.2.2.cd (n+1) (dZ m x.2.2.2.2.1.R))).set 2 (fW x.2.2.2.2.2.bl n n (fun q=>q) x.2.2.2.2.2.Bl (fun q=>q))).set 3 (cK (fun q=>q) n x.2.2.2.2.2.Bl (fun q=>q) (lZ m x.2.2.2.2.1.R))).set 4 (fW x.2.2.2.2.2.bR n n (fun _=>m) x.2.2.2.2.2.BR x.2.2.2.2.2.CR)).set 5 (cK (fun _=>m) n x.2.2.2.2.2.BR x.2.2.2.2.2.CR x.2.2.2.2.1.R)).set 6 (fW x.2.2.2.2.2.bU n n (fun _=>n) x.2.2.2.2.2.BU x.2.2.2.2.2.CU)).set 7 (cK (fun _=>n) n x.2.2.2.2.2.BU x.2.2.2.2.2.CU x.2.2.2.2.1.U)).set 8 (fW x.2.2.2.2.2.bV n n (fun _=>n) x.2.2.2.2.2.BV x.2.2.2.2.2.CV)).set 9 (cK (fun _=>n) n x.2.2.2.2.2.BV x.2.2.2.2.2.CV (trF x.2.2.2.2.1.V)))) (fun x=>Ph m n N0 F x.1 x.2.1 x.2.2.1 x.2.2.2.1 x.2.2.2.2.1) (fun x=>phM n x.1 x.2.1 x.2.2.1) ((0,1,0,0,⟨F,idF,idF⟩,⟨bd,cd,bl,Bl,bR,bU,bV,B,C,BU,fun _=>n,BV,fun _=>n⟩)) (Ph.start hb hd) Ch (.keep Ck (.keep Ck (.keep Ck (.keep Ck (.keep Ck (.keep Ck (.keep Ck (.keep Ck (.keep Ck (.keep Ck (.keep Ck (.keep Ck (.keep Ck (.nil)))))))))))))) (fun x hx => ?_)
  refine bY (Γ' := [(10,_),(11,_),(1,_),(2,_),(3,_),(6,_),(7,_)]) (M' := [_,_,_,_,_,_,_,_,_,_,_,_,_]) Z Z ?_
  obtain ⟨step,k,e,t,s,r⟩:=x
  dsimp only at hx ⊢
  rcases (show step=0∨step=1∨step=2∨step=3∨step=4 by have:=hx.st;omega) with rfl | rfl | rfl | rfl | rfl
  ·by_cases hk:k<n
   ·have hsh:=tH b7 m n k r s hn hm hk (hx.shH hb hk)
    unfold o4 ss at hsh
    refine ae (ae (aj (Cm Z (Cl (sT Y (c8 Z Z)) (Cp (aa (aI Z (aw (aa ?_)))))))))
    refine av (ae (aj (Cm Z (Cp (aa (av (ae (aj (Cl (sT Y (cN Z Z)) ?_)))))))))
    refine Cn Z (Cp (aa (aI Z (ae (aj (Cn Z (Cp (aa (ae ?_)))))))))
    refine aj (Cm Z (Cm Z (Cl (sT Y (a9 Z Z)) (Cp (aa (aI Z (ae (aj (Cm Z ?_)))))))))
    refine hP (Min := [_,_,_,_,_,_,_,_,_,_]) (Kp := [_,_,_]) hsh Z ⟨H,H,Cq⟩ (List.Perm.refl _) Z Z (fun _ => ?_)
    refine Cp (aa (aj (Cn Z (Cp (aA (aA ?_))))))
    refine aS ((1,k,e,t+1,stA m k s k,r)) (hx.short hb hk) ((qU W:phM n 1 k e<phM n 0 k e)) Ch (.keep Ck (.keep (BQ (fun a=>((hx.all.inv.sh hk hb.n4 k (Nat.le_refl k)).dz a).symm)) (.keep Ck (.keep Ck (.keep Ck (.keep Ck (.keep Ck (.keep Ck (.keep Ck (.keep Ck (.keep Ck (.keep Ck (.keep Ck (.nil))))))))))))))
   ·refine ae (ae (aj (Cm Z (Cl (sT Y (c8 Z Z)) (Cp (aa (aI Z (aw (aa ?_)))))))))
    refine av (ae (aj (Cm Z (Cp (aa (av (ae (aj (Cl (sT Y (cN Z Z)) ?_)))))))))
    refine Cn Z (Cp (aa (aI Z (ae (aj (Cn Z (Cp (aa (ae ?_)))))))))
    refine aj (Cm Z (Cm Z (Cl (sF Y (a9 Z Z)) (Cp (aa (az Z (aw (aA (aA ?_)))))))))
    refine aS ((4,k,e,t,s,r)) (hx.fin Y) ((qU W:phM n 4 k e<phM n 0 k e)) Ch (.keep Ck (.keep Ck (.keep Ck (.keep Ck (.keep Ck (.keep Ck (.keep Ck (.keep Ck (.keep Ck (.keep Ck (.keep Ck (.keep Ck (.keep Ck (.nil))))))))))))))
  ·have hk:=hx.kn (.inl Z)
   obtain ⟨p,rfl⟩ : ∃ p,k=p+1:=⟨k - 1,by have:=hx.k1;omega⟩
   have hor:=xS n r.bd r.cd r.bl r.Bl (dZ m s.R) (lZ m s.R) (p+1) p hn Z hk (hx.all.l4 hb (p+1) p hk Y) (hx.all.d4 hb Y p Y) (hx.all.d4 hb Y (p+1) Y) (hx.all.d4 hb Y (p+2) Y)
   refine ae (ae (aj (Cm Z (Cl (sT Y (c8 Z Z)) (Cp (aa (aI Z (aw (aa ?_)))))))))
   refine av (ae (aj (Cm Z (Cp (aa (av (ae (aj (Cl (sF Y (cN Z Z)) ?_)))))))))
   refine Cn Z (Cp (aa (az Z (ae (aj (Cl (sT Y (cN Z Z)) (Cn Z (Cp (aa ?_)))))))))
   refine aI Z (ae (aj (Cn Z (Cp (aa (ae (aj (Cl (ai Z) (Cl (ak 0 Z Z Z) ?_)))))))))
   refine Cm Z ?_
   refine hP (Min := [_,_,_]) (Kp := [_,_,_,_,_,_,_,_,_,_]) hor Z ⟨H,H,Cq⟩ (List.perm_middle (l₁ := [_,_,_])).symm Z Z (fun _ => ?_)
   refine fv (.ofPerm (List.perm_middle (l₁ := [_,_,_]))) ?_
   by_cases ho:et m s.R p
   ·rw [decide_eq_true (show oA (dZ m s.R) (lZ m s.R) p from ho)]
    refine Cp (aa (aI Z (aj (Cn Z (Cp (aA (aA ?_)))))))
    refine aS ((3,p+1,e,t,s,r)) (hx.good ho) ((qU W:phM n 3 (p+1) e<phM n 1 (p+1) e)) Ch (.keep Ck (.keep Ck (.keep Ck (.keep Ck (.keep Ck (.keep Ck (.keep Ck (.keep Ck (.keep Ck (.keep Ck (.keep Ck (.keep Ck (.keep Ck (.nil))))))))))))))
   ·rw [decide_eq_false (show ¬ oA (dZ m s.R) (lZ m s.R) p from ho)]
    refine Cp (aa (az Z (aw (aA (aA ?_)))))
    refine aS ((2,p+1,e,t,s,r)) (hx.bad ho) ((qU W:phM n 2 (p+1) e<phM n 1 (p+1) e)) Ch (.keep Ck (.keep Ck (.keep Ck (.keep Ck (.keep Ck (.keep Ck (.keep Ck (.keep Ck (.keep Ck (.keep Ck (.keep Ck (.keep Ck (.keep Ck (.nil))))))))))))))
  ·have hk:=hx.kn (.inr (.inl Z))
   obtain ⟨p,rfl⟩ : ∃ p,k=p+1:=⟨k - 1,by have:=hx.k1;omega⟩
   have hx':=hx.exch
   have hex:=sx b7 m n p r s.R s.U (trF s.V) hn hm hk hx.all.inv.dn (hx.all.d4 hb Y) (hx.all.l4 hb) (hx'.all.d4 hb Y (p+1) Y) (hx'.all.l4 hb)
   unfold o4 ss at hex
   refine ae (ae (aj (Cm Z (Cl (sT Y (c8 Z Z)) (Cp (aa (aI Z (aw (aa ?_)))))))))
   refine av (ae (aj (Cm Z (Cp (aa (av (ae (aj (Cl (sF Y (cN Z Z)) ?_)))))))))
   refine Cn Z (Cp (aa (az Z (ae (aj (Cl (sF Y (cN Z Z)) (Cn Z (Cp (aa ?_)))))))))
   refine az Z (ae (aj (Cl (sT Y (cN Z Z)) (Cn Z (Cp (aa (aI Z (ae (aj ?_)))))))))
   refine Cm Z ?_
   refine hP (Min := [_,_,_,_,_,_,_,_,_,_]) (Kp := [_,_,_]) hex Z ⟨H,H,Cq⟩ (List.Perm.refl _) Z Z (fun _ => ?_)
   refine Cp (aa (ae (aj (Cm Z (Cl (ct _ 1 Z Z Y Y) (Cl (nl Z Z) (Cn Z (Cp (aa ?_)))))))))
   refine aj (Cn Z (Cp (aA (aA ?_))))
   refine aS ((0,max (p+1 - 1) 1,e+1,t,exL p s,r.sw p)) (hx') (hx.mex hb) Ch (.keep Ck (.keep Ck (.keep Ck (.keep Ck (.keep Ck (.keep Ck (.keep Ck (.keep Ck (.keep Ck (.keep (A1) (.keep Ck (.keep Ck (.keep Ck (.nil))))))))))))))
  ·have hk:=hx.kn (.inr (.inr Z))
   refine ae (ae (aj (Cm Z (Cl (sT Y (c8 Z Z)) (Cp (aa (aI Z (aw (aa ?_)))))))))
   refine av (ae (aj (Cm Z (Cp (aa (av (ae (aj (Cl (sF Y (cN Z Z)) ?_)))))))))
   refine Cn Z (Cp (aa (az Z (ae (aj (Cl (sF Y (cN Z Z)) (Cn Z (Cp (aa ?_)))))))))
   refine az Z (ae (aj (Cl (sF Y (cN Z Z)) (Cn Z (Cp (aa (az Z (ae (aj ?_)))))))))
   refine Cl (sT Y (cN Z Z)) (Cn Z (Cp (aa (aI Z (ae (aj (Cm Z (Cl (bC _ 1 Z Z Y) (Cn Z ?_)))))))))
   refine Cp (aa (aj (Cn Z (Cp (aA (aA ?_))))))
   refine aS ((0,k+1,e,t,s,r)) (hx.adv) (hx.mad) Ch (.keep Ck (.keep Ck (.keep Ck (.keep Ck (.keep Ck (.keep Ck (.keep Ck (.keep Ck (.keep Ck (.keep Ck (.keep Ck (.keep Ck (.keep Ck (.nil))))))))))))))
  ·have hout:=hx.out hb
   have hV : ∀ i j,bI (trF s.V i j):=fun i j=>dC (lO ((hx.all.bndA hb (by have:=hx.t_le hb;omega)).v j i))
   have htr:=qj n n (trF s.V) hn hn hV
   unfold cg at htr
   refine ae (ae (aj (Cm Z (Cl (sF Y (c8 Z Z)) (Cp (aa (az Z (aX (au ?_)))))))))
   refine au (aC (aa (ae (vZ (z6 13 [4,5,6,7,8,9,0,1,2,3,10,11,12] S Z Z) ?_))))
   refine Ad [fW r.bR n n (fun _=>m) r.BR r.CR,cK (fun _=>m) n r.BR r.CR s.R,fW r.bU n n (fun _=>n) r.BU r.CU,cK (fun _=>n) n r.BU r.CU s.U,fW r.bV n n (fun _=>n) r.BV r.CV,cK (fun _=>n) n r.BV r.CV (trF s.V)] (Kp := [ss b7 n r,_,_,_,_,_,_]) (Kp' := [aW b7 100 5 [(0, .agg 2,vL n r.bd r.cd r.bl),(2, .agg 3,bB 3 [(0, .one,slT .one n fun i=>cH m (s.R i)),(1, .one,slT .one n fun i=>cH n (s.U i)),(2, .one,slT .one n fun i=>cH n (trF s.V i))])],_,_,_,_,_,_]) (List.Perm.refl _) (.keep (yh.box (.cons List.mem_cons_self (Ent.refl _) (.cons (List.mem_cons_of_mem _ List.mem_cons_self) (Ent.agg (.cons List.mem_cons_self (mu List.mem_cons_self (List.mem_cons_of_mem _ List.mem_cons_self)) (.cons (List.mem_cons_of_mem _ List.mem_cons_self) (mu (List.mem_cons_of_mem _ (List.mem_cons_of_mem _ List.mem_cons_self)) (List.mem_cons_of_mem _ (List.mem_cons_of_mem _ (List.mem_cons_of_mem _ List.mem_cons_self)))) (.cons (List.mem_cons_of_mem _ (List.mem_cons_of_mem _ List.mem_cons_self)) (mu (List.mem_cons_of_mem _ (List.mem_cons_of_mem _ (List.mem_cons_of_mem _ (List.mem_cons_of_mem _ List.mem_cons_self)))) (List.mem_cons_of_mem _ (List.mem_cons_of_mem _ (List.mem_cons_of_mem _ (List.mem_cons_of_mem _ (List.mem_cons_of_mem _ List.mem_cons_self)))))) .nil)))) .nil))) (EntM.refl _)) (v7.refl _) ?_
   refine a4 21 aU X W (Cm Z (Cl (ai Z) (Cl (ak 6 Z Z Z) (Cl (ai Z) (Cl (ez 0 _ Z Z (ltN Z)) (Cl (bt 0 2 0 Z Z Z Z Z) (stB Z Z Z (BuildK.cons Z Z Z (BuildK.cons Z Z Z ?_)))))))))
   refine BuildK.cons Z Z Z (BuildK.nil (Cm Z (Cm Z (Cl (ai Z) (Cl (ez 1 _ Z Z (ltN Z)) (Cl (bt 0 2 1 Z Z Z Z Z) (stB Z Z Z (BuildK.cons Z Z Z (BuildK.cons Z Z Z ?_)))))))))
   refine BuildK.cons Z Z Z (BuildK.nil (Cm Z (Cm Z (Cl (ai Z) (Cl (ez 2 _ Z Z (ltN Z)) (Cl (bt 0 2 2 Z Z Z Z Z) (stB Z Z Z (BuildK.cons Z Z Z (BuildK.cons Z Z Z ?_)))))))))
   refine BuildK.cons Z Z Z (BuildK.nil ?_)
   refine Cl (am (htr) Z ⟨H,Cq⟩) ?_
   refine stB Z Z Z (BuildK.cons Z Z Z (BuildK.cons Z Z Z (BuildK.cons Z Z Z (BuildK.nil (Cp (aR 5 Z Z Z Z (Cn Z (Cp (aa ?_)))))))))
   refine aD ?_
   refine zV (ψ:=fun s:AZ m n (2*N0) F=>BN m n s.1) (ψ':=fun _=>one (.int .i64 0)) (⟨_,hout⟩:AZ m n (2*N0) F) Tryz.results26 (.cellW 5 Z Z (A2 (a:=cg n m s.R) (b:=cg n n s.U) (c:=cg n n s.V) (jU fun i j hi hj=>sk hi hj) H H)) (.tmp Z H) (SubM.nilR _)
end Tor
end
