/-
  Theorems that the proofs of laws of this seat rest on.
  No condition.
-/
import Derived.Test.YtpnkmoojhbjdfaaGreatLB8
set_option maxHeartbeats 16000000
set_option linter.unusedVariables false
set_option linter.unusedSimpArgs false
section
namespace Tor
open Go Go.RowKit Go.Proofs
def smB (DP:Nat):Nat→Nat
 | 0 => 1
 | i + 1 => smB DP i + DP + 1
theorem zf {DP:Nat} {f:Nat→Rat} {n:Nat} (h : ∀ i,i<n→qz DP (f i)) : ∀ i,i≤n→qz (smB DP i) (Lin.sm i f)
 | 0, _ => AE 1 (Nat.le_refl _)
 | i + 1, hi => yE (zf h i Y) (h i Y)
attribute [local irreducible] J PJ aP one slT cv bA bM exT cq eP aW aU slV VT.le Ret bO xO
attribute [local irreducible] aO bx
end Tor
end
section
namespace Tor
open Lin (dZ lZ uZ cO shZ exZ dK ec qq cf qF dot gsB gsM sm DD)
def rsQ (m:Nat) (A:Nat→Nat→Rat) (i j k:Nat):Rat:=A i k - sm j (fun t=>gsM m A i t*gsB m A t k)
theorem zg (m:Nat) (A:Nat→Nat→Rat) (i k:Nat):rsQ m A i 0 k=A i k:=by show A i k - 0=A i k;grind
theorem zi (m:Nat) (A:Nat→Nat→Rat) (i j k:Nat):rsQ m A i (j+1) k=rsQ m A i j k - gsM m A i j*gsB m A j k:=by
 show A i k - (sm j _+_)=A i k - sm j _ - _
 grind
theorem qN (m:Nat) (A:Nat→Nat→Rat) (i k:Nat):rsQ m A i i k=gsB m A i k:=by
 rw [Lin.lO]; rfl
def yB:Nat→Nat
 | 0 => 1
 | j + 1 => 14 * yB j + 15
section
variable {m n:Nat} {A:Nat→Nat→Rat}
theorem Dh {DP i m:Nat} (hi:i≤m) (hm:m≤4):smB DP i≤4*DP+5:=by
 rcases (show i=0∨i=1∨i=2∨i=3∨i=4 by omega) with rfl | rfl | rfl | rfl | rfl <;> simp only [smB] <;> omega
theorem lS {x y:Nat} {u v:Nat→Rat} (hm:m≤4) (hu : ∀ k,k<m→qz x (u k)) (hv : ∀ k,k<m→qz y (v k)) : ∀ i,i≤m→qz (4*(x+y)+5) (sm i (fun k=>u k*v k)):=fun i hi =>
 (zf (n:=m) (f:=fun k=>u k*v k) (fun k hk=>fe (hu k hk) (hv k hk)) i hi).mono (Dh hi hm)
theorem tL (hm:m≤4) (hA : ∀ i k,qz 1 (A i k)) : ∀ j,(∀ t,t<j→qq m A t≠0) → ∀ i k,k<m→qz (yB j) (rsQ m A i j k)
 | 0, _, i, k, _ => by rw [zg]; exact hA i k
 | j + 1, h0, i, k, hk => by
  have ih:=tL hm hA j (fun t ht=>h0 t Y)
  have hB : ∀ k,k<m→qz (yB j) (gsB m A j k):=fun k hk=>by rw [← qN]; exact ih j k hk
  have h1:=lS hm (fun k _=>hA i k) hB m (Nat.le_refl _)
  have h2:=lS hm hB hB m (Nat.le_refl _)
  have h3:=mA h1 h2 (h0 j (Nat.lt_succ_self j))
  rw [zi]
  exact (uJ (ih i k hk) (fe h3 (hB k hk))).mono (by show _≤14*yB j+15;omega)
end
end Tor
end
section
namespace Tor
open Go Go.RowKit Go.Proofs
open Lin (dZ lZ uZ cO dK ec qq cf qF dot gsB gsM sm)
theorem qO (n x:Nat) (f g:Nat→Rat) (hn:n≤4) (hx:x≤100000000) (hf : ∀ i,i<n→qz x (f i)) (hg : ∀ i,i<n→qz x (g i)):Ok Tryz.prog 49 [slT (.agg 4) n (fun i=>bx (f i)),slT (.agg 4) n (fun i=>bx (g i))] (bx (dot n f g)) :=
 yY n f g x (4*(x+x)+5) (x+x) Y Y Y hf hg (fun i hi=>fe (hf i hi) (hg i hi)) (fun i hi=>lS hn hf hg i hi)
theorem wm {j:Nat} (hj:j≤4):yB j≤100000:=by
 rcases (show j=0∨j=1∨j=2∨j=3∨j=4 by omega) with rfl | rfl | rfl | rfl | rfl <;> decide
theorem Cv {m n i:Nat} {F:Nat→Nat→Int} : VT.le (slT (.agg 4) n (fun k=>bx (F i k:Rat))) (slT (.agg 4) n (fun k=>bx (rsQ m (qF F) i 0 k))):=er fun k hk=>by
 show VT.le (bx (F i k:Rat)) (bx (rsQ m (qF F) i 0 k))
 rw [zg]
 exact VT.le_refl (bx (F i k:Rat))
theorem Cw {m n i:Nat} {A:Nat→Nat→Rat} : VT.le (slT (.agg 4) n (fun k=>bx (rsQ m A i i k))) (slT (.agg 4) n (fun k=>bx (gsB m A i k))):=er fun k hk=>by
 show VT.le (bx (rsQ m A i i k)) (bx (gsB m A i k))
 rw [qN]
 exact VT.le_refl (bx (gsB m A i k))
theorem wn {sv:Option Nat} {T:TypeId} {L:Lay} {cap i:Nat} {φ:Nat→VT} {x:VT} (hx:VT.le x (φ i)):Own.le (aU sv T L cap (i+1) (fun q=>if q<i then φ q else x)) (aU sv T L cap (i+1) φ):=gW fun q hq=>by
 by_cases c:q<i
 ·rw [if_pos c]; exact VT.le_refl _
 ·rw [if_neg c,show q=i by omega]; exact hx
abbrev grO (b:Bool) (n:Nat) (M:Nat→Nat→Rat) (Q:Nat→Rat):VT:=bM [cond b (grT n M) (one (.slice none 0 0)),cond b (slT (.agg 4) n (fun i=>bx (Q i))) (one (.slice none 0 0)),one (.int .i64 (cond b 0 170))]
attribute [local irreducible] J PJ aP one slT cv bA bM exT cq eP aW aU slV VT.le Ret bO
attribute [local irreducible] aO bx
set_option maxRecDepth 100000 in
theorem mO (m n:Nat) (F:Nat→Nat→Int) (hn:n≤4) (hm:m≤4) (hF : ∀ i j,lz 1 (F i j)) (b:Bool) (hb:b=true ↔ ∀ i,i<n→qq m (qF F) i≠0) :
  Ok Tryz.prog 12 [bG n m F] (grO b n (gsM m (qF F)) (qq m (qF F))):=by
 have hA : ∀ i k,qz 1 (qF F i k):=fun i k=>gO (Nat.le_refl _) (hF i k)
 have hn':n≤1048576:=by omega
 have hm':m≤1048576:=by omega
 refine Ok.enter Tryz.func12 Z Tryz.ntmps12 Z (fun w O => ?_)
 refine ae (aj ?_)
 refine aM Z Z (ltN Z) (fun b1 => ?_)
 refine Ea Z (Ea Z (Ea Z (Ec (aa (ae (aj (kZ (n:=0) Z Z Z Z Z ?_)))))))
 refine PartsK.nil (fun bl => ?_)
 refine kZ (n:=0) Z Z Z Z Z ?_
 refine PartsK.nil (fun bl => ?_)
 refine kZ (n:=0) Z Z Z Z Z ?_
 refine PartsK.nil (fun bl => ?_)
 refine Ea Z (Ea Z (Ea Z (Ec (aa (ae (ae (aj (Ea Z (Ec ?_)))))))))
 refine aa (ar ?_)
 rename_i b5 b6
 have e0 : ∀ (b':Nat) (T:TypeId) (L:Lay) (χ:Nat→VT) (φ:Nat→VT),Own.le (aU (some b') T L 0 0 χ) (aU (some b') T L 0 0 φ):=fun b' T L χ φ=>bQ fun q hq=>absurd hq (Nat.not_lt_zero q)
 refine cm (Γ' := [(1,_),(2,_),(3,_),(4,_),(5,_),(6,_),(7,_),(8,_)]) DT (SubM.refl _) ?_
 refine bw (σ:=Nat × (Option Nat × Nat) × (Option Nat × Nat) × (Option Nat × Nat)) (Γk := [(1,_)]) DT (fun s => [(8,one (.int .i64 (s.1:Nat))),(5,one (slV s.2.1.1 s.1 s.2.1.2)),(6,one (slV s.2.2.1.1 s.1 s.2.2.1.2)),(7,one (slV s.2.2.2.1 s.1 s.2.2.2.2))]) (fun s M0=>(((M0.set 0 (aU s.2.2.2.1 45 (.agg 4) s.2.2.2.2 s.1 (fun q=>bx (qq m (qF F) q)))).set 1 (aU s.2.2.1.1 31 .one s.2.2.1.2 s.1 (fun q=>slT (.agg 4) q (fun j=>bx (gsM m (qF F) q j))))).set 2 (aU s.2.1.1 31 .one s.2.1.2 s.1 (fun q=>slT (.agg 4) m (fun k=>bx (gsB m (qF F) q k)))))) (fun s=>s.1≤n ∧ ∀ t,t<s.1→qq m (qF F) t≠0) (fun s=>n - s.1) ((0,(some b5,0),(some b6,0),(some bl,0))) (⟨Nat.zero_le _,fun t ht=>absurd ht (Nat.not_lt_zero t)⟩) DU (.keep (e0 _ _ _ _ _) (.keep (e0 _ _ _ _ _) (.keep (e0 _ _ _ _ _) (.keep DX (.nil))))) (fun s hs => ?_)
 refine bN (Γ' := [(8,_),(5,_),(6,_),(7,_),(1,_)]) (M' := [_,_,_,_]) Z Z ?_
 obtain ⟨i,⟨svc,cpc⟩,⟨svm,cpm⟩,⟨svq,cpq⟩⟩:=s
 dsimp only at hs ⊢
 obtain ⟨hi,h0⟩:=hs
 by_cases hin:i<n
 ·have hrat:=kB m (F i) hm'
  unfold gJ at hrat
  dsimp only at hrat
  refine ae (ae (aj (DZ Z (DY (ah Z) (DY (ak 3 Z Z Z) (DY (sT Y (a7 Z Z)) (Ec (aa (aG Z ?_)))))))))
  refine av (aa (ae (ar (ae (aj (DY (ah Z) (DY (ak 3 Z Z Z) (DZ Z (DY (ax Z Z Y) ?_)))))))))
  refine DY (aJ Z) ?_
  refine DY (am (hrat) Z ⟨H,Ed⟩) ?_
  refine Ea Z (Ec (aa (ae (aj (DZ Z (kZ (n:=0) Z Z Z Z Z ?_))))))
  refine PartsK.nil (fun bl => ?_)
  refine Ea Z (Ea Z (Ec (aa (ae (ae (aj (Ea Z (Ec (aa ?_)))))))))
  refine ar (cm (Γ' := [(1,_),(5,_),(6,_),(7,_),(8,_),(9,_),(10,_),(11,_),(12,_)]) DT (SubM.refl _) ?_)
  refine bw (σ:=Nat × Option Nat × Nat) (Γk := [(1,_),(5,_),(6,_),(7,_),(8,_),(9,_)]) DT (fun s => [(12,one (.int .i64 (s.1:Nat))),(11,one (slV s.2.1 s.1 s.2.2)),(10,slT (.agg 4) m (fun k=>bx (rsQ m (qF F) i s.1 k)))]) (fun s M0=>(M0.set 0 (aU s.2.1 45 (.agg 4) s.2.2 s.1 (fun q=>bx (gsM m (qF F) i q))))) (fun s=>s.1≤i) (fun s=>i - s.1) ((0,some bl,0)) (Nat.zero_le _) (fU.cons Z H (fU.cons Z H (fU.cons Z Cv fU.nil))) (.keep (e0 _ _ _ _ _) (.keep DX (.keep DX (.keep DX (.keep DX (.nil)))))) (fun s hs => ?_)
  refine bN (Γ' := [(12,_),(11,_),(10,_),(1,_),(5,_),(6,_),(7,_),(8,_),(9,_)]) (M' := [_,_,_,_,_]) Z Z ?_
  obtain ⟨j,svl,cpl⟩:=s
  dsimp only at hs ⊢
  by_cases hji:j<i
  ·have hB : ∀ k,k<m→qz 100000 (gsB m (qF F) j k):=fun k hk=>by rw [← qN]; exact (tL hm hA j (fun t ht=>h0 t Y) j k hk).mono (wm Y)
   have hA' : ∀ k,k<m→qz 100000 (qF F i k):=fun k hk=>(hA i k).mono S
   have hpr:=qO m 100000 (fun k=>(F i k:Rat)) (gsB m (qF F) j) hm S hA' hB
   have z1:qz 800005 (dot m (qF F i) (gsB m (qF F) j)):=lS hm hA' hB m (Nat.le_refl _)
   have z2:qz 800005 (qq m (qF F) j):=lS hm hB hB m (Nat.le_refl _)
   have z3:qz 1600010 (gsM m (qF F) i j):=mA z1 z2 (h0 j hji)
   have hov:Ok Tryz.prog 48 [bx (dot m (qF F i) (gsB m (qF F) j)),bx (qq m (qF F) j)] (bx (gsM m (qF F) i j)):=qB _ _ 800005 800005 z1 z2 S (h0 j hji)
   refine kG (i:=3) (F:=svc=none→i=0) Z (fun g h hp he=>fN hp he) (fun hsv => ?_)
   obtain ⟨bc,rfl⟩:=eG hsv Y
   refine kG (i:=1) (F:=svq=none→i=0) Z (fun g h hp he=>fN hp he) (fun hsv => ?_)
   obtain ⟨bq,rfl⟩:=eG hsv Y
   refine ae (ae (aj (DZ Z (DZ Z (DY (sT Y (a7 Z Z)) (Ec (aa (aG Z (av ?_)))))))))
   refine aa (ae (ar (ae ?_)))
   refine dU aS X X ?_
   refine ux (fun B=>ab Z) Z Z ?_
   refine ux (fun B=>ab Z) Z Z ?_
   refine ux (fun B=>ab Z) Z Z ?_
   refine ux (fun B=>an Z Z Y) Z Z ?_
   refine ux (fun B=>bk 3 Z Z Y) Z Z ?_
   refine uxk (hpr) Z ⟨H,H,Ed⟩ Z ?_
   refine ux (fun B=>ab Z) Z Z ?_
   refine ux (fun B=>ab Z) Z Z ?_
   refine ux (fun B=>an Z Z Y) Z Z ?_
   refine ux (fun B=>bk 1 Z Z Y) Z Z ?_
   refine uxk (hov) Z ⟨H,H,Ed⟩ Z ?_
   refine ua Z (us Z ?_)
   refine RunU.nil (fun γ => ?_)
   refine cF (M' := [_,_,_,_,_,_]) Z (aa (ae (aj (kZ (n:=0) Z Z Z Z Z ?_))))
   refine PartsK.nil (fun bl => ?_)
   refine Ea Z (Ec (aa (ae (ae (aj (Ea Z (Ec (aa (ar ?_)))))))))
   refine cm (Γ' := [(1,_),(5,_),(6,_),(7,_),(8,_),(9,_),(10,_),(11,_),(12,_),(13,_),(14,_),(15,_)]) DT (SubM.refl _) ?_
   refine bw (σ:=Nat × Option Nat × Nat) (Γk := [(1,_),(5,_),(6,_),(7,_),(8,_),(9,_),(10,_),(11,_),(12,_),(13,_)]) DT (fun s => [(15,one (.int .i64 (s.1:Nat))),(14,one (slV s.2.1 s.1 s.2.2))]) (fun s M0=>(M0.set 0 (aU s.2.1 45 (.agg 4) s.2.2 s.1 (fun q=>bx (rsQ m (qF F) i (j+1) q))))) (fun s=>s.1≤m) (fun s=>m - s.1) ((0,some bl,0)) (Nat.zero_le _) DU (.keep (e0 _ _ _ _ _) (.keep DX (.keep DX (.keep DX (.keep DX (.keep DX (.keep DX (.nil)))))))) (fun s hs => ?_)
   refine bN (Γ' := [(15,_),(14,_),(1,_),(5,_),(6,_),(7,_),(8,_),(9,_),(10,_),(11,_),(12,_),(13,_)]) (M' := [_,_,_,_,_,_,_]) Z Z ?_
   obtain ⟨k,svn,cpn⟩:=s
   dsimp only at hs ⊢
   by_cases hkm:k<m
   ·have hmu:=eJ (gsM m (qF F) i j) (gsB m (qF F) j k) 1600010 100000 z3 (hB k hkm) S
    have z4:qz 100000 (rsQ m (qF F) i j k):=(tL hm hA j (fun t ht=>h0 t Y) i k hkm).mono (wm Y)
    have hsu:=pk (rsQ m (qF F) i j k) (gsM m (qF F) i j*gsB m (qF F) j k) 100000 1700010 z4 (fe z3 (hB k hkm)) S
    rw [← zi] at hsu
    refine ae (ae (aj (DZ Z (DZ Z (DY (aZ Z) (DY (sT Y (a7 Z Z)) (Ec (aa (aG Z ?_)))))))))
    refine av (aa (ae (ar (ma 16 16 aS X S (DZ Z (DZ Z (DZ Z (DY (ax Z Z Y) (DY (aJ Z) ?_)))))))))
    refine DY (ak 1 Z Z Z) (DZ Z (DZ Z (DY (an Z Z Y) (DY (bk 5 Z Z Y) (DZ Z (DY (ax Z Z Y) (DY (aJ Z) ?_)))))))
    refine DY (am (hmu) Z ⟨H,H,Ed⟩) ?_
    refine DY (am (hsu) Z ⟨H,H,Ed⟩) ?_
    refine jf Z Z Z Z (Ec ?_)
    (refine de 0 Z Z Z (leN Z) ?_ ?_ Z (ltN Z) (fun sv73 cap73 => ?_);omega;omega)
    refine Ea Z (Ec (aB (aa (aj (DZ Z (DY (bn _ 1 Z Z Y) (Ea Z (Ec ?_))))))))
    refine aN ((k+1,sv73,cap73)) (hkm) Y DU (.keep (kA (h:=fun q=>rsQ m (qF F) i (j+1) q) Z) (.keep DX (.keep DX (.keep DX (.keep DX (.keep DX (.keep DX (.nil))))))))
   ·have he:k=m:=by omega
    subst he
    refine ae (ae (aj (DZ Z (DZ Z (DY (aZ Z) (DY (sF Y (a7 Z Z)) (Ec (aa (az Z ?_)))))))))
    refine aY (aw (aw (aE (aa (ae (sj (t:=14) (i:=0) Z Z (aj (DZ Z (Ea Z ?_)))))))))
    refine Ec (aa (aj (DZ Z (DY (ak 0 Z Z Z) (jf Z Z Z Z ?_)))))
    (refine de 1 Z Z Z (leN Z) ?_ ?_ Z (ltN Z) (fun sv78 cap78 => ?_);omega;omega)
    refine Ea Z (Ec (aB (aa (aj (DZ Z (DY (bn _ 1 Z Z Y) (Ea Z (Ec ?_))))))))
    refine aN ((j+1,sv78,cap78)) (hji) Y DU (.drop (.keep (kA (h:=fun q=>gsM k (qF F) i q) Z) (.keep DX (.keep DX (.keep DX (.keep DX (.nil)))))))
  ·have he:i=j:=by omega
   subst he
   have hB : ∀ k,k<m→qz 100000 (gsB m (qF F) i k):=fun k hk=>by rw [← qN]; exact (tL hm hA i h0 i k hk).mono (wm Y)
   have hpr:Ok Tryz.prog 49 [slT (.agg 4) m (fun k=>bx (gsB m (qF F) i k)),slT (.agg 4) m (fun k=>bx (gsB m (qF F) i k))] (bx (qq m (qF F) i)):=qO m 100000 (gsB m (qF F) i) (gsB m (qF F) i) hm S hB hB
   have hsg:=kQ (qq m (qF F) i)
   refine ae (ae (aj (DZ Z (DZ Z (DY (sF Y (a7 Z Z)) (Ec (aa (az Z (aY ?_)))))))))
   refine aw (aw (aE (aa (ae (sj (t:=11) (i:=0) Z Z ?_)))))
   refine oo (t:=10) (ψ:=slT (.agg 4) m (fun k=>bx (gsB m (qF F) i k))) Z (Cw) ?_
   by_cases hz:qq m (qF F) i=0
   ·rw [show dQ (qq m (qF F) i).num=0 by rw [hz]; rfl] at hsg
    obtain rfl:b=false:=by cases b;rfl;exact absurd hz (hb.1 Z i hin)
    refine aj (DZ Z (DZ Z ?_))
    refine DY (am (hpr) Z ⟨H,H,Ed⟩) ?_
    refine aF (T:=45) Z Z Z (fun b16 => ?_)
    refine cK 0 Z Z Z Z (Ec (aa (ae (ae (aj (DY (ak 0 Z Z Z) ?_))))))
    refine DY (am (hsg) Z ⟨H,Ed⟩) ?_
    refine DY (sT Y (cn Z Z)) (Ec (aa (aG Z (ae (aj (Ea Z (Ea Z (Ea Z (Ec ?_)))))))))
    refine aa (aD (aI (a9 (aI (aI (a9 (aI ?_)))))))
    refine jd Tryz.results12 (.tmp Z H) (.tmp Z H) (.tmp Z H)
   ·have hne : ¬ dQ (qq m (qF F) i).num=0:=fun h=>hz (Rat.num_eq_zero.1 ((fM _).1 h))
    refine aj (DZ Z (DZ Z ?_))
    refine DY (am (hpr) Z ⟨H,H,Ed⟩) ?_
    refine aF (T:=45) Z Z Z (fun b16 => ?_)
    refine cK 0 Z Z Z Z (Ec (aa (ae (ae (aj (DY (ak 0 Z Z Z) ?_))))))
    refine DY (am (hsg) Z ⟨H,Ed⟩) ?_
    refine DY (sF (by assumption) (cn Z Z)) (Ec (aa (az Z (av (aa (ae (aj (DZ Z (DZ Z ?_)))))))))
    refine jf Z Z Z Z ?_
    (refine de 3 Z Z Z (leN Z) ?_ ?_ Z (ltN Z) (fun sv88 cap88 => ?_);omega;omega)
    refine Ea Z (Ec (aa (ae (aj (DZ Z (DZ Z (jf Z Z Z Z ?_)))))))
    (refine de 2 Z Z Z (leN Z) ?_ ?_ Z (ltN Z) (fun sv92 cap92 => ?_);omega;omega)
    refine Ea Z (Ec (aa (aj (DZ Z (DY (ak 0 Z Z Z) (jf Z Z Z Z ?_))))))
    (refine de 1 Z Z Z (leN Z) ?_ ?_ Z (ltN Z) (fun sv96 cap96 => ?_);omega;omega)
    refine Ea Z (Ec (aB (aa (aj (DZ Z (DY (bn _ 1 Z Z Y) (Ea Z (Ec ?_))))))))
    refine aN ((i+1,(sv88,cap88),(sv92,cap92),(sv96,cap96))) (⟨hin,fun t ht=>by rcases Nat.lt_or_eq_of_le (Nat.lt_succ_iff.1 ht) with h | h;exact h0 t h;rw [h]; exact hz⟩) Y DU (.drop (.keep (kA (h:=fun q=>qq m (qF F) q) Z) (.keep (wn (φ:=fun q=>slT (.agg 4) q (fun j=>bx (gsM m (qF F) q j))) H) (.keep (wn (φ:=fun q=>slT (.agg 4) m (fun k=>bx (gsB m (qF F) q k))) H) (.keep DX (.nil))))))
 ·have he:n=i:=by omega
  subst he
  obtain rfl:b=true:=hb.2 h0
  refine ae (ae (aj (DZ Z (DY (ah Z) (DY (ak 3 Z Z Z) (DY (sF Y (a7 Z Z)) (Ec (aa (az Z ?_)))))))))
  refine aY (aw (aw (aE (aa (ae (aj (DZ Z (DZ Z (Ea Z ?_)))))))))
  refine Ea Z (Ea Z (Ec (aa (aD (cR (t:=3) (i:=0) Z Z (cR (t:=2) (i:=0) Z Z ?_))))))
  refine jd Tryz.results12 (.tmp Z H) (.tmp Z H) (.tmp Z H)
end Tor
end
section
namespace Tor
open Go Go.RowKit Go.Proofs
open Lin (dZ lZ uZ cO dK ec qq cf qF dot gsB gsM sm)
def nV (p q:Rat):Int:=if p<q then -1 else if q<p then 1 else 0
theorem oe (p q:Rat):fp (p.num*q.den) (q.num*p.den)=nV p q:=by
 unfold fp nV
 by_cases h:p<q
 ·rw [if_pos h,if_pos ((Rat.lt_iff _ _).1 h)]
 ·rw [if_neg h,if_neg (fun k=>h ((Rat.lt_iff _ _).2 k))]
  by_cases h2:q<p
  ·rw [if_pos h2,if_pos ((Rat.lt_iff _ _).1 h2)]
  ·rw [if_neg h2,if_neg (fun k=>h2 ((Rat.lt_iff _ _).2 k))]
theorem A2 {p q:Rat} (h:q<p):nV p q=1:=by unfold nV;rw [if_neg (Rat.not_lt.2 (Rat.le_of_lt h)),if_pos h]
theorem rU {p q:Rat} (h:p≤q) : ¬ 0<nV p q:=by
 unfold nV;rw [if_neg (c:=q<p) (Rat.not_lt.2 h)]; split <;> decide
theorem wo {p q:Rat} (h:p<q):nV p q = -1:=by unfold nV;rw [if_pos h]
theorem wq {p q:Rat} (h:q≤p) : ¬ nV p q<0:=by
 unfold nV;rw [if_neg (Rat.not_lt.2 h)]; split <;> decide
structure RedQ (n:Nat) (M:Nat→Nat→Rat) (Q:Nat→Rat):Prop where
 up : ∀ i j,i<n→j<i→M i j≤1 / 2
 dn : ∀ i j,i<n→j<i → -(1 / 2)≤M i j
 or : ∀ p,p+1<n→(3 / 4 - M (p+1) p*M (p+1) p)*Q p≤Q (p+1)
theorem lz1 {x:Int} (h:x.natAbs<2^32):lz 1 x:=cG (k:=1) (by rw [Nat.pow_one]; exact h)
theorem zj:Rat.divInt 1 2=1 / 2:=by decide +kernel
theorem BE:Rat.divInt 3 4=3 / 4:=by decide +kernel
attribute [local irreducible] J PJ aP one slT cv bA bM exT cq eP aW aU slV VT.le Ret bO
attribute [local irreducible] aO bx
set_option maxRecDepth 100000 in
theorem nP (m n:Nat) (F:Nat→Nat→Int) (hn:n≤4) (hm:m≤4) (hF : ∀ i j,lz 1 (F i j)) (v:Bool) (hv:v=true↔(∀ i,i<n→qq m (qF F) i≠0)∧RedQ n (gsM m (qF F)) (qq m (qF F))) :
  Ok Tryz.prog 16 [bG n m F] (one (.bool v)):=by
 have hA : ∀ i k,qz 1 (qF F i k):=fun i k=>gO (Nat.le_refl _) (hF i k)
 by_cases h0 : ∀ i,i<n→qq m (qF F) i≠0
 ·have hg:=mO m n F hn hm hF true ⟨fun _=>h0,fun _=>rfl⟩
  simp only [grO,cond_true] at hg
  have hB : ∀ j,j<n → ∀ k,k<m→qz 100000 (gsB m (qF F) j k):=fun j hj k hk=>by rw [← qN]; exact (tL hm hA j (fun t ht=>h0 t Y) j k hk).mono (wm Y)
  have zq : ∀ i,i<n→qz 800005 (qq m (qF F) i):=fun i hi=>lS (x:=100000) (y:=100000) hm (hB i hi) (hB i hi) m (Nat.le_refl _)
  have zm : ∀ i j,i<n→j<i→qz 1600010 (gsM m (qF F) i j):=fun i j hi hj=>mA (n:=800005) (m:=800005) (lS (x:=100000) (y:=100000) hm (fun k _=>(hA i k).mono S) (hB j Y) m (Nat.le_refl _)) (zq j Y) (h0 j Y)
  have hmd:=nt 1 2 S S S S S
  have hmq:=nt 3 4 S S S S S
  rw [zj] at hmd
  rw [BE] at hmq
  have zh:qz 1 (1 / 2):=by rw [← zj]; exact lN (n:=1) (lz1 W) (lz1 W) S
  have z34:qz 1 (3 / 4):=by rw [← BE]; exact lN (n:=1) (lz1 W) (lz1 W) S
  have hng:=tr (1 / 2) (zh.1.small (n:=1) S)
  refine Ok.enter Tryz.func16 Z Tryz.ntmps16 Z (fun w O => ?_)
  refine ae (aj ?_)
  refine aM Z Z (ltN Z) (fun b1 => ?_)
  refine Ea Z (Ec (aa (ae (aj (DY (ay 0 Z Z) ?_)))))
  refine DY (am (hg) Z ⟨H,Ed⟩) ?_
  refine DZ Z (DY (aq Z Z) (DY (aq Z Z) (DY (aq Z Z) (Ea Z (Ea Z (Ea Z (Ec (aa (ae ?_)))))))))
  refine ae (aj (DZ Z (DY (sF Y (cE Z Z)) (Ec (aa (az Z (av (aa (ae ?_)))))))))
  refine aj ?_
  refine DY (am (hmd) Z ⟨H,H,Ed⟩) ?_
  refine aF (T:=45) Z Z Z (fun b6 => ?_)
  refine cK 0 Z Z Z Z (Ec (aa (ae (ae (aj (Ea Z (Ec (aa (ar ?_)))))))))
  refine cm (Γ' := [(1,_),(2,_),(3,_),(4,_),(6,_),(7,_)]) DT (SubM.refl _) ?_
  refine bw (σ:=Nat) (Γk := [(1,_),(3,_),(4,_),(6,_)]) DT (fun i => [(7,one (.int .i64 (i:Nat)))]) (fun i M0=>M0) (fun i=>i≤n∧RedQ i (gsM m (qF F)) (qq m (qF F))) (fun i=>n - i) (0) (⟨Nat.zero_le _,⟨fun i j h=>absurd h (Nat.not_lt_zero _),fun i j h=>absurd h (Nat.not_lt_zero _),fun i h=>absurd h (Nat.not_lt_zero _)⟩⟩) DU (.keep DX (.keep DX (.nil))) (fun i hi => ?_)
  refine bN (Γ' := [(7,_),(1,_),(3,_),(4,_),(6,_)]) (M' := [_,_]) Z Z ?_
  obtain ⟨hi',hr⟩:=hi
  by_cases hin:i<n
  ·refine ae (ae (aj (DZ Z (DY (ah Z) (DY (ak 1 Z Z Z) (DY (sT Y (a7 Z Z)) (Ec (aa (aG Z ?_)))))))))
   refine av (aa (ae (ar (ae (ae (aj (Ea Z (Ec (aa ?_)))))))))
   refine ar (cm (Γ' := [(1,_),(3,_),(4,_),(6,_),(7,_),(8,_)]) DT (SubM.refl _) ?_)
   refine bw (σ:=Nat) (Γk := [(1,_),(3,_),(4,_),(6,_),(7,_)]) DT (fun j => [(8,one (.int .i64 (j:Nat)))]) (fun j M0=>M0) (fun j=>j≤i ∧ ∀ t,t<j→gsM m (qF F) i t≤1 / 2 ∧ -(1 / 2)≤gsM m (qF F) i t) (fun j=>i - j) (0) (⟨Nat.zero_le _,fun t h=>absurd h (Nat.not_lt_zero _)⟩) DU (.keep DX (.keep DX (.nil))) (fun j hj => ?_)
   refine bN (Γ' := [(8,_),(1,_),(3,_),(4,_),(6,_),(7,_)]) (M' := [_,_]) Z Z ?_
   obtain ⟨hj',hs⟩:=hj
   by_cases hji:j<i
   ·have hc1:=kv (gsM m (qF F) i j) (1 / 2) 1600010 1 (zm i j hin hji) zh S
    have hc2:=kv (gsM m (qF F) i j) (-(1 / 2)) 1600010 1 (zm i j hin hji) (uI zh) S
    rw [oe] at hc1 hc2
    by_cases h1:gsM m (qF F) i j≤1 / 2
    ·have k1:=rU h1
     by_cases h2 : -(1 / 2)≤gsM m (qF F) i j
     ·have k2:=wq h2
      refine ae (ae (aj (DZ Z (DZ Z (DY (sT Y (a7 Z Z)) (Ec (aa (aG Z (av ?_)))))))))
      refine aa (ae (ar (ae (aT 23 aS X S (DZ Z (DZ Z (DY (ax Z Z Y) (DY (aJ Z) (DZ Z ?_)))))))))
      refine DY (ax Z Z Y) (DY (aJ Z) (DY (ak 0 Z Z Z) ?_))
      refine DY (am (hc1) Z ⟨H,H,Ed⟩) ?_
      refine DY (sF (by assumption) (ej Z Z)) (DZ Z (Eb (ab Z) (Eb (ab Z) (Eb (ax Z Z Y) (Eb (aJ Z) (Eb (ab Z) (Eb (ax Z Z Y) (Eb (aJ Z) (Eb (ak 0 Z Z Z) ?_)))))))))
      refine Eb (am (hng) Z ⟨H,Ed⟩) ?_
      refine Eb (am (hc2) Z ⟨H,H,Ed⟩) ?_
      refine Eb (sF (by assumption) (a7 Z Z)) (DY (a6 Z Z) (Ec (Ec (aa (az Z (av (aB (aa (aj ?_)))))))))
      refine DZ Z (DY (bn _ 1 Z Z Y) (Ea Z (Ec ?_)))
      refine aN (j+1) (⟨hji,fun t ht=>by rcases Nat.lt_or_eq_of_le (Nat.lt_succ_iff.1 ht) with h | h;exact hs t h;rw [h]; exact ⟨h1,h2⟩⟩) Y DU (.keep DX (.keep DX (.nil)))
     ·rw [wo (Rat.not_le.1 h2)] at hc2
      obtain rfl:v=false:=by cases v;rfl;exact absurd ((hv.1 Z).2.dn i j hin hji) h2
      refine ae (ae (aj (DZ Z (DZ Z (DY (sT Y (a7 Z Z)) (Ec (aa (aG Z (av ?_)))))))))
      refine aa (ae (ar (ae (aT 23 aS X S (DZ Z (DZ Z (DY (ax Z Z Y) (DY (aJ Z) (DZ Z ?_)))))))))
      refine DY (ax Z Z Y) (DY (aJ Z) (DY (ak 0 Z Z Z) ?_))
      refine DY (am (hc1) Z ⟨H,H,Ed⟩) ?_
      refine DY (sF (by assumption) (ej Z Z)) (DZ Z (Eb (ab Z) (Eb (ab Z) (Eb (ax Z Z Y) (Eb (aJ Z) (Eb (ab Z) (Eb (ax Z Z Y) (Eb (aJ Z) (Eb (ak 0 Z Z Z) ?_)))))))))
      refine Eb (am (hng) Z ⟨H,Ed⟩) ?_
      refine Eb (am (hc2) Z ⟨H,H,Ed⟩) ?_
      refine Eb (sT Y (a7 Z Z)) (DY (a6 Z Z) (Ec (Ec (aa (aG Z (ae (aj (Ea Z (Ec ?_)))))))))
      refine aa (aD (a9 (aI (aI (a9 (aI (a9 (aI (aI ?_)))))))))
      refine a9 (aI ?_)
      refine aK Tryz.results16 (.tmp Z H)
    ·rw [A2 (Rat.not_le.1 h1)] at hc1
     obtain rfl:v=false:=by cases v;rfl;exact absurd ((hv.1 Z).2.up i j hin hji) h1
     refine ae (ae (aj (DZ Z (DZ Z (DY (sT Y (a7 Z Z)) (Ec (aa (aG Z (av ?_)))))))))
     refine aa (ae (ar (ae (aT 23 aS X S (DZ Z (DZ Z (DY (ax Z Z Y) (DY (aJ Z) (DZ Z ?_)))))))))
     refine DY (ax Z Z Y) (DY (aJ Z) (DY (ak 0 Z Z Z) ?_))
     refine DY (am (hc1) Z ⟨H,H,Ed⟩) ?_
     refine DY (sT Y (ej Z Z)) (DZ Z (sn0 Z Z Z Z Z (sn0 Z Z Z Z Z (sn0 Z Z Z Z Z (sn0 Z Z Z Z Z (sn0 Z Z Z Z Z (sn0 Z Z Z Z Z (sn0 Z Z Z Z Z (sn0 Z Z Z Z Z ?_)))))))))
     refine sn0 Z Z Z Z Z (sn0 Z Z Z Z Z (sn0 Z Z Z Z Z (DY (aV Z Z) (Ec (Ec (aa (aG Z (ae (aj ?_)))))))))
     refine Ea Z (Ec (aa (aD (a9 (aI (aI (a9 (aI (a9 ?_)))))))))
     refine aI (aI (a9 (aI ?_)))
     refine aK Tryz.results16 (.tmp Z H)
   ·have he:j=i:=by omega
    subst he
    by_cases hj0:j=0
    ·subst hj0
     refine ae (ae (aj (DZ Z (DZ Z (DY (sF Y (a7 Z Z)) (Ec (aa (az Z (aY ?_)))))))))
     refine aw (aw (aE (aa (ae (ae (aj (DZ Z (DY (sT Y (cn Z Z)) (Ec ?_)))))))))
     refine aa (aG Z (aY (aw (aE (aa (aj (DZ Z (DY (bn _ 1 Z Z Y) (Ea Z ?_)))))))))
     refine Ec ?_
     refine aN (1) (⟨hin,⟨fun a b h1 h2=>absurd h2 Y,fun a b h1 h2=>absurd h2 Y,fun p h=>absurd h Y⟩⟩) Y DU (.keep DX (.keep DX (.nil)))
    ·obtain ⟨p,rfl⟩ : ∃ p,j=p+1:=⟨j - 1,by omega⟩
     have y1:=zm (p+1) p hin Y
     have y2:=fe y1 y1
     have y3:=uJ z34 y2
     have y4:=fe y3 (zq p Y)
     have hmu:=eJ _ _ _ _ y1 y1 S
     have hsu:=pk _ _ _ _ z34 y2 S
     have hmq2:=eJ _ _ _ _ y3 (zq p Y) S
     have hcq:=kv _ _ _ _ (zq (p+1) hin) y4 S
     rw [oe] at hcq
     by_cases ho:(3 / 4 - gsM m (qF F) (p+1) p*gsM m (qF F) (p+1) p)*qq m (qF F) p≤qq m (qF F) (p+1)
     ·have k3:=wq ho
      refine ae (ae (aj (DZ Z (DZ Z (DY (sF Y (a7 Z Z)) (Ec (aa (az Z (aY ?_)))))))))
      refine aw (aw (aE (aa (ae (ae (aj (DZ Z (DY (sF Y (cn Z Z)) (Ec ?_)))))))))
      refine aa (az Z (av (aa (ae ?_))))
      refine dU aS X X ?_
      refine uxk (hmq) Z ⟨H,H,Ed⟩ Z ?_
      refine ux (fun B=>ab Z) Z Z ?_
      refine ux (fun B=>ab Z) Z Z ?_
      refine ux (fun B=>ax Z Z Y) Z Z ?_
      refine ux (fun B=>aJ Z) Z Z ?_
      refine ux (fun B=>ab Z) Z Z ?_
      refine ux (fun B=>cA _ 1 Z Z Y Y) Z Z ?_
      refine ux (fun B=>ax Z Z Y) Z Z ?_
      refine ux (fun B=>aJ Z) Z Z ?_
      refine ux (fun B=>ab Z) Z Z ?_
      refine ux (fun B=>ab Z) Z Z ?_
      refine ux (fun B=>ax Z Z Y) Z Z ?_
      refine ux (fun B=>aJ Z) Z Z ?_
      refine ux (fun B=>ab Z) Z Z ?_
      refine ux (fun B=>cA _ 1 Z Z Y Y) Z Z ?_
      refine ux (fun B=>ax Z Z Y) Z Z ?_
      refine ux (fun B=>aJ Z) Z Z ?_
      refine uxk (hmu) Z ⟨H,H,Ed⟩ Z ?_
      refine uxk (hsu) Z ⟨H,H,Ed⟩ Z ?_
      refine ua Z (us Z ?_)
      refine RunU.nil (fun γ => ?_)
      refine cF (M' := [_,_,_]) Z (aa (ae (aT 13 aS X S (DZ Z (DZ Z (DY (ax Z Z Y) (DY (aJ Z) (DY (ak 0 Z Z Z) (DZ Z ?_)))))))))
      refine DZ Z (DY (cA _ 1 Z Z Y Y) (DY (ax Z Z Y) (DY (aJ Z) ?_)))
      refine DY (am (hmq2) Z ⟨H,H,Ed⟩) ?_
      refine DY (am (hcq) Z ⟨H,H,Ed⟩) ?_
      refine DY (sF (by assumption) (a7 Z Z)) (Ec (Ec (aa (az Z (av (aB (aa (aj (DZ Z ?_)))))))))
      refine DY (bn _ 1 Z Z Y) (Ea Z (Ec ?_))
      refine aN (p+1+1) (⟨hin,⟨fun a b ha hb=>by rcases Nat.lt_or_eq_of_le (Nat.lt_succ_iff.1 ha) with h | h;exact hr.up a b h hb;subst h;exact (hs b hb).1,fun a b ha hb=>by rcases Nat.lt_or_eq_of_le (Nat.lt_succ_iff.1 ha) with h | h;exact hr.dn a b h hb;subst h;exact (hs b hb).2,fun q hq=>by rcases Nat.lt_or_eq_of_le (show q≤p by omega) with h | h;exact hr.or q Y;subst h;exact ho⟩⟩) Y DU (.drop (.keep DX (.keep DX (.nil))))
     ·rw [wo (Rat.not_le.1 ho)] at hcq
      obtain rfl:v=false:=by cases v;rfl;exact absurd ((hv.1 Z).2.or p hin) ho
      refine ae (ae (aj (DZ Z (DZ Z (DY (sF Y (a7 Z Z)) (Ec (aa (az Z (aY ?_)))))))))
      refine aw (aw (aE (aa (ae (ae (aj (DZ Z (DY (sF Y (cn Z Z)) (Ec ?_)))))))))
      refine aa (az Z (av (aa (ae ?_))))
      refine dU aS X X ?_
      refine uxk (hmq) Z ⟨H,H,Ed⟩ Z ?_
      refine ux (fun B=>ab Z) Z Z ?_
      refine ux (fun B=>ab Z) Z Z ?_
      refine ux (fun B=>ax Z Z Y) Z Z ?_
      refine ux (fun B=>aJ Z) Z Z ?_
      refine ux (fun B=>ab Z) Z Z ?_
      refine ux (fun B=>cA _ 1 Z Z Y Y) Z Z ?_
      refine ux (fun B=>ax Z Z Y) Z Z ?_
      refine ux (fun B=>aJ Z) Z Z ?_
      refine ux (fun B=>ab Z) Z Z ?_
      refine ux (fun B=>ab Z) Z Z ?_
      refine ux (fun B=>ax Z Z Y) Z Z ?_
      refine ux (fun B=>aJ Z) Z Z ?_
      refine ux (fun B=>ab Z) Z Z ?_
      refine ux (fun B=>cA _ 1 Z Z Y Y) Z Z ?_
      refine ux (fun B=>ax Z Z Y) Z Z ?_
      refine ux (fun B=>aJ Z) Z Z ?_
      refine uxk (hmu) Z ⟨H,H,Ed⟩ Z ?_
      refine uxk (hsu) Z ⟨H,H,Ed⟩ Z ?_
      refine ua Z (us Z ?_)
      refine RunU.nil (fun γ => ?_)
      refine cF (M' := [_,_,_]) Z (aa (ae (aT 13 aS X S (DZ Z (DZ Z (DY (ax Z Z Y) (DY (aJ Z) (DY (ak 0 Z Z Z) (DZ Z ?_)))))))))
      refine DZ Z (DY (cA _ 1 Z Z Y Y) (DY (ax Z Z Y) (DY (aJ Z) ?_)))
      refine DY (am (hmq2) Z ⟨H,H,Ed⟩) ?_
      refine DY (am (hcq) Z ⟨H,H,Ed⟩) ?_
      refine DY (sT Y (a7 Z Z)) (Ec (Ec (aa (aG Z (ae (aj (Ea Z (Ec (aa ?_)))))))))
      refine aD (a9 (aI (aI (a9 (aI ?_)))))
      refine aK Tryz.results16 (.tmp Z H)
  ·have he:n=i:=by omega
   subst he
   obtain rfl:v=true:=hv.2 ⟨h0,hr⟩
   refine ae (ae (aj (DZ Z (DY (ah Z) (DY (ak 1 Z Z Z) (DY (sF Y (a7 Z Z)) (Ec (aa (az Z ?_)))))))))
   refine aY (aw (aw (aE (aa (ae (aj (Ea Z (Ec (aa ?_)))))))))
   refine aD ?_
   refine aK Tryz.results16 (.tmp Z H)
 ·have hg:=mO m n F hn hm hF false ⟨fun h=>absurd h S,fun h=>absurd h h0⟩
  simp only [grO,cond_false] at hg
  obtain rfl:v=false:=by cases v;rfl;exact absurd (hv.1 Z).1 h0
  refine Ok.enter Tryz.func16 Z Tryz.ntmps16 Z (fun w O => ?_)
  refine ae (aj ?_)
  refine aM Z Z (ltN Z) (fun b1 => ?_)
  refine Ea Z (Ec (aa (ae (aj (DY (ay 0 Z Z) ?_)))))
  refine DY (am (hg) Z ⟨H,Ed⟩) ?_
  refine DZ Z (DY (aq Z Z) (DY (aq Z Z) (DY (aq Z Z) (Ea Z (Ea Z (Ea Z (Ec (aa (ae ?_)))))))))
  refine ae (aj (DZ Z (DY (sT Y (cE Z Z)) (Ec (aa (aG Z (ae (aj (Ea Z ?_)))))))))
  refine Ec (aa (aD (aI ?_)))
  refine aK Tryz.results16 (.tmp Z H)
end Tor
end
section
namespace Tor
open Go Go.RowKit Go.Proofs
open Lin (dZ lZ uZ cO dK)
structure RedL where
 bd:Nat
 cd:Nat
 bl:Nat
 Bl:Nat→Nat
 bR:Nat
 bU:Nat
 bV:Nat
 BR:Nat→Nat
 CR:Nat→Nat
 BU:Nat→Nat
 CU:Nat→Nat
 BV:Nat→Nat
 CV:Nat→Nat
abbrev xj (n bd cd bl:Nat):VT:=bA 2 [(0, .one,one (slV (some bd) (n+1) cd)),(1, .one,one (slV (some bl) n n))]
abbrev tM (b n:Nat) (s:RedL):Own:=aW b 100 5 [(0, .agg 2,xj n s.bd s.cd s.bl),(2, .agg 3,bA 3 [(0, .one,one (slV (some s.bR) n n)),(1, .one,one (slV (some s.bU) n n)),(2, .one,one (slV (some s.bV) n n))])]
abbrev pY (b m n:Nat) (s:RedL) (D:Nat→Int) (L R U DR:Nat→Nat→Int):Mem :=
 [tM b n s,dO (some s.bd) s.cd (n+1) D,gH s.bl n n (fun q=>q) s.Bl (fun q=>q),cT (fun q=>q) n s.Bl (fun q=>q) L,
  gH s.bR n n (fun _=>m) s.BR s.CR,cT (fun _=>m) n s.BR s.CR R,gH s.bU n n (fun _=>n) s.BU s.CU,cT (fun _=>n) n s.BU s.CU U,gH s.bV n n (fun _=>n) s.BV s.CV,cT (fun _=>n) n s.BV s.CV DR]
abbrev zk (n bd cd bl:Nat) (B:Nat→Nat) (D:Nat→Int) (L:Nat→Nat→Int):Mem := [dO (some bd) cd (n+1) D,gH bl n n (fun q=>q) B (fun q=>q),cT (fun q=>q) n B (fun q=>q) L]
theorem tN {n bd cd bl:Nat} {B:Nat→Nat} {D:Nat→Int} {L:Nat→Nat→Int} : Ent (zk n bd cd bl B D L) (xj n bd cd bl) (uM n D L):=by
 refine Ent.agg (.cons List.mem_cons_self ?_ (.cons (List.mem_cons_of_mem _ List.mem_cons_self) ?_ .nil))
 ·unfold cu;exact Ent.sl List.mem_cons_self
 ·refine Ent.slE (List.mem_cons_of_mem _ List.mem_cons_self) fun q hq => ?_
  unfold cu
  exact Ent.rvo (List.mem_cons_of_mem _ (List.mem_cons_of_mem _ List.mem_cons_self)) hq Z
theorem uT (n bd cd bl:Nat) (B:Nat→Nat) (D:Nat→Int) (L:Nat→Nat→Int) (i j:Nat) (hn:n≤1048576) (hi:i<n) (hj:j<i) (hL:cX (L i j)):OkI Tryz.prog 51 [xj n bd cd bl,one (.int .i64 (i:Nat)),one (.int .i64 (j:Nat))] (zk n bd cd bl B D L) (fun _:Unit=>one (.bool (decide (ny D L i j)))) (fun _=>zk n bd cd bl B D L) :=
 (qJ n D L i j hn hi hj hL).lend ⟨tN,Ent.refl _,Ent.refl _,Ed⟩ wg
theorem zn (n bd cd bl:Nat) (B:Nat→Nat) (D:Nat→Int) (L:Nat→Nat→Int) (k p:Nat) (hn:n≤1048576) (hp:k=p+1) (hk:k<n) (hL:cX (L (p+1) p)) (h0:cX (D p)) (h1:cX (D (p+1))) (h2:cX (D (p+2))):OkI Tryz.prog 52 [xj n bd cd bl,one (.int .i64 (k:Nat))] (zk n bd cd bl B D L) (fun _:Unit=>one (.bool (decide (py D L p)))) (fun _=>zk n bd cd bl B D L) :=
 (we n D L k p hn hp hk hL h0 h1 h2).lend ⟨tN,Ent.refl _,Ed⟩ wg
abbrev trF (V:Nat→Nat→Int):Nat→Nat→Int:=fun a b=>V b a
structure ShH (m n k:Nat) (s:LS):Prop where
 hd:dZ m s.R n≠0
 D : ∀ a,a≤n→cX (dZ m s.R a)
 L : ∀ i,i≤k → ∀ a b,a<n→b<a→cX (lZ m (stA m k s i).R a b)
 z : ∀ i,i≤k → ∀ a,dZ m (stA m k s i).R a=dZ m s.R a
 R : ∀ i,i≤k → ∀ a b,dA ((stA m k s i).R a b)
 U : ∀ i,i≤k → ∀ a b,dA ((stA m k s i).U a b)
 V : ∀ i,i≤k → ∀ a b,dA ((stA m k s i).V a b)
def lSt (k j:Nat) (q d:Int) (L:Nat→Nat→Int) (e:Nat):Nat→Nat→Int:=fun a b=>if a=k∧b=j then L k j - q*d else if a=k∧b<e then L k b - q*L j b else L a b
theorem Di {k j n:Nat} {q d:Int} {L:Nat→Nat→Int} {B:Nat→Nat} : Own.le (rvO 43 (.agg 2) (fun q=>q) n B (fun q=>q) (dT (ff L) k j (aO (L k j - q*d))) (fun _=>false)) (cT (fun q=>q) n B (fun q=>q) (lSt k j q d L 0)):=du (fun _ _=>rfl) (fun _ _ _=>⟨rfl,rfl⟩) fun a b _ _ _=>by
 show VT.le (dT _ _ _ _ a b) (aO (lSt k j q d L 0 a b))
 unfold dT lSt
 by_cases h:a=k∧b=j
 ·rw [if_pos h,if_pos h]; exact VT.le_refl _
 ·rw [if_neg h,if_neg h,if_neg Y]; exact VT.le_refl _
theorem BF {k j e:Nat} {q d:Int} {L:Nat→Nat→Int} (h:e<j):lSt k j q d L e k e=L k e:=by
 unfold lSt;rw [if_neg Y,if_neg Y]
theorem BG {k j e:Nat} {q d:Int} {L:Nat→Nat→Int} (h:j<k):lSt k j q d L e j e=L j e:=by
 unfold lSt;rw [if_neg Y,if_neg Y]
theorem Dj {k j e n:Nat} {q d:Int} {L:Nat→Nat→Int} {B:Nat→Nat} (he:e<j) (hj:j<k):Own.le (rvO 43 (.agg 2) (fun q=>q) n B (fun q=>q) (dT (ff (lSt k j q d L e)) k e (aO (lSt k j q d L e k e - q*lSt k j q d L e j e))) (fun _=>false)) (cT (fun q=>q) n B (fun q=>q) (lSt k j q d L (e+1))):=du (fun _ _=>rfl) (fun _ _ _=>⟨rfl,rfl⟩) fun a b _ _ _=>by
 show VT.le (dT _ _ _ _ a b) (aO (lSt k j q d L (e+1) a b))
 unfold dT
 by_cases h:a=k∧b=e
 ·rw [if_pos h,BF he,BG hj,h.1,h.2]
  unfold lSt
  rw [if_neg Y,if_pos ⟨rfl,by omega⟩]; exact VT.le_refl _
 ·rw [if_neg h]
  show VT.le (aO (lSt k j q d L e a b)) _
  unfold lSt
  by_cases h1:a=k∧b=j
  ·rw [if_pos h1,if_pos h1]; exact VT.le_refl _
  ·rw [if_neg h1,if_neg h1]
   by_cases h2:a=k∧b<e
   ·rw [if_pos h2,if_pos Y]; exact VT.le_refl _
   ·rw [if_neg h2,if_neg Y]; exact VT.le_refl _
theorem Dk {m k j n:Nat} {q d:Int} {R:Nat→Nat→Int} {B:Nat→Nat} (hj:j<k) (hd:d=dZ m R (j+1)) (h0 : ∀ a,a≤n→dZ m R a≠0):Own.le (cT (fun q=>q) n B (fun q=>q) (lSt k j q d (lZ m R) j)) (cT (fun q=>q) n B (fun q=>q) (lZ m (gP k j q R))):=du (fun _ _=>rfl) (fun _ _ _=>⟨rfl,rfl⟩) fun a b ha _ hb=>by
 show VT.le (aO (lSt k j q d (lZ m R) j a b)) (aO (lZ m (Lin.shZ k j q R) a b))
 have e:lSt k j q d (lZ m R) j a b=lZ m (Lin.shZ k j q R) a b:=by
  unfold lSt
  by_cases h:a=k
  ·subst h
   by_cases h1:b=j
   ·subst h1;rw [if_pos ⟨rfl,rfl⟩,Lin.mG hj (h0 _ Y),hd]
   ·rw [if_neg Y]
    by_cases h2:b<j
    ·rw [if_pos ⟨rfl,h2⟩,Lin.pv hj h2 (h0 _ Y)]
    ·rw [if_neg Y,Lin.mH hj Y (h0 _ Y)]
  ·rw [if_neg Y,if_neg Y,Lin.rP hj h (h0 _ Y)]
 rw [e]; exact VT.le_refl _
theorem zp {k j n c:Nat} {q:Int} {B C:Nat→Nat} {F:Nat→Nat→Int} : Own.le (cT (fun _=>c) n B C (adF k j (-q) F)) (cT (fun _=>c) n B C (gP k j q F)):=du (fun _ _=>rfl) (fun _ _ _=>⟨rfl,rfl⟩) fun a b _ _ _=>by
 show VT.le (aO (adF k j (-q) F a b)) (aO (gP k j q F a b))
 unfold adF gP
 rw [Int.neg_mul, ← Int.sub_eq_add_neg]; exact VT.le_refl _
theorem Dl {k j n c:Nat} {q:Int} {B C:Nat→Nat} {F:Nat→Nat→Int} : Own.le (cT (fun _=>c) n B C (adF j k q (trF F))) (cT (fun _=>c) n B C (trF (k9 j k q F))):=du (fun _ _=>rfl) (fun _ _ _=>⟨rfl,rfl⟩) fun a b _ _ _=>by
 show VT.le (aO (adF j k q (trF F) a b)) (aO (k9 j k q F b a))
 unfold adF k9
 exact VT.le_refl _
theorem A3 {x:Int} (h:dA x):dA (-x):=by unfold dA at h ⊢; rwa [Int.natAbs_neg]
theorem A4 {a b e f:Nat} (h1:a≤b+1) (h2:b≤2^e) (hf:e+1=f):a≤2^f:=by
 subst hf
 have h3:1≤2^e:=Nat.pow_pos S
 rw [Nat.pow_succ]; omega
theorem Cx {x:Int} (h:x.natAbs≤2^401):dA x:=Nat.le_trans (gG (t:=401) (k:=64) h S) S
theorem Cy {m n:Nat} {B:Nat→Nat} {s t:LS} (h:s=t):Own.le (cT (fun q=>q) n B (fun q=>q) (lZ m t.R)) (cT (fun q=>q) n B (fun q=>q) (lZ m s.R)):=by rw [h]; exact Own.le_refl _
theorem Cz {c n:Nat} {B C:Nat→Nat} {s t:LS} (h:s=t):Own.le (cT (fun _=>c) n B C t.R) (cT (fun _=>c) n B C s.R):=by rw [h]; exact Own.le_refl _
theorem CA {c n:Nat} {B C:Nat→Nat} {s t:LS} (h:s=t):Own.le (cT (fun _=>c) n B C t.U) (cT (fun _=>c) n B C s.U):=by rw [h]; exact Own.le_refl _
theorem CB {c n:Nat} {B C:Nat→Nat} {s t:LS} (h:s=t):Own.le (cT (fun _=>c) n B C (trF t.V)) (cT (fun _=>c) n B C (trF s.V)):=by rw [h]; exact Own.le_refl _
attribute [local irreducible] J PJ aP one slT cv bA bM exT cq eP aW aU slV VT.le Ret bO
attribute [local irreducible] rvO aO
set_option maxRecDepth 100000 in
theorem uU (b m n k:Nat) (r:RedL) (s:LS) (hn:n≤1048576) (hm:m≤1048576) (hk:k<n) (hS:ShH m n k s) :
  OkI Tryz.prog 63 [one (.pointer (some ⟨b,0,none⟩)),one (.int .i64 (k:Nat))] (pY b m n r (dZ m s.R) (lZ m s.R) s.R s.U (trF s.V))
   (fun _:Unit=>bM []) (fun _=>pY b m n r (dZ m s.R) (lZ m (stA m k s k).R) (stA m k s k).R (stA m k s k).U (trF (stA m k s k).V)):=by
 obtain ⟨bd,cd,bl,Bl,bR,bU,bV,BR,CR,BU,CU,BV,CV⟩:=r
 unfold pY tM
 dsimp only
 refine OkI.enter Tryz.func63 Z Tryz.ntmps63 Z (fun w O => ?_)
 refine ae (aj (DZ Z (DY (e9 Z Z (aR Y Y)) (Ea Z (Ec (aa (ar (cm (Γ' := [(0,_),(1,_),(4,_)]) DT (SubM.refl _) ?_))))))))
 refine bw (σ:=Nat) (Γk := [(0,_),(1,_)]) DT (fun i => [(4,one (.int .i64 ((k:Int) - 1 - (i:Nat))))]) (fun i M0=>((((M0.set 3 (cT (fun q=>q) n Bl (fun q=>q) (lZ m (stA m k s i).R))).set 5 (cT (fun _=>m) n BR CR (stA m k s i).R)).set 7 (cT (fun _=>n) n BU CU (stA m k s i).U)).set 9 (cT (fun _=>n) n BV CV (trF (stA m k s i).V)))) (fun i=>i≤k) (fun i=>k - i) (0) (Nat.zero_le _) DU (.keep DX (.keep DX (.keep DX (.keep DX (.keep DX (.keep DX (.keep DX (.keep DX (.keep DX (.keep DX (.nil))))))))))) (fun i hi => ?_)
 refine bN (Γ' := [(4,_),(0,_),(1,_)]) (M' := [_,_,_,_,_,_,_,_,_,_]) Z Z ?_
 by_cases hik:i<k
 ·obtain ⟨j,hj⟩ : ∃ j,j=k - 1 - i:=⟨_,rfl⟩
  have hjk:j<k:=by omega
  have hst:stA m k s (i+1)=stJ m k j (stA m k s i):=by rw [hj]; rfl
  have hL:=hS.L i hi
  have hL':=hS.L (i+1) hik
  have hz:=hS.z i hi
  have hR:=hS.R i hi
  have hU:=hS.U i hi
  have hV:=hS.V i hi
  have hD:=hS.D
  have hd : ∀ a,a≤n→dZ m (stA m k s i).R a≠0:=fun a ha=>by rw [hz]; exact Lin.cx hS.hd ha
  rw [hst] at hL'
  refine oo (t:=4) (ψ:=one (.int .i64 (j:Nat))) Z (ao (congrArg (Value.int IntKind.i64) Y)) ?_
  rw [show ((k:Int) - 1 - (i:Nat))=(j:Nat) by omega]
  have hnext : ∀ {t':LS},t'=stJ m k j (stA m k s i)→stA m k s (i+1)=t':=fun h=>by rw [hst,h]
  generalize stA m k s i=t at *
  have hsh:=uT n bd cd bl Bl (dZ m s.R) (lZ m t.R) k j hn hk hjk (hL k j hk hjk)
  have hiff:ny (dZ m s.R) (lZ m t.R) k j↔dK m t.R k j:=by unfold ny Lin.dK;rw [hz]
  refine ae (ae (aj (DZ Z (DY (sT Y (j9 Z Z)) (Ec (aa (aG Z (av (aa ?_)))))))))
  refine ae (ar (ae (ae (aj (DZ Z (DY (bH Z) (DY (ah Z) (DY (ak 0 Z Z Z) (DZ Z ?_)))))))))
  refine DZ Z ?_
  refine iR (Min := [_,_,_]) (Kp := [_,_,_,_,_,_,_]) hsh Z ⟨H,H,H,Ed⟩ (List.perm_middle (l₁ := [_,_,_])).symm Z Z (fun _ => ?_)
  refine fX (.ofPerm (List.perm_middle (l₁ := [_,_,_]))) ?_
  by_cases hs:dK m t.R k j
  ·rw [decide_eq_true (hiff.2 hs)]
   have hn':=hnext (if_pos hs).symm
   refine Ec (aa (aG Z (aY (aw (aE (aa (aj (DZ Z (DY (e9 Z Z (aR Y Y)) ?_)))))))))
   refine Ea Z (Ec ?_)
   refine aN (i+1) Y Y DU (.keep DX (.keep DX (.keep DX (.keep (Cy hn') (.keep DX (.keep (Cz hn') (.keep DX (.keep (CA hn') (.keep DX (.keep (CB hn') (.nil)))))))))))
  ·rw [decide_eq_false (fun h=>hs (hiff.1 h))]
   have hdp:0<dZ m s.R (j+1):=by have:=Lin.jS (hd (j+1) Y);rwa [hz] at this
   have m1:cX (lZ m t.R k j):=hL k j hk hjk
   have m2:cX (dZ m s.R (j+1)):=hD _ Y
   have b1:((lZ m t.R k j)+(lZ m t.R k j)).natAbs≤2^401:=lR (t:=400) (v:=401) m1 m1 S
   have b2:((lZ m t.R k j)+(lZ m t.R k j)+(dZ m s.R (j+1))).natAbs≤2^402:=lR (t:=401) (v:=402) b1 (BB (t:=400) (u:=401) m2 S) S
   have b3:((dZ m s.R (j+1))+(dZ m s.R (j+1))).natAbs≤2^401:=lR (t:=400) (v:=401) m2 m2 S
   have c0:=bE m1
   have c1:=bE m2
   have c2:=eM (t:=401) b1 S
   have c3:=eM (t:=402) b2 S
   have c4:=eM (t:=401) b3 S
   obtain ⟨q,hq⟩ : ∃ q,q=px (lZ m t.R k j) (dZ m s.R (j+1)):=⟨_,rfl⟩
   have hqa:q.natAbs≤2^401:=by
    have h1:=tB (x:=lZ m t.R k j) hdp
    rw [← hq] at h1
    have h2:(lZ m t.R k j).natAbs≤2^400:=m1
    exact A4 (e:=400) (f:=401) h1 h2 S
   have hdm:Ok Tryz.prog 98 [aO ((lZ m t.R k j)+(lZ m t.R k j)+(dZ m s.R (j+1))),aO ((dZ m s.R (j+1))+(dZ m s.R (j+1)))] (bM [aO q,aO (((lZ m t.R k j)+(lZ m t.R k j)+(dZ m s.R (j+1))) % ((dZ m s.R (j+1))+(dZ m s.R (j+1)))),one (.int .i64 0)]):=by
    have h:=ib ((lZ m t.R k j)+(lZ m t.R k j)+(dZ m s.R (j+1))) ((dZ m s.R (j+1))+(dZ m s.R (j+1))) Y c3 c4
    rw [show ((lZ m t.R k j)+(lZ m t.R k j)+(dZ m s.R (j+1))) / ((dZ m s.R (j+1))+(dZ m s.R (j+1)))=q by rw [hq]; unfold px;rw [Int.two_mul,Int.two_mul]] at h;exact h
   have c5:=eM (t:=401) hqa S
   have c6:bJ (-q):=kM c5
   have c7:bJ (q*dZ m s.R (j+1)):=eM (t:=801) (fg (t:=401) (u:=400) (v:=801) hqa m2 S) S
   have l1:dA q:=Cx hqa
   have l2:dA (-q):=A3 l1
   have a1:=rG bR n n (fun _=>m) BR CR t.R k j (-q) hn hm hk Y Z Y l2 hR
   have a2:=rG bU n n (fun _=>n) BU CU t.U k j (-q) hn hn hk Y Z Y l2 hU
   have a3:=rG bV n n (fun _=>n) BV CV (trF t.V) j k q hn hn Y hk Z Y l1 (fun a b=>hV b a)
   refine Ec (aa (az Z (av (aa (ae ?_)))))
   refine dU aS X X ?_
   refine ux (fun B=>ab Z) Z Z ?_
   refine ux (fun B=>bH Z) Z Z ?_
   refine ux (fun B=>ah Z) Z Z ?_
   refine ux (fun B=>ah Z) Z Z ?_
   refine ux (fun B=>bt 0 0 1 Z Z Z Z Z) Z Z ?_
   refine ux (fun B=>ab Z) Z Z ?_
   refine ux (fun B=>an Z Z Y) Z Z ?_
   refine ux (fun B=>bk 2 Z Z Y) Z Z ?_
   refine ux (fun B=>ab Z) Z Z ?_
   refine ux (fun B=>an Z Z Y) Z Z ?_
   refine ux (fun B=>d9 3 Z Z Y Z Y) Z Z ?_
   refine ux (fun B=>ab Z) Z Z ?_
   refine ux (fun B=>bH Z) Z Z ?_
   refine ux (fun B=>ah Z) Z Z ?_
   refine ux (fun B=>ah Z) Z Z ?_
   refine ux (fun B=>bt 0 0 0 Z Z Z Z Z) Z Z ?_
   refine ux (fun B=>ab Z) Z Z ?_
   refine ux (fun B=>bn _ 1 Z Z Y) Z Z ?_
   refine ux (fun B=>an Z Z Y) Z Z ?_
   refine ux (fun B=>bk 1 Z Z Y) Z Z ?_
   refine ua Z (ua Z (us Z (us Z ?_)))
   refine RunU.nil (fun γ => ?_)
   refine cF (M' := [_,_,_,_,_,_,_,_,_,_,_,_]) Z (aa (ae (aj (DY (ak 1 Z Z Z) (DY (ak 1 Z Z Z) ?_)))))
   refine DY (am (gv _ _ (by assumption) (by assumption)) Z ⟨H,H,Ed⟩) ?_
   refine aX (T:=43) Z (ltN Z) (fun b7 => ?_)
   refine aC 0 Z Z Z Z Z (leN Z) Z (Ec (aa (ae ?_)))
   refine dU aS X X ?_
   refine ux (fun B=>ak 0 Z Z Z) Z Z ?_
   refine ux (fun B=>ak 1 Z Z Z) Z Z ?_
   refine uxk (gv _ _ (by assumption) (by assumption)) Z ⟨H,H,Ed⟩ Z ?_
   refine ux (fun B=>ak 1 Z Z Z) Z Z ?_
   refine ux (fun B=>ak 1 Z Z Z) Z Z ?_
   refine uxk (gv _ _ (by assumption) (by assumption)) Z ⟨H,H,Ed⟩ Z ?_
   refine uxk (hdm) Z ⟨H,H,Ed⟩ Z ?_
   refine ux (fun B=>ab Z) Z Z ?_
   refine ux (fun B=>aq Z Z) Z Z ?_
   refine ux (fun B=>aq Z Z) Z Z ?_
   refine ux (fun B=>aq Z Z) Z Z ?_
   refine ua Z (ua Z (us Z (us Z ?_)))
   refine ux (fun B=>ai Z) Z Z ?_
   refine RunU.nil (fun γ => ?_)
   refine cF (M' := [_,_,_,_,_,_,_,_,_,_,_,_,_,_,_]) Z (aa (ae (aj (DY (ak 1 Z Z Z) ?_))))
   refine DY (am (vG _ (by assumption)) Z ⟨H,Ed⟩) ?_
   refine aX (T:=43) Z (ltN Z) (fun b11 => ?_)
   refine aC 0 Z Z Z Z Z (leN Z) Z (Ec (aa (ae (ma 16 8 aS X S (DZ Z (DY (bH Z) (DY (ah Z) (DY (eQ 0 _ Z Z (ltN Z)) (DY (bt 6 2 0 Z Z Z Z Z) ?_)))))))))
   refine DZ Z (DZ Z (DY (ak 0 Z Z Z) (Ec ?_)))
   refine iR (Min := [_,_]) (Kp := [_,_,_,_,_,_,_,_,_,_,_,_,_,_]) a1 Z ⟨H,H,H,H,Ed⟩ ((List.perm_append_comm (l₁ := [_,_,_,_,_,_,_,_,_,_]) (l₂ := [_,_])).append_right [_,_,_,_]) Z Z (fun _ => ?_)
   refine fX (.ofPerm ((List.perm_append_comm (l₁ := [_,_]) (l₂ := [_,_,_,_,_,_,_,_,_,_])).append_right [_,_,_,_])) (Ec (aa (ae (ma 16 8 aS X S (DZ Z (DY (bH Z) (DY (ah Z) (DY (eQ 1 _ Z Z (ltN Z)) (DY (bt 6 2 1 Z Z Z Z Z) ?_)))))))))
   refine DZ Z (DZ Z (DY (ak 0 Z Z Z) (Ec ?_)))
   refine iR (Min := [_,_]) (Kp := [_,_,_,_,_,_,_,_,_,_,_,_,_,_]) a2 Z ⟨H,H,H,H,Ed⟩ ((List.perm_append_comm (l₁ := [_,_,_,_,_,_,_,_,_,_,_,_]) (l₂ := [_,_])).append_right [_,_]) Z Z (fun _ => ?_)
   refine fX (.ofPerm ((List.perm_append_comm (l₁ := [_,_]) (l₂ := [_,_,_,_,_,_,_,_,_,_,_,_])).append_right [_,_])) (Ec (aa (ae (ma 16 8 aS X S (DZ Z (DY (bH Z) (DY (ah Z) (DY (eQ 2 _ Z Z (ltN Z)) (DY (bt 6 2 2 Z Z Z Z Z) ?_)))))))))
   refine DZ Z (DZ Z (DY (ak 2 Z Z Z) (Ec ?_)))
   refine iR (Min := [_,_]) (Kp := [_,_,_,_,_,_,_,_,_,_,_,_,_,_]) a3 Z ⟨H,H,H,H,Ed⟩ (List.perm_append_comm (l₁ := [_,_,_,_,_,_,_,_,_,_,_,_,_,_]) (l₂ := [_,_])) Z Z (fun _ => ?_)
   refine fX (.ofPerm (List.perm_append_comm (l₁ := [_,_]) (l₂ := [_,_,_,_,_,_,_,_,_,_,_,_,_,_]))) (Ec (aa (ae (aT 14 aS X S (DZ Z (DY (bH Z) (DY (ah Z) (DY (ah Z) (DY (bt 6 0 1 Z Z Z Z Z) ?_)))))))))
   refine DZ Z (DY (an Z Z Y) (DY (bk 8 Z Z Y) (DZ Z (DY (ak 5 Z Z Z) (DY (ak 2 Z Z Z) (DY (ak 4 Z Z Z) ?_))))))
   refine DY (am (dM _ _ (by assumption) (by assumption)) Z ⟨H,H,Ed⟩) ?_
   refine DY (am (mq _ _ (by assumption) (by assumption)) Z ⟨H,H,Ed⟩) ?_
   refine Ec (DY (an Z Z Y) ?_)
   (refine dq 9 Z Z Z ?_ Z ?_ Z ?_;omega;omega)
   refine Ec (aa (ae (aj (DZ Z (DZ Z (Ec (aa (ar (cm (Γ' := [(0,_),(1,_),(4,_),(8,_),(104,_),(105,_)]) DT (SubM.refl _) ?_)))))))))
   refine bw (σ:=Nat) (Γk := [(0,_),(1,_),(4,_),(8,_),(104,_)]) DT (fun e => [(105,one (.int .i64 (e:Nat)))]) (fun e M0=>(M0.set 9 (cT (fun q=>q) n Bl (fun q=>q) (lSt k j q (dZ m s.R (j+1)) (lZ m t.R) e)))) (fun e=>e≤j) (fun e=>j - e) (0) (Nat.zero_le _) DU (.keep DX (.keep DX (.keep DX (.keep DX (.keep DX (.keep DX (.keep DX (.keep DX (.keep DX (.keep (Di) (.keep DX (.keep DX (.keep DX (.keep DX (.keep DX (.keep DX (.nil))))))))))))))))) (fun e he => ?_)
   refine bN (Γ' := [(105,_),(0,_),(1,_),(4,_),(8,_),(104,_)]) (M' := [_,_,_,_,_,_,_,_,_,_,_,_,_,_,_,_]) Z Z ?_
   by_cases hej:e<j
   ·have m3:cX (lSt k j q (dZ m s.R (j+1)) (lZ m t.R) e k e):=by rw [BF hej]; exact hL k e hk Y
    have m4:cX (lSt k j q (dZ m s.R (j+1)) (lZ m t.R) e j e):=by rw [BG hjk]; exact hL j e Y hej
    have d1:=bE m3
    have d2:=bE m4
    have d3:bJ (q*lSt k j q (dZ m s.R (j+1)) (lZ m t.R) e j e):=eM (t:=801) (fg (t:=401) (u:=400) (v:=801) hqa m4 S) S
    have hek:e<k:=by omega
    refine ae (aj (DY (sT Y (a7 Z Z)) (Ec (aa (ae (aG Z (av (aa (ae ?_)))))))))
    refine ar (ae (aj (DZ Z (Ea Z (Ec (aa (aT 34 aS X S (DZ Z (DY (bH Z) ?_)))))))))
    refine DY (ah Z) (DY (ah Z) (DY (bt 6 0 1 Z Z Z Z Z) (DZ Z (DY (an Z Z Y) (DY (bk 8 Z Z Y) (DZ Z (DZ Z (DY (bH Z) (DY (ah Z) ?_)))))))))
    refine DY (ah Z) (DY (bt 6 0 1 Z Z Z Z Z) (DZ Z (DY (an Z Z Y) (DY (bk 8 Z Z Y) (DZ Z (DY (an Z Z Y) (DY (d9 9 Z Z Y Z Y) (DY (ak 2 Z Z Z) (DZ Z ?_)))))))))
    refine DY (bH Z) (DY (ah Z) (DY (ah Z) (DY (bt 6 0 1 Z Z Z Z Z) (DZ Z (DY (an Z Z Y) (DY (bk 8 Z Z Y) (DZ Z (DY (an Z Z Y) (DY (d9 9 Z Z Y Z Y) ?_)))))))))
    refine DY (am (dM _ _ (by assumption) (by assumption)) Z ⟨H,H,Ed⟩) ?_
    refine DY (am (mq _ _ (by assumption) (by assumption)) Z ⟨H,H,Ed⟩) ?_
    refine Ec (DY (an Z Z Y) ?_)
    (refine dq 9 Z Z Z ?_ Z ?_ Z ?_;omega;omega)
    refine Ec (aB (aa (aj (DY (bn _ 1 Z Z Y) (DZ Z (Ec ?_))))))
    refine aN (e+1) (hej) Y DU (.keep DX (.keep DX (.keep DX (.keep DX (.keep DX (.keep DX (.keep DX (.keep DX (.keep DX (.keep (Dj hej hjk) (.keep DX (.keep DX (.keep DX (.keep DX (.keep DX (.keep DX (.nil)))))))))))))))))
   ·have he:e=j:=by omega
    subst he
    have hn':=hnext (t':=⟨gP k e q t.R,gP k e q t.U,k9 e k q t.V⟩) (by unfold stJ;rw [if_neg hs,hz, ← hq])
    refine ae (aj (DY (sF Y (a7 Z Z)) (Ec (aa (ae (az Z (aY (aw (aw ?_)))))))))
    refine aE (aB (aa (aj (DZ Z (DY (e9 Z Z (aR Y Y)) (Ea Z (Ec ?_)))))))
    refine aN (i+1) Y Y DU (.drop (.drop (.drop (.drop (.drop (.drop (.keep DX (.keep DX (.keep DX (.keep (by (rw [hn']; exact Dk hjk (hz _).symm hd)) (.keep DX (.keep (by (rw [hn']; exact zp)) (.keep DX (.keep (by (rw [hn']; exact zp)) (.keep DX (.keep (by (rw [hn']; exact Dl)) (.nil)))))))))))))))))
 ·have he:i=k:=by omega
  subst he
  refine ae (ae (aj (DZ Z (DY (sF Y (j9 Z Z)) (Ec (aa (az Z (aY (aw ?_)))))))))
  refine aw (aE (q8 ?_))
  exact xV (σ:=Unit) (ψ:=fun _=>bM []) () Tryz.results63 H (SubM.refl _)
end Tor
end
section
namespace Tor
open Go Go.RowKit Go.Proofs
open Lin (dZ lZ uZ cO dK)
def swI {α:Type} (c i p:Nat) (f:Nat→α):Nat→α:=if c<i then swp p (p+1) f else f
theorem pE {bz cap n c p:Nat} {B C:Nat→Nat} : Own.le (aU (some bz) 50 .one cap n (upd (upd (fun q=>one (slV (some (B q)) c (C q))) p (one (slV (some (B (p+1))) c (C (p+1))))) (p+1) (one (slV (some (B p)) c (C p))))) (gH bz cap n (fun _=>c) (swp p (p+1) B) (swp p (p+1) C)):=bQ fun q _=>by
 unfold upd swp
 by_cases h1:q=p+1
 ·have h2 : ¬ q=p:=by omega
  simp only [h1,if_true,if_pos]
  simp
 ·by_cases h2:q=p
  ·simp [h1,h2]
  ·simp [h1,h2]
theorem pF {n c p:Nat} {B C:Nat→Nat} {F:Nat→Nat→Int} : Own.le (rvO 43 (.agg 2) (fun _=>c) n B C (swp p (p+1) (ff F)) (fun _=>false)) (cT (fun _=>c) n B C (swp p (p+1) F)):=du (fun _ _=>rfl) (fun _ _ _=>⟨rfl,rfl⟩) fun q j _ _ _=>by
 show VT.le (swp p (p+1) (ff F) q j) (aO (swp p (p+1) F q j))
 unfold swp
 split
 ·exact VT.le_refl _
 ·split <;> exact VT.le_refl _
def lEx (p x:Nat) (L:Nat→Nat→Int):Nat→Nat→Int:=fun a b=>if a=p∧b<x then L (p+1) b else if a=p+1∧b<x then L p b else L a b
theorem Dm {p n:Nat} {L:Nat→Nat→Int} {B:Nat→Nat} : Own.le (cT (fun q=>q) n B (fun q=>q) L) (cT (fun q=>q) n B (fun q=>q) (lEx p 0 L)):=du (fun _ _=>rfl) (fun _ _ _=>⟨rfl,rfl⟩) fun a b _ _ _=>by
 show VT.le (aO (L a b)) (aO (lEx p 0 L a b))
 unfold lEx;rw [if_neg Y,if_neg Y]; exact VT.le_refl _
theorem Dn {p x n:Nat} {L:Nat→Nat→Int} {B:Nat→Nat} : Own.le (rvO 43 (.agg 2) (fun q=>q) n B (fun q=>q) (dT (dT (ff (lEx p x L)) p x (ff (lEx p x L) (p+1) x)) (p+1) x (ff (lEx p x L) p x)) (fun _=>false)) (cT (fun q=>q) n B (fun q=>q) (lEx p (x+1) L)):=du (fun _ _=>rfl) (fun _ _ _=>⟨rfl,rfl⟩) fun a b _ _ _=>by
 show VT.le (dT _ _ _ _ a b) (aO (lEx p (x+1) L a b))
 have e1:lEx p x L (p+1) x=L (p+1) x:=by unfold lEx;rw [if_neg Y,if_neg Y]
 have e2:lEx p x L p x=L p x:=by unfold lEx;rw [if_neg Y,if_neg Y]
 unfold dT
 by_cases h:a=p+1∧b=x
 ·rw [if_pos h]
  show VT.le (aO (lEx p x L p x)) _
  rw [e2,h.1,h.2,show lEx p (x+1) L (p+1) x=L p x by unfold lEx;rw [if_neg Y,if_pos Y]]; exact VT.le_refl _
 ·rw [if_neg h]
  by_cases h1:a=p∧b=x
  ·rw [if_pos h1]
   show VT.le (aO (lEx p x L (p+1) x)) _
   rw [e1,h1.1,h1.2,show lEx p (x+1) L p x=L (p+1) x by unfold lEx;rw [if_pos Y]]; exact VT.le_refl _
  ·rw [if_neg h1]
   show VT.le (aO (lEx p x L a b)) _
   unfold lEx
   by_cases h2:a=p∧b<x
   ·rw [if_pos h2,if_pos Y]; exact VT.le_refl _
   ·rw [if_neg h2,if_neg (c:=a=p∧b<x+1) Y]
    by_cases h3:a=p+1∧b<x
    ·rw [if_pos h3,if_pos Y]; exact VT.le_refl _
    ·rw [if_neg h3,if_neg Y]; exact VT.le_refl _
theorem zr {p:Nat} {L:Nat→Nat→Int} : lEx p p L (p+1) p=L (p+1) p:=by unfold lEx;rw [if_neg Y,if_neg Y]
def lEi (m p i:Nat) (R:Nat→Nat→Int):Nat→Nat→Int:=fun a b=>if p+1<a∧i≤a then lZ m R a b else lZ m (Lin.exZ p R) a b
def lEj (m p i:Nat) (R:Nat→Nat→Int):Nat→Nat→Int:=fun a b=>if a=i∧b=p+1 then lZ m (Lin.exZ p R) i (p+1) else lEi m p i R a b
theorem Do {m p n:Nat} {R:Nat→Nat→Int} {B:Nat→Nat} (h0 : ∀ a,a≤n→dZ m R a≠0) (hk:p+1<n):Own.le (cT (fun q=>q) n B (fun q=>q) (lEx p p (lZ m R))) (cT (fun q=>q) n B (fun q=>q) (lEi m p (p+2) R)):=du (fun _ _=>rfl) (fun _ _ _=>⟨rfl,rfl⟩) fun a b ha _ hb=>by
 show VT.le (aO (lEx p p (lZ m R) a b)) (aO (lEi m p (p+2) R a b))
 have DS:=h0 (p+2) Y
 have e:lEx p p (lZ m R) a b=lEi m p (p+2) R a b:=by
  unfold lEi
  by_cases h:p+1<a
  ·rw [if_pos ⟨h,by omega⟩]; unfold lEx;rw [if_neg Y,if_neg Y]
  ·rw [if_neg (fun h2=>h h2.1)]
   by_cases hbp:b=p
   ·have ha1:a=p+1:=by omega
    subst hbp ha1
    rw [zr,Lin.yP DS]
   ·have hlt:b<p:=by omega
    rw [Lin.rQ DS hbp Y (h0 _ Y)]
    unfold lEx Lin.exI
    by_cases h1:a=p
    ·rw [if_pos ⟨h1,hlt⟩,if_pos h1]
    ·rw [if_neg (fun h2=>h1 h2.1),if_neg h1]
     by_cases h3:a=p+1
     ·rw [if_pos ⟨h3,hlt⟩,if_pos h3]
     ·rw [if_neg (fun h2=>h3 h2.1),if_neg h3]
 rw [e]; exact VT.le_refl _
theorem Dp {m p i n:Nat} {R:Nat→Nat→Int} {B:Nat→Nat} : Own.le (rvO 43 (.agg 2) (fun q=>q) n B (fun q=>q) (dT (ff (lEi m p i R)) i (p+1) (aO (lZ m (Lin.exZ p R) i (p+1)))) (fun _=>false)) (cT (fun q=>q) n B (fun q=>q) (lEj m p i R)):=du (fun _ _=>rfl) (fun _ _ _=>⟨rfl,rfl⟩) fun a b _ _ _=>by
 show VT.le (dT _ _ _ _ a b) (aO (lEj m p i R a b))
 unfold dT lEj
 by_cases h:a=i∧b=p+1
 ·rw [if_pos h,if_pos h]; exact VT.le_refl _
 ·rw [if_neg h,if_neg h]; exact VT.le_refl _
theorem Dq {m p i n:Nat} {R:Nat→Nat→Int} {B:Nat→Nat} (h0 : ∀ a,a≤n→dZ m R a≠0) (hi:p+1<i) (hin:i<n):Own.le (rvO 43 (.agg 2) (fun q=>q) n B (fun q=>q) (dT (ff (lEj m p i R)) i p (aO (lZ m (Lin.exZ p R) i p))) (fun _=>false)) (cT (fun q=>q) n B (fun q=>q) (lEi m p (i+1) R)):=du (fun _ _=>rfl) (fun _ _ _=>⟨rfl,rfl⟩) fun a b ha _ hb=>by
 show VT.le (dT _ _ _ _ a b) (aO (lEi m p (i+1) R a b))
 have DS:=h0 (p+2) Y
 unfold dT
 by_cases h:a=i∧b=p
 ·rw [if_pos h,h.1,h.2,show lEi m p (i+1) R i p=lZ m (Lin.exZ p R) i p from if_neg Y]; exact VT.le_refl _
 ·rw [if_neg h]
  show VT.le (aO (lEj m p i R a b)) _
  have e:lEj m p i R a b=lEi m p (i+1) R a b:=by
   unfold lEj
   by_cases h1:a=i∧b=p+1
   ·rw [if_pos h1,h1.1,h1.2]; exact (if_neg Y).symm
   ·rw [if_neg h1]
    by_cases h2:a=i
    ·subst h2
     have e2:lEi m p a R a b=lZ m R a b:=if_pos ⟨hi,Nat.le_refl _⟩
     have e3:lEi m p (a+1) R a b=lZ m (Lin.exZ p R) a b:=if_neg Y
     rw [e2,e3,Lin.rQ DS (fun hb=>h ⟨rfl,hb⟩) (fun hb=>h1 ⟨rfl,hb⟩) (h0 _ Y)]
     unfold Lin.exI
     rw [if_neg Y,if_neg Y]
    ·unfold lEi
     by_cases h3:p+1<a∧i≤a
     ·rw [if_pos h3,if_pos Y]
     ·rw [if_neg h3,if_neg Y]
  rw [e]; exact VT.le_refl _
theorem Dr {m p n:Nat} {R:Nat→Nat→Int} {B:Nat→Nat} : Own.le (cT (fun q=>q) n B (fun q=>q) (lEi m p n R)) (cT (fun q=>q) n B (fun q=>q) (lZ m (Lin.exZ p R))):=du (fun _ _=>rfl) (fun _ _ _=>⟨rfl,rfl⟩) fun a b ha _ _=>by
 show VT.le (aO (lEi m p n R a b)) _
 rw [show lEi m p n R a b=lZ m (Lin.exZ p R) a b from if_neg Y]; exact VT.le_refl _
theorem Ds {m p n cd bd:Nat} {R:Nat→Nat→Int} (DS:dZ m R (p+2)≠0):Own.le (aU (some bd) 43 (.agg 2) cd (n+1) (upd (fun q=>aO (dZ m R q)) (p+1) (aO (dZ m (Lin.exZ p R) (p+1))))) (dO (some bd) cd (n+1) (dZ m (Lin.exZ p R))):=bQ fun q _=>by
 unfold upd
 by_cases h:q=p+1
 ·rw [if_pos h,h]
 ·rw [if_neg h,Lin.od DS h]
abbrev RedL.sw (p:Nat) (r:RedL):RedL:=⟨r.bd,r.cd,r.bl,r.Bl,r.bR,r.bU,r.bV,swp p (p+1) r.BR,swp p (p+1) r.CR,swp p (p+1) r.BU,swp p (p+1) r.CU,swp p (p+1) r.BV,swp p (p+1) r.CV⟩
attribute [local irreducible] J PJ aP one slT cv bA bM exT cq eP aW aU slV VT.le Ret bO
attribute [local irreducible] rvO aO
set_option maxRecDepth 100000 in
theorem tO (b m n p:Nat) (r:RedL) (R U DR:Nat→Nat→Int) (hn:n≤1048576) (hm:m≤1048576) (hk:p+1<n) (hd:dZ m R n≠0)
  (hD : ∀ a,a≤n→cX (dZ m R a)) (hL : ∀ i j,i<n→j<i→cX (lZ m R i j)) (hD':cX (dZ m (Lin.exZ p R) (p+1))) (hL' : ∀ i j,i<n→j<i→cX (lZ m (Lin.exZ p R) i j)) :
  OkI Tryz.prog 64 [one (.pointer (some ⟨b,0,none⟩)),one (.int .i64 ((p+1:Nat):Int))] (pY b m n r (dZ m R) (lZ m R) R U DR)
   (fun _:Unit=>bM []) (fun _=>pY b m n (r.sw p) (dZ m (Lin.exZ p R)) (lZ m (Lin.exZ p R)) (Lin.exZ p R) (swp p (p+1) U) (swp p (p+1) DR)):=by
 obtain ⟨bd,cd,bl,Bl,bR,bU,bV,BR,CR,BU,CU,BV,CV⟩:=r
 unfold pY tM
 dsimp only
 refine OkI.enter Tryz.func64 Z Tryz.ntmps64 Z (fun w O => ?_)
 refine ae (ae (aj (DZ Z (DY (bH Z) (DY (ah Z) (DY (ak 0 Z Z Z) (DZ Z (Ec (aa ?_)))))))))
 refine ar (cm (Γ' := [(0,_),(1,_),(17,_),(18,_)]) DT (SubM.refl _) ?_)
 refine bw (σ:=Nat) (Γk := [(0,_),(1,_),(17,_)]) DT (fun i => [(18,one (.int .i64 (i:Nat)))]) (fun i M0=>((((((M0.set 4 (gH bR n n (fun _=>m) (swI 0 i p BR) (swI 0 i p CR))).set 5 (cT (fun _=>m) n (swI 0 i p BR) (swI 0 i p CR) (swI 0 i p R))).set 6 (gH bU n n (fun _=>n) (swI 1 i p BU) (swI 1 i p CU))).set 7 (cT (fun _=>n) n (swI 1 i p BU) (swI 1 i p CU) (swI 1 i p U))).set 8 (gH bV n n (fun _=>n) (swI 2 i p BV) (swI 2 i p CV))).set 9 (cT (fun _=>n) n (swI 2 i p BV) (swI 2 i p CV) (swI 2 i p DR)))) (fun i=>i≤3) (fun i=>3 - i) (0) (Nat.zero_le _) DU (.keep DX (.keep DX (.keep DX (.keep DX (.keep DX (.keep DX (.keep DX (.keep DX (.keep DX (.keep DX (.nil))))))))))) (fun i hi => ?_)
 refine bN (Γ' := [(18,_),(0,_),(1,_),(17,_)]) (M' := [_,_,_,_,_,_,_,_,_,_]) Z Z ?_
 by_cases h0:i=0
 ·subst h0
  simp only [swI,Nat.lt_irrefl,if_false,if_true,Nat.not_lt_zero,Nat.zero_lt_one,Nat.reduceLT]
  refine ae (aj (DY (sT Y (a7 Z Z)) (Ec (aa (ae (aG Z (av (aa (ae ?_)))))))))
  refine ar (ae (aj (DY (oE Z Z Y Z) (Ea Z (Ec (aa ?_))))))
  apply nm (Γ1 := [(0,_),(1,_),(5,_),(17,_),(18,_)]) (M1 := [_,_,_,_,_,_,_,_,_,_]) 14 7 [3,4] [] aS X S
  ·refine DZ Z (DZ Z (DY (cA _ 1 Z Z Y Y) (DZ Z (DZ Z (DZ Z (DZ Z (DY (an Z Z Y) (DY (bk 4 Z Z Y) (DZ Z ?_)))))))))
   refine DZ Z (DY (cA _ 1 Z Z Y Y) (DY (an Z Z Y) (DY (bk 4 Z Z Y) (Ec ?_))))
   refine ul (Γa := [(0,_),(1,_),(5,_),(17,_),(18,_),(21,_),(23,_),(29,_),(34,_)]) (Γb := [(0,_),(1,_),(5,_),(17,_),(18,_),(21,_),(23,_),(29,_),(34,_),(25,_)]) (Γc := [(0,_),(1,_),(5,_),(17,_),(18,_),(21,_),(23,_),(29,_),(34,_),(24,_)]) (Γd := [(0,_),(1,_),(5,_),(17,_),(18,_),(21,_),(23,_),(29,_),(34,_),(24,_),(25,_)]) (rem := [14,15,16,17]) Z DW Z DW Z DW Z DW Z ?_ ?_ ?_ ?_
   ·refine gk (r1 := [4,14,15,16,17]) (r2 := [3,14,15,16,17]) (r3 := [3,4,15,16,17]) (i:=3) (j:=4) (k:=14) X Z Z Z Z Z Z ?_ ?_ ?_ i7.nil
    refine DZ Z (Ec ?_)
    refine ⟨rfl,?_⟩
    refine bX (rem' := [14,15,16,17]) (rem'' := [4,15,16,17]) (i:=4) (j:=14) X Z Z Z Z ?_ ?_ i7.nil
    refine DZ Z (Ec ?_)
    refine ⟨rfl,?_⟩
    refine au (rem' := [15,16,17]) (i:=14) X Z Z ?_ i7.nil
    refine DY (an Z Z Y) (Ec ?_)
    refine ⟨rfl,?_⟩
    refine au (rem' := [16,17]) (i:=15) X Z Z ?_ i7.nil
    (refine aA 4 Z Z Z ?_ Z ?_;omega)
    refine Ec ?_
    refine ⟨rfl,?_⟩
    refine au (rem' := [17]) (i:=16) X Z Z ?_ i7.nil
    refine DY (an Z Z Y) (Ec ?_)
    refine ⟨rfl,?_⟩
    refine au (rem' := []) (i:=17) X Z Z ?_ i7.nil
    (refine aA 4 Z Z Z ?_ Z ?_;omega)
    refine Ec ?_
    refine ⟨rfl,?_⟩
    refine a8 DW (SubM.refl _) i7.nil
    refine DY (an Z Z Y) (Ec ?_)
    refine ⟨rfl,?_⟩
    refine bX (rem' := [15,16,17]) (rem'' := [4,16,17]) (i:=4) (j:=15) X Z Z Z Z ?_ ?_ i7.nil
    refine DZ Z (Ec ?_)
    refine ⟨rfl,?_⟩
    refine au (rem' := [16,17]) (i:=15) X Z Z ?_ i7.nil
    (refine aA 4 Z Z Z ?_ Z ?_;omega)
    refine Ec ?_
    refine ⟨rfl,?_⟩
    refine au (rem' := [17]) (i:=16) X Z Z ?_ i7.nil
    refine DY (an Z Z Y) (Ec ?_)
    refine ⟨rfl,?_⟩
    refine au (rem' := []) (i:=17) X Z Z ?_ i7.nil
    (refine aA 4 Z Z Z ?_ Z ?_;omega)
    refine Ec ?_
    refine ⟨rfl,?_⟩
    refine a8 DW (SubM.refl _) i7.nil
    (refine aA 4 Z Z Z ?_ Z ?_;omega)
    refine Ec ?_
    refine ⟨rfl,?_⟩
    refine au (rem' := [16,17]) (i:=4) X Z Z ?_ i7.nil
    refine DZ Z (Ec ?_)
    refine ⟨rfl,?_⟩
    refine au (rem' := [17]) (i:=16) X Z Z ?_ i7.nil
    refine DY (an Z Z Y) (Ec ?_)
    refine ⟨rfl,?_⟩
    refine au (rem' := []) (i:=17) X Z Z ?_ i7.nil
    (refine aA 4 Z Z Z ?_ Z ?_;omega)
    refine Ec ?_
    refine ⟨rfl,?_⟩
    refine a8 DW (SubM.refl _) i7.nil
    refine DZ Z (Ec ?_)
    refine ⟨rfl,?_⟩
    refine bX (rem' := [14,15,16,17]) (rem'' := [3,15,16,17]) (i:=3) (j:=14) X Z Z Z Z ?_ ?_ i7.nil
    refine DZ Z (Ec ?_)
    refine ⟨rfl,?_⟩
    refine au (rem' := [15,16,17]) (i:=14) X Z Z ?_ i7.nil
    refine DY (an Z Z Y) (Ec ?_)
    refine ⟨rfl,?_⟩
    refine au (rem' := [16,17]) (i:=15) X Z Z ?_ i7.nil
    (refine aA 4 Z Z Z ?_ Z ?_;omega)
    refine Ec ?_
    refine ⟨rfl,?_⟩
    refine au (rem' := [17]) (i:=16) X Z Z ?_ i7.nil
    refine DY (an Z Z Y) (Ec ?_)
    refine ⟨rfl,?_⟩
    refine au (rem' := []) (i:=17) X Z Z ?_ i7.nil
    (refine aA 4 Z Z Z ?_ Z ?_;omega)
    refine Ec ?_
    refine ⟨rfl,?_⟩
    refine a8 DW (SubM.refl _) i7.nil
    refine DY (an Z Z Y) (Ec ?_)
    refine ⟨rfl,?_⟩
    refine bX (rem' := [15,16,17]) (rem'' := [3,16,17]) (i:=3) (j:=15) X Z Z Z Z ?_ ?_ i7.nil
    refine DZ Z (Ec ?_)
    refine ⟨rfl,?_⟩
    refine au (rem' := [16,17]) (i:=15) X Z Z ?_ i7.nil
    (refine aA 4 Z Z Z ?_ Z ?_;omega)
    refine Ec ?_
    refine ⟨rfl,?_⟩
    refine au (rem' := [17]) (i:=16) X Z Z ?_ i7.nil
    refine DY (an Z Z Y) (Ec ?_)
    refine ⟨rfl,?_⟩
    refine au (rem' := []) (i:=17) X Z Z ?_ i7.nil
    (refine aA 4 Z Z Z ?_ Z ?_;omega)
    refine Ec ?_
    refine ⟨rfl,?_⟩
    refine a8 DW (SubM.refl _) i7.nil
    (refine aA 4 Z Z Z ?_ Z ?_;omega)
    refine Ec ?_
    refine ⟨rfl,?_⟩
    refine au (rem' := [16,17]) (i:=3) X Z Z ?_ i7.nil
    refine DZ Z (Ec ?_)
    refine ⟨rfl,?_⟩
    refine au (rem' := [17]) (i:=16) X Z Z ?_ i7.nil
    refine DY (an Z Z Y) (Ec ?_)
    refine ⟨rfl,?_⟩
    refine au (rem' := []) (i:=17) X Z Z ?_ i7.nil
    (refine aA 4 Z Z Z ?_ Z ?_;omega)
    refine Ec ?_
    refine ⟨rfl,?_⟩
    refine a8 DW (SubM.refl _) i7.nil
    refine DY (an Z Z Y) (Ec ?_)
    refine ⟨rfl,?_⟩
    refine gk (r1 := [4,15,16,17]) (r2 := [3,15,16,17]) (r3 := [3,4,16,17]) (i:=3) (j:=4) (k:=15) X Z Z Z Z Z Z ?_ ?_ ?_ i7.nil
    refine DZ Z (Ec ?_)
    refine ⟨rfl,?_⟩
    refine bX (rem' := [15,16,17]) (rem'' := [4,16,17]) (i:=4) (j:=15) X Z Z Z Z ?_ ?_ i7.nil
    refine DZ Z (Ec ?_)
    refine ⟨rfl,?_⟩
    refine au (rem' := [16,17]) (i:=15) X Z Z ?_ i7.nil
    (refine aA 4 Z Z Z ?_ Z ?_;omega)
    refine Ec ?_
    refine ⟨rfl,?_⟩
    refine au (rem' := [17]) (i:=16) X Z Z ?_ i7.nil
    refine DY (an Z Z Y) (Ec ?_)
    refine ⟨rfl,?_⟩
    refine au (rem' := []) (i:=17) X Z Z ?_ i7.nil
    (refine aA 4 Z Z Z ?_ Z ?_;omega)
    refine Ec ?_
    refine ⟨rfl,?_⟩
    refine a8 DW (SubM.refl _) i7.nil
    (refine aA 4 Z Z Z ?_ Z ?_;omega)
    refine Ec ?_
    refine ⟨rfl,?_⟩
    refine au (rem' := [16,17]) (i:=4) X Z Z ?_ i7.nil
    refine DZ Z (Ec ?_)
    refine ⟨rfl,?_⟩
    refine au (rem' := [17]) (i:=16) X Z Z ?_ i7.nil
    refine DY (an Z Z Y) (Ec ?_)
    refine ⟨rfl,?_⟩
    refine au (rem' := []) (i:=17) X Z Z ?_ i7.nil
    (refine aA 4 Z Z Z ?_ Z ?_;omega)
    refine Ec ?_
    refine ⟨rfl,?_⟩
    refine a8 DW (SubM.refl _) i7.nil
    refine DZ Z (Ec ?_)
    refine ⟨rfl,?_⟩
    refine bX (rem' := [15,16,17]) (rem'' := [3,16,17]) (i:=3) (j:=15) X Z Z Z Z ?_ ?_ i7.nil
    refine DZ Z (Ec ?_)
    refine ⟨rfl,?_⟩
    refine au (rem' := [16,17]) (i:=15) X Z Z ?_ i7.nil
    (refine aA 4 Z Z Z ?_ Z ?_;omega)
    refine Ec ?_
    refine ⟨rfl,?_⟩
    refine au (rem' := [17]) (i:=16) X Z Z ?_ i7.nil
    refine DY (an Z Z Y) (Ec ?_)
    refine ⟨rfl,?_⟩
    refine au (rem' := []) (i:=17) X Z Z ?_ i7.nil
    (refine aA 4 Z Z Z ?_ Z ?_;omega)
    refine Ec ?_
    refine ⟨rfl,?_⟩
    refine a8 DW (SubM.refl _) i7.nil
    (refine aA 4 Z Z Z ?_ Z ?_;omega)
    refine Ec ?_
    refine ⟨rfl,?_⟩
    refine au (rem' := [16,17]) (i:=3) X Z Z ?_ i7.nil
    refine DZ Z (Ec ?_)
    refine ⟨rfl,?_⟩
    refine au (rem' := [17]) (i:=16) X Z Z ?_ i7.nil
    refine DY (an Z Z Y) (Ec ?_)
    refine ⟨rfl,?_⟩
    refine au (rem' := []) (i:=17) X Z Z ?_ i7.nil
    (refine aA 4 Z Z Z ?_ Z ?_;omega)
    refine Ec ?_
    refine ⟨rfl,?_⟩
    refine a8 DW (SubM.refl _) i7.nil
    (refine aA 4 Z Z Z ?_ Z ?_;omega)
    refine Ec ?_
    refine ⟨rfl,?_⟩
    refine bX (rem' := [4,16,17]) (rem'' := [3,16,17]) (i:=3) (j:=4) X Z Z Z Z ?_ ?_ i7.nil
    refine DZ Z (Ec ?_)
    refine ⟨rfl,?_⟩
    refine au (rem' := [16,17]) (i:=4) X Z Z ?_ i7.nil
    refine DZ Z (Ec ?_)
    refine ⟨rfl,?_⟩
    refine au (rem' := [17]) (i:=16) X Z Z ?_ i7.nil
    refine DY (an Z Z Y) (Ec ?_)
    refine ⟨rfl,?_⟩
    refine au (rem' := []) (i:=17) X Z Z ?_ i7.nil
    (refine aA 4 Z Z Z ?_ Z ?_;omega)
    refine Ec ?_
    refine ⟨rfl,?_⟩
    refine a8 DW (SubM.refl _) i7.nil
    refine DZ Z (Ec ?_)
    refine ⟨rfl,?_⟩
    refine au (rem' := [16,17]) (i:=3) X Z Z ?_ i7.nil
    refine DZ Z (Ec ?_)
    refine ⟨rfl,?_⟩
    refine au (rem' := [17]) (i:=16) X Z Z ?_ i7.nil
    refine DY (an Z Z Y) (Ec ?_)
    refine ⟨rfl,?_⟩
    refine au (rem' := []) (i:=17) X Z Z ?_ i7.nil
    (refine aA 4 Z Z Z ?_ Z ?_;omega)
    refine Ec ?_
    refine ⟨rfl,?_⟩
    refine a8 DW (SubM.refl _) i7.nil
   ·refine bX (rem' := [14,15,16,17]) (rem'' := [3,15,16,17]) (i:=3) (j:=14) X Z Z Z Z ?_ ?_ i7.nil
    refine DZ Z (Ec ?_)
    refine ⟨rfl,?_⟩
    refine au (rem' := [15,16,17]) (i:=14) X Z Z ?_ i7.nil
    refine DY (an Z Z Y) (Ec ?_)
    refine ⟨rfl,?_⟩
    refine au (rem' := [16,17]) (i:=15) X Z Z ?_ i7.nil
    (refine aA 4 Z Z Z ?_ Z ?_;omega)
    refine Ec ?_
    refine ⟨rfl,?_⟩
    refine au (rem' := [17]) (i:=16) X Z Z ?_ i7.nil
    refine DY (an Z Z Y) (Ec ?_)
    refine ⟨rfl,?_⟩
    refine au (rem' := []) (i:=17) X Z Z ?_ i7.nil
    (refine aA 4 Z Z Z ?_ Z ?_;omega)
    refine Ec ?_
    refine ⟨rfl,?_⟩
    refine a8 DW (SubM.refl _) i7.nil
    refine DY (an Z Z Y) (Ec ?_)
    refine ⟨rfl,?_⟩
    refine bX (rem' := [15,16,17]) (rem'' := [3,16,17]) (i:=3) (j:=15) X Z Z Z Z ?_ ?_ i7.nil
    refine DZ Z (Ec ?_)
    refine ⟨rfl,?_⟩
    refine au (rem' := [16,17]) (i:=15) X Z Z ?_ i7.nil
    (refine aA 4 Z Z Z ?_ Z ?_;omega)
    refine Ec ?_
    refine ⟨rfl,?_⟩
    refine au (rem' := [17]) (i:=16) X Z Z ?_ i7.nil
    refine DY (an Z Z Y) (Ec ?_)
    refine ⟨rfl,?_⟩
    refine au (rem' := []) (i:=17) X Z Z ?_ i7.nil
    (refine aA 4 Z Z Z ?_ Z ?_;omega)
    refine Ec ?_
    refine ⟨rfl,?_⟩
    refine a8 DW (SubM.refl _) i7.nil
    (refine aA 4 Z Z Z ?_ Z ?_;omega)
    refine Ec ?_
    refine ⟨rfl,?_⟩
    refine au (rem' := [16,17]) (i:=3) X Z Z ?_ i7.nil
    refine DZ Z (Ec ?_)
    refine ⟨rfl,?_⟩
    refine au (rem' := [17]) (i:=16) X Z Z ?_ i7.nil
    refine DY (an Z Z Y) (Ec ?_)
    refine ⟨rfl,?_⟩
    refine au (rem' := []) (i:=17) X Z Z ?_ i7.nil
    (refine aA 4 Z Z Z ?_ Z ?_;omega)
    refine Ec ?_
    refine ⟨rfl,?_⟩
    refine a8 DW (SubM.refl _) i7.nil
   ·refine bX (rem' := [14,15,16,17]) (rem'' := [4,15,16,17]) (i:=4) (j:=14) X Z Z Z Z ?_ ?_ i7.nil
    refine DZ Z (Ec ?_)
    refine ⟨rfl,?_⟩
    refine au (rem' := [15,16,17]) (i:=14) X Z Z ?_ i7.nil
    refine DY (an Z Z Y) (Ec ?_)
    refine ⟨rfl,?_⟩
    refine au (rem' := [16,17]) (i:=15) X Z Z ?_ i7.nil
    (refine aA 4 Z Z Z ?_ Z ?_;omega)
    refine Ec ?_
    refine ⟨rfl,?_⟩
    refine au (rem' := [17]) (i:=16) X Z Z ?_ i7.nil
    refine DY (an Z Z Y) (Ec ?_)
    refine ⟨rfl,?_⟩
    refine au (rem' := []) (i:=17) X Z Z ?_ i7.nil
    (refine aA 4 Z Z Z ?_ Z ?_;omega)
    refine Ec ?_
    refine ⟨rfl,?_⟩
    refine a8 DW (SubM.refl _) i7.nil
    refine DY (an Z Z Y) (Ec ?_)
    refine ⟨rfl,?_⟩
    refine bX (rem' := [15,16,17]) (rem'' := [4,16,17]) (i:=4) (j:=15) X Z Z Z Z ?_ ?_ i7.nil
    refine DZ Z (Ec ?_)
    refine ⟨rfl,?_⟩
    refine au (rem' := [16,17]) (i:=15) X Z Z ?_ i7.nil
    (refine aA 4 Z Z Z ?_ Z ?_;omega)
    refine Ec ?_
    refine ⟨rfl,?_⟩
    refine au (rem' := [17]) (i:=16) X Z Z ?_ i7.nil
    refine DY (an Z Z Y) (Ec ?_)
    refine ⟨rfl,?_⟩
    refine au (rem' := []) (i:=17) X Z Z ?_ i7.nil
    (refine aA 4 Z Z Z ?_ Z ?_;omega)
    refine Ec ?_
    refine ⟨rfl,?_⟩
    refine a8 DW (SubM.refl _) i7.nil
    (refine aA 4 Z Z Z ?_ Z ?_;omega)
    refine Ec ?_
    refine ⟨rfl,?_⟩
    refine au (rem' := [16,17]) (i:=4) X Z Z ?_ i7.nil
    refine DZ Z (Ec ?_)
    refine ⟨rfl,?_⟩
    refine au (rem' := [17]) (i:=16) X Z Z ?_ i7.nil
    refine DY (an Z Z Y) (Ec ?_)
    refine ⟨rfl,?_⟩
    refine au (rem' := []) (i:=17) X Z Z ?_ i7.nil
    (refine aA 4 Z Z Z ?_ Z ?_;omega)
    refine Ec ?_
    refine ⟨rfl,?_⟩
    refine a8 DW (SubM.refl _) i7.nil
   ·refine au (rem' := [15,16,17]) (i:=14) X Z Z ?_ i7.nil
    refine DY (an Z Z Y) (Ec ?_)
    refine ⟨rfl,?_⟩
    refine au (rem' := [16,17]) (i:=15) X Z Z ?_ i7.nil
    (refine aA 4 Z Z Z ?_ Z ?_;omega)
    refine Ec ?_
    refine ⟨rfl,?_⟩
    refine au (rem' := [17]) (i:=16) X Z Z ?_ i7.nil
    refine DY (an Z Z Y) (Ec ?_)
    refine ⟨rfl,?_⟩
    refine au (rem' := []) (i:=17) X Z Z ?_ i7.nil
    (refine aA 4 Z Z Z ?_ Z ?_;omega)
    refine Ec ?_
    refine ⟨rfl,?_⟩
    refine a8 DW (SubM.refl _) i7.nil
  ·refine gq (ConvM.cons (ConvM.cons (ConvM.cons (ConvM.cons ((ConvM.le (pE (p:=p))).trans (.trans (ConvM.cons (pn (i:=p) (k:=p+1) Y hk)) (ConvM.cons (ConvM.le pF)))))))) (aB (aa (aj (DY (bn _ 1 Z Z Y) (DZ Z (Ec ?_))))))
   refine aN (1) Y Y DU (.keep DX (.keep DX (.keep DX (.keep DX (.keep DX (.keep DX (.keep DX (.keep DX (.keep DX (.keep DX (.nil)))))))))))
 by_cases h1:i=1
 ·subst h1
  simp only [swI,Nat.lt_irrefl,if_false,if_true,Nat.not_lt_zero,Nat.zero_lt_one,Nat.reduceLT]
  refine ae (aj (DY (sT Y (a7 Z Z)) (Ec (aa (ae (aG Z (av (aa (ae ?_)))))))))
  refine ar (ae (aj (DY (oE Z Z Y Z) (Ea Z (Ec (aa ?_))))))
  apply nm (Γ1 := [(0,_),(1,_),(5,_),(17,_),(18,_)]) (M1 := [_,_,_,_,_,_,_,_,_,_]) 14 7 [3,4] [] aS X S
  ·refine DZ Z (DZ Z (DY (cA _ 1 Z Z Y Y) (DZ Z (DZ Z (DZ Z (DZ Z (DY (an Z Z Y) (DY (bk 6 Z Z Y) (DZ Z ?_)))))))))
   refine DZ Z (DY (cA _ 1 Z Z Y Y) (DY (an Z Z Y) (DY (bk 6 Z Z Y) (Ec ?_))))
   refine ul (Γa := [(0,_),(1,_),(5,_),(17,_),(18,_),(21,_),(23,_),(29,_),(34,_)]) (Γb := [(0,_),(1,_),(5,_),(17,_),(18,_),(21,_),(23,_),(29,_),(34,_),(25,_)]) (Γc := [(0,_),(1,_),(5,_),(17,_),(18,_),(21,_),(23,_),(29,_),(34,_),(24,_)]) (Γd := [(0,_),(1,_),(5,_),(17,_),(18,_),(21,_),(23,_),(29,_),(34,_),(24,_),(25,_)]) (rem := [14,15,16,17]) Z DW Z DW Z DW Z DW Z ?_ ?_ ?_ ?_
   ·refine gk (r1 := [4,14,15,16,17]) (r2 := [3,14,15,16,17]) (r3 := [3,4,15,16,17]) (i:=3) (j:=4) (k:=14) X Z Z Z Z Z Z ?_ ?_ ?_ i7.nil
    refine DZ Z (Ec ?_)
    refine ⟨rfl,?_⟩
    refine bX (rem' := [14,15,16,17]) (rem'' := [4,15,16,17]) (i:=4) (j:=14) X Z Z Z Z ?_ ?_ i7.nil
    refine DZ Z (Ec ?_)
    refine ⟨rfl,?_⟩
    refine au (rem' := [15,16,17]) (i:=14) X Z Z ?_ i7.nil
    refine DY (an Z Z Y) (Ec ?_)
    refine ⟨rfl,?_⟩
    refine au (rem' := [16,17]) (i:=15) X Z Z ?_ i7.nil
    (refine aA 6 Z Z Z ?_ Z ?_;omega)
    refine Ec ?_
    refine ⟨rfl,?_⟩
    refine au (rem' := [17]) (i:=16) X Z Z ?_ i7.nil
    refine DY (an Z Z Y) (Ec ?_)
    refine ⟨rfl,?_⟩
    refine au (rem' := []) (i:=17) X Z Z ?_ i7.nil
    (refine aA 6 Z Z Z ?_ Z ?_;omega)
    refine Ec ?_
    refine ⟨rfl,?_⟩
    refine a8 DW (SubM.refl _) i7.nil
    refine DY (an Z Z Y) (Ec ?_)
    refine ⟨rfl,?_⟩
    refine bX (rem' := [15,16,17]) (rem'' := [4,16,17]) (i:=4) (j:=15) X Z Z Z Z ?_ ?_ i7.nil
    refine DZ Z (Ec ?_)
    refine ⟨rfl,?_⟩
    refine au (rem' := [16,17]) (i:=15) X Z Z ?_ i7.nil
    (refine aA 6 Z Z Z ?_ Z ?_;omega)
    refine Ec ?_
    refine ⟨rfl,?_⟩
    refine au (rem' := [17]) (i:=16) X Z Z ?_ i7.nil
    refine DY (an Z Z Y) (Ec ?_)
    refine ⟨rfl,?_⟩
    refine au (rem' := []) (i:=17) X Z Z ?_ i7.nil
    (refine aA 6 Z Z Z ?_ Z ?_;omega)
    refine Ec ?_
    refine ⟨rfl,?_⟩
    refine a8 DW (SubM.refl _) i7.nil
    (refine aA 6 Z Z Z ?_ Z ?_;omega)
    refine Ec ?_
    refine ⟨rfl,?_⟩
    refine au (rem' := [16,17]) (i:=4) X Z Z ?_ i7.nil
    refine DZ Z (Ec ?_)
    refine ⟨rfl,?_⟩
    refine au (rem' := [17]) (i:=16) X Z Z ?_ i7.nil
    refine DY (an Z Z Y) (Ec ?_)
    refine ⟨rfl,?_⟩
    refine au (rem' := []) (i:=17) X Z Z ?_ i7.nil
    (refine aA 6 Z Z Z ?_ Z ?_;omega)
    refine Ec ?_
    refine ⟨rfl,?_⟩
    refine a8 DW (SubM.refl _) i7.nil
    refine DZ Z (Ec ?_)
    refine ⟨rfl,?_⟩
    refine bX (rem' := [14,15,16,17]) (rem'' := [3,15,16,17]) (i:=3) (j:=14) X Z Z Z Z ?_ ?_ i7.nil
    refine DZ Z (Ec ?_)
    refine ⟨rfl,?_⟩
    refine au (rem' := [15,16,17]) (i:=14) X Z Z ?_ i7.nil
    refine DY (an Z Z Y) (Ec ?_)
    refine ⟨rfl,?_⟩
    refine au (rem' := [16,17]) (i:=15) X Z Z ?_ i7.nil
    (refine aA 6 Z Z Z ?_ Z ?_;omega)
    refine Ec ?_
    refine ⟨rfl,?_⟩
    refine au (rem' := [17]) (i:=16) X Z Z ?_ i7.nil
    refine DY (an Z Z Y) (Ec ?_)
    refine ⟨rfl,?_⟩
    refine au (rem' := []) (i:=17) X Z Z ?_ i7.nil
    (refine aA 6 Z Z Z ?_ Z ?_;omega)
    refine Ec ?_
    refine ⟨rfl,?_⟩
    refine a8 DW (SubM.refl _) i7.nil
    refine DY (an Z Z Y) (Ec ?_)
    refine ⟨rfl,?_⟩
    refine bX (rem' := [15,16,17]) (rem'' := [3,16,17]) (i:=3) (j:=15) X Z Z Z Z ?_ ?_ i7.nil
    refine DZ Z (Ec ?_)
    refine ⟨rfl,?_⟩
    refine au (rem' := [16,17]) (i:=15) X Z Z ?_ i7.nil
    (refine aA 6 Z Z Z ?_ Z ?_;omega)
    refine Ec ?_
    refine ⟨rfl,?_⟩
    refine au (rem' := [17]) (i:=16) X Z Z ?_ i7.nil
    refine DY (an Z Z Y) (Ec ?_)
    refine ⟨rfl,?_⟩
    refine au (rem' := []) (i:=17) X Z Z ?_ i7.nil
    (refine aA 6 Z Z Z ?_ Z ?_;omega)
    refine Ec ?_
    refine ⟨rfl,?_⟩
    refine a8 DW (SubM.refl _) i7.nil
    (refine aA 6 Z Z Z ?_ Z ?_;omega)
    refine Ec ?_
    refine ⟨rfl,?_⟩
    refine au (rem' := [16,17]) (i:=3) X Z Z ?_ i7.nil
    refine DZ Z (Ec ?_)
    refine ⟨rfl,?_⟩
    refine au (rem' := [17]) (i:=16) X Z Z ?_ i7.nil
    refine DY (an Z Z Y) (Ec ?_)
    refine ⟨rfl,?_⟩
    refine au (rem' := []) (i:=17) X Z Z ?_ i7.nil
    (refine aA 6 Z Z Z ?_ Z ?_;omega)
    refine Ec ?_
    refine ⟨rfl,?_⟩
    refine a8 DW (SubM.refl _) i7.nil
    refine DY (an Z Z Y) (Ec ?_)
    refine ⟨rfl,?_⟩
    refine gk (r1 := [4,15,16,17]) (r2 := [3,15,16,17]) (r3 := [3,4,16,17]) (i:=3) (j:=4) (k:=15) X Z Z Z Z Z Z ?_ ?_ ?_ i7.nil
    refine DZ Z (Ec ?_)
    refine ⟨rfl,?_⟩
    refine bX (rem' := [15,16,17]) (rem'' := [4,16,17]) (i:=4) (j:=15) X Z Z Z Z ?_ ?_ i7.nil
    refine DZ Z (Ec ?_)
    refine ⟨rfl,?_⟩
    refine au (rem' := [16,17]) (i:=15) X Z Z ?_ i7.nil
    (refine aA 6 Z Z Z ?_ Z ?_;omega)
    refine Ec ?_
    refine ⟨rfl,?_⟩
    refine au (rem' := [17]) (i:=16) X Z Z ?_ i7.nil
    refine DY (an Z Z Y) (Ec ?_)
    refine ⟨rfl,?_⟩
    refine au (rem' := []) (i:=17) X Z Z ?_ i7.nil
    (refine aA 6 Z Z Z ?_ Z ?_;omega)
    refine Ec ?_
    refine ⟨rfl,?_⟩
    refine a8 DW (SubM.refl _) i7.nil
    (refine aA 6 Z Z Z ?_ Z ?_;omega)
    refine Ec ?_
    refine ⟨rfl,?_⟩
    refine au (rem' := [16,17]) (i:=4) X Z Z ?_ i7.nil
    refine DZ Z (Ec ?_)
    refine ⟨rfl,?_⟩
    refine au (rem' := [17]) (i:=16) X Z Z ?_ i7.nil
    refine DY (an Z Z Y) (Ec ?_)
    refine ⟨rfl,?_⟩
    refine au (rem' := []) (i:=17) X Z Z ?_ i7.nil
    (refine aA 6 Z Z Z ?_ Z ?_;omega)
    refine Ec ?_
    refine ⟨rfl,?_⟩
    refine a8 DW (SubM.refl _) i7.nil
    refine DZ Z (Ec ?_)
    refine ⟨rfl,?_⟩
    refine bX (rem' := [15,16,17]) (rem'' := [3,16,17]) (i:=3) (j:=15) X Z Z Z Z ?_ ?_ i7.nil
    refine DZ Z (Ec ?_)
    refine ⟨rfl,?_⟩
    refine au (rem' := [16,17]) (i:=15) X Z Z ?_ i7.nil
    (refine aA 6 Z Z Z ?_ Z ?_;omega)
    refine Ec ?_
    refine ⟨rfl,?_⟩
    refine au (rem' := [17]) (i:=16) X Z Z ?_ i7.nil
    refine DY (an Z Z Y) (Ec ?_)
    refine ⟨rfl,?_⟩
    refine au (rem' := []) (i:=17) X Z Z ?_ i7.nil
    (refine aA 6 Z Z Z ?_ Z ?_;omega)
    refine Ec ?_
    refine ⟨rfl,?_⟩
    refine a8 DW (SubM.refl _) i7.nil
    (refine aA 6 Z Z Z ?_ Z ?_;omega)
    refine Ec ?_
    refine ⟨rfl,?_⟩
    refine au (rem' := [16,17]) (i:=3) X Z Z ?_ i7.nil
    refine DZ Z (Ec ?_)
    refine ⟨rfl,?_⟩
    refine au (rem' := [17]) (i:=16) X Z Z ?_ i7.nil
    refine DY (an Z Z Y) (Ec ?_)
    refine ⟨rfl,?_⟩
    refine au (rem' := []) (i:=17) X Z Z ?_ i7.nil
    (refine aA 6 Z Z Z ?_ Z ?_;omega)
    refine Ec ?_
    refine ⟨rfl,?_⟩
    refine a8 DW (SubM.refl _) i7.nil
    (refine aA 6 Z Z Z ?_ Z ?_;omega)
    refine Ec ?_
    refine ⟨rfl,?_⟩
    refine bX (rem' := [4,16,17]) (rem'' := [3,16,17]) (i:=3) (j:=4) X Z Z Z Z ?_ ?_ i7.nil
    refine DZ Z (Ec ?_)
    refine ⟨rfl,?_⟩
    refine au (rem' := [16,17]) (i:=4) X Z Z ?_ i7.nil
    refine DZ Z (Ec ?_)
    refine ⟨rfl,?_⟩
    refine au (rem' := [17]) (i:=16) X Z Z ?_ i7.nil
    refine DY (an Z Z Y) (Ec ?_)
    refine ⟨rfl,?_⟩
    refine au (rem' := []) (i:=17) X Z Z ?_ i7.nil
    (refine aA 6 Z Z Z ?_ Z ?_;omega)
    refine Ec ?_
    refine ⟨rfl,?_⟩
    refine a8 DW (SubM.refl _) i7.nil
    refine DZ Z (Ec ?_)
    refine ⟨rfl,?_⟩
    refine au (rem' := [16,17]) (i:=3) X Z Z ?_ i7.nil
    refine DZ Z (Ec ?_)
    refine ⟨rfl,?_⟩
    refine au (rem' := [17]) (i:=16) X Z Z ?_ i7.nil
    refine DY (an Z Z Y) (Ec ?_)
    refine ⟨rfl,?_⟩
    refine au (rem' := []) (i:=17) X Z Z ?_ i7.nil
    (refine aA 6 Z Z Z ?_ Z ?_;omega)
    refine Ec ?_
    refine ⟨rfl,?_⟩
    refine a8 DW (SubM.refl _) i7.nil
   ·refine bX (rem' := [14,15,16,17]) (rem'' := [3,15,16,17]) (i:=3) (j:=14) X Z Z Z Z ?_ ?_ i7.nil
    refine DZ Z (Ec ?_)
    refine ⟨rfl,?_⟩
    refine au (rem' := [15,16,17]) (i:=14) X Z Z ?_ i7.nil
    refine DY (an Z Z Y) (Ec ?_)
    refine ⟨rfl,?_⟩
    refine au (rem' := [16,17]) (i:=15) X Z Z ?_ i7.nil
    (refine aA 6 Z Z Z ?_ Z ?_;omega)
    refine Ec ?_
    refine ⟨rfl,?_⟩
    refine au (rem' := [17]) (i:=16) X Z Z ?_ i7.nil
    refine DY (an Z Z Y) (Ec ?_)
    refine ⟨rfl,?_⟩
    refine au (rem' := []) (i:=17) X Z Z ?_ i7.nil
    (refine aA 6 Z Z Z ?_ Z ?_;omega)
    refine Ec ?_
    refine ⟨rfl,?_⟩
    refine a8 DW (SubM.refl _) i7.nil
    refine DY (an Z Z Y) (Ec ?_)
    refine ⟨rfl,?_⟩
    refine bX (rem' := [15,16,17]) (rem'' := [3,16,17]) (i:=3) (j:=15) X Z Z Z Z ?_ ?_ i7.nil
    refine DZ Z (Ec ?_)
    refine ⟨rfl,?_⟩
    refine au (rem' := [16,17]) (i:=15) X Z Z ?_ i7.nil
    (refine aA 6 Z Z Z ?_ Z ?_;omega)
    refine Ec ?_
    refine ⟨rfl,?_⟩
    refine au (rem' := [17]) (i:=16) X Z Z ?_ i7.nil
    refine DY (an Z Z Y) (Ec ?_)
    refine ⟨rfl,?_⟩
    refine au (rem' := []) (i:=17) X Z Z ?_ i7.nil
    (refine aA 6 Z Z Z ?_ Z ?_;omega)
    refine Ec ?_
    refine ⟨rfl,?_⟩
    refine a8 DW (SubM.refl _) i7.nil
    (refine aA 6 Z Z Z ?_ Z ?_;omega)
    refine Ec ?_
    refine ⟨rfl,?_⟩
    refine au (rem' := [16,17]) (i:=3) X Z Z ?_ i7.nil
    refine DZ Z (Ec ?_)
    refine ⟨rfl,?_⟩
    refine au (rem' := [17]) (i:=16) X Z Z ?_ i7.nil
    refine DY (an Z Z Y) (Ec ?_)
    refine ⟨rfl,?_⟩
    refine au (rem' := []) (i:=17) X Z Z ?_ i7.nil
    (refine aA 6 Z Z Z ?_ Z ?_;omega)
    refine Ec ?_
    refine ⟨rfl,?_⟩
    refine a8 DW (SubM.refl _) i7.nil
   ·refine bX (rem' := [14,15,16,17]) (rem'' := [4,15,16,17]) (i:=4) (j:=14) X Z Z Z Z ?_ ?_ i7.nil
    refine DZ Z (Ec ?_)
    refine ⟨rfl,?_⟩
    refine au (rem' := [15,16,17]) (i:=14) X Z Z ?_ i7.nil
    refine DY (an Z Z Y) (Ec ?_)
    refine ⟨rfl,?_⟩
    refine au (rem' := [16,17]) (i:=15) X Z Z ?_ i7.nil
    (refine aA 6 Z Z Z ?_ Z ?_;omega)
    refine Ec ?_
    refine ⟨rfl,?_⟩
    refine au (rem' := [17]) (i:=16) X Z Z ?_ i7.nil
    refine DY (an Z Z Y) (Ec ?_)
    refine ⟨rfl,?_⟩
    refine au (rem' := []) (i:=17) X Z Z ?_ i7.nil
    (refine aA 6 Z Z Z ?_ Z ?_;omega)
    refine Ec ?_
    refine ⟨rfl,?_⟩
    refine a8 DW (SubM.refl _) i7.nil
    refine DY (an Z Z Y) (Ec ?_)
    refine ⟨rfl,?_⟩
    refine bX (rem' := [15,16,17]) (rem'' := [4,16,17]) (i:=4) (j:=15) X Z Z Z Z ?_ ?_ i7.nil
    refine DZ Z (Ec ?_)
    refine ⟨rfl,?_⟩
    refine au (rem' := [16,17]) (i:=15) X Z Z ?_ i7.nil
    (refine aA 6 Z Z Z ?_ Z ?_;omega)
    refine Ec ?_
    refine ⟨rfl,?_⟩
    refine au (rem' := [17]) (i:=16) X Z Z ?_ i7.nil
    refine DY (an Z Z Y) (Ec ?_)
    refine ⟨rfl,?_⟩
    refine au (rem' := []) (i:=17) X Z Z ?_ i7.nil
    (refine aA 6 Z Z Z ?_ Z ?_;omega)
    refine Ec ?_
    refine ⟨rfl,?_⟩
    refine a8 DW (SubM.refl _) i7.nil
    (refine aA 6 Z Z Z ?_ Z ?_;omega)
    refine Ec ?_
    refine ⟨rfl,?_⟩
    refine au (rem' := [16,17]) (i:=4) X Z Z ?_ i7.nil
    refine DZ Z (Ec ?_)
    refine ⟨rfl,?_⟩
    refine au (rem' := [17]) (i:=16) X Z Z ?_ i7.nil
    refine DY (an Z Z Y) (Ec ?_)
    refine ⟨rfl,?_⟩
    refine au (rem' := []) (i:=17) X Z Z ?_ i7.nil
    (refine aA 6 Z Z Z ?_ Z ?_;omega)
    refine Ec ?_
    refine ⟨rfl,?_⟩
    refine a8 DW (SubM.refl _) i7.nil
   ·refine au (rem' := [15,16,17]) (i:=14) X Z Z ?_ i7.nil
    refine DY (an Z Z Y) (Ec ?_)
    refine ⟨rfl,?_⟩
    refine au (rem' := [16,17]) (i:=15) X Z Z ?_ i7.nil
    (refine aA 6 Z Z Z ?_ Z ?_;omega)
    refine Ec ?_
    refine ⟨rfl,?_⟩
    refine au (rem' := [17]) (i:=16) X Z Z ?_ i7.nil
    refine DY (an Z Z Y) (Ec ?_)
    refine ⟨rfl,?_⟩
    refine au (rem' := []) (i:=17) X Z Z ?_ i7.nil
    (refine aA 6 Z Z Z ?_ Z ?_;omega)
    refine Ec ?_
    refine ⟨rfl,?_⟩
    refine a8 DW (SubM.refl _) i7.nil
  ·refine gq (ConvM.cons (ConvM.cons (ConvM.cons (ConvM.cons (ConvM.cons (ConvM.cons ((ConvM.le (pE (p:=p))).trans (.trans (ConvM.cons (pn (i:=p) (k:=p+1) Y hk)) (ConvM.cons (ConvM.le pF)))))))))) (aB (aa (aj (DY (bn _ 1 Z Z Y) (DZ Z (Ec ?_))))))
   refine aN (2) Y Y DU (.keep DX (.keep DX (.keep DX (.keep DX (.keep DX (.keep DX (.keep DX (.keep DX (.keep DX (.keep DX (.nil)))))))))))
 by_cases h2:i=2
 ·subst h2
  simp only [swI,Nat.lt_irrefl,if_false,if_true,Nat.not_lt_zero,Nat.zero_lt_one,Nat.reduceLT]
  refine ae (aj (DY (sT Y (a7 Z Z)) (Ec (aa (ae (aG Z (av (aa (ae ?_)))))))))
  refine ar (ae (aj (DY (oE Z Z Y Z) (Ea Z (Ec (aa ?_))))))
  apply nm (Γ1 := [(0,_),(1,_),(5,_),(17,_),(18,_)]) (M1 := [_,_,_,_,_,_,_,_,_,_]) 14 7 [3,4] [] aS X S
  ·refine DZ Z (DZ Z (DY (cA _ 1 Z Z Y Y) (DZ Z (DZ Z (DZ Z (DZ Z (DY (an Z Z Y) (DY (bk 8 Z Z Y) (DZ Z ?_)))))))))
   refine DZ Z (DY (cA _ 1 Z Z Y Y) (DY (an Z Z Y) (DY (bk 8 Z Z Y) (Ec ?_))))
   refine ul (Γa := [(0,_),(1,_),(5,_),(17,_),(18,_),(21,_),(23,_),(29,_),(34,_)]) (Γb := [(0,_),(1,_),(5,_),(17,_),(18,_),(21,_),(23,_),(29,_),(34,_),(25,_)]) (Γc := [(0,_),(1,_),(5,_),(17,_),(18,_),(21,_),(23,_),(29,_),(34,_),(24,_)]) (Γd := [(0,_),(1,_),(5,_),(17,_),(18,_),(21,_),(23,_),(29,_),(34,_),(24,_),(25,_)]) (rem := [14,15,16,17]) Z DW Z DW Z DW Z DW Z ?_ ?_ ?_ ?_
   ·refine gk (r1 := [4,14,15,16,17]) (r2 := [3,14,15,16,17]) (r3 := [3,4,15,16,17]) (i:=3) (j:=4) (k:=14) X Z Z Z Z Z Z ?_ ?_ ?_ i7.nil
    refine DZ Z (Ec ?_)
    refine ⟨rfl,?_⟩
    refine bX (rem' := [14,15,16,17]) (rem'' := [4,15,16,17]) (i:=4) (j:=14) X Z Z Z Z ?_ ?_ i7.nil
    refine DZ Z (Ec ?_)
    refine ⟨rfl,?_⟩
    refine au (rem' := [15,16,17]) (i:=14) X Z Z ?_ i7.nil
    refine DY (an Z Z Y) (Ec ?_)
    refine ⟨rfl,?_⟩
    refine au (rem' := [16,17]) (i:=15) X Z Z ?_ i7.nil
    (refine aA 8 Z Z Z ?_ Z ?_;omega)
    refine Ec ?_
    refine ⟨rfl,?_⟩
    refine au (rem' := [17]) (i:=16) X Z Z ?_ i7.nil
    refine DY (an Z Z Y) (Ec ?_)
    refine ⟨rfl,?_⟩
    refine au (rem' := []) (i:=17) X Z Z ?_ i7.nil
    (refine aA 8 Z Z Z ?_ Z ?_;omega)
    refine Ec ?_
    refine ⟨rfl,?_⟩
    refine a8 DW (SubM.refl _) i7.nil
    refine DY (an Z Z Y) (Ec ?_)
    refine ⟨rfl,?_⟩
    refine bX (rem' := [15,16,17]) (rem'' := [4,16,17]) (i:=4) (j:=15) X Z Z Z Z ?_ ?_ i7.nil
    refine DZ Z (Ec ?_)
    refine ⟨rfl,?_⟩
    refine au (rem' := [16,17]) (i:=15) X Z Z ?_ i7.nil
    (refine aA 8 Z Z Z ?_ Z ?_;omega)
    refine Ec ?_
    refine ⟨rfl,?_⟩
    refine au (rem' := [17]) (i:=16) X Z Z ?_ i7.nil
    refine DY (an Z Z Y) (Ec ?_)
    refine ⟨rfl,?_⟩
    refine au (rem' := []) (i:=17) X Z Z ?_ i7.nil
    (refine aA 8 Z Z Z ?_ Z ?_;omega)
    refine Ec ?_
    refine ⟨rfl,?_⟩
    refine a8 DW (SubM.refl _) i7.nil
    (refine aA 8 Z Z Z ?_ Z ?_;omega)
    refine Ec ?_
    refine ⟨rfl,?_⟩
    refine au (rem' := [16,17]) (i:=4) X Z Z ?_ i7.nil
    refine DZ Z (Ec ?_)
    refine ⟨rfl,?_⟩
    refine au (rem' := [17]) (i:=16) X Z Z ?_ i7.nil
    refine DY (an Z Z Y) (Ec ?_)
    refine ⟨rfl,?_⟩
    refine au (rem' := []) (i:=17) X Z Z ?_ i7.nil
    (refine aA 8 Z Z Z ?_ Z ?_;omega)
    refine Ec ?_
    refine ⟨rfl,?_⟩
    refine a8 DW (SubM.refl _) i7.nil
    refine DZ Z (Ec ?_)
    refine ⟨rfl,?_⟩
    refine bX (rem' := [14,15,16,17]) (rem'' := [3,15,16,17]) (i:=3) (j:=14) X Z Z Z Z ?_ ?_ i7.nil
    refine DZ Z (Ec ?_)
    refine ⟨rfl,?_⟩
    refine au (rem' := [15,16,17]) (i:=14) X Z Z ?_ i7.nil
    refine DY (an Z Z Y) (Ec ?_)
    refine ⟨rfl,?_⟩
    refine au (rem' := [16,17]) (i:=15) X Z Z ?_ i7.nil
    (refine aA 8 Z Z Z ?_ Z ?_;omega)
    refine Ec ?_
    refine ⟨rfl,?_⟩
    refine au (rem' := [17]) (i:=16) X Z Z ?_ i7.nil
    refine DY (an Z Z Y) (Ec ?_)
    refine ⟨rfl,?_⟩
    refine au (rem' := []) (i:=17) X Z Z ?_ i7.nil
    (refine aA 8 Z Z Z ?_ Z ?_;omega)
    refine Ec ?_
    refine ⟨rfl,?_⟩
    refine a8 DW (SubM.refl _) i7.nil
    refine DY (an Z Z Y) (Ec ?_)
    refine ⟨rfl,?_⟩
    refine bX (rem' := [15,16,17]) (rem'' := [3,16,17]) (i:=3) (j:=15) X Z Z Z Z ?_ ?_ i7.nil
    refine DZ Z (Ec ?_)
    refine ⟨rfl,?_⟩
    refine au (rem' := [16,17]) (i:=15) X Z Z ?_ i7.nil
    (refine aA 8 Z Z Z ?_ Z ?_;omega)
    refine Ec ?_
    refine ⟨rfl,?_⟩
    refine au (rem' := [17]) (i:=16) X Z Z ?_ i7.nil
    refine DY (an Z Z Y) (Ec ?_)
    refine ⟨rfl,?_⟩
    refine au (rem' := []) (i:=17) X Z Z ?_ i7.nil
    (refine aA 8 Z Z Z ?_ Z ?_;omega)
    refine Ec ?_
    refine ⟨rfl,?_⟩
    refine a8 DW (SubM.refl _) i7.nil
    (refine aA 8 Z Z Z ?_ Z ?_;omega)
    refine Ec ?_
    refine ⟨rfl,?_⟩
    refine au (rem' := [16,17]) (i:=3) X Z Z ?_ i7.nil
    refine DZ Z (Ec ?_)
    refine ⟨rfl,?_⟩
    refine au (rem' := [17]) (i:=16) X Z Z ?_ i7.nil
    refine DY (an Z Z Y) (Ec ?_)
    refine ⟨rfl,?_⟩
    refine au (rem' := []) (i:=17) X Z Z ?_ i7.nil
    (refine aA 8 Z Z Z ?_ Z ?_;omega)
    refine Ec ?_
    refine ⟨rfl,?_⟩
    refine a8 DW (SubM.refl _) i7.nil
    refine DY (an Z Z Y) (Ec ?_)
    refine ⟨rfl,?_⟩
    refine gk (r1 := [4,15,16,17]) (r2 := [3,15,16,17]) (r3 := [3,4,16,17]) (i:=3) (j:=4) (k:=15) X Z Z Z Z Z Z ?_ ?_ ?_ i7.nil
    refine DZ Z (Ec ?_)
    refine ⟨rfl,?_⟩
    refine bX (rem' := [15,16,17]) (rem'' := [4,16,17]) (i:=4) (j:=15) X Z Z Z Z ?_ ?_ i7.nil
    refine DZ Z (Ec ?_)
    refine ⟨rfl,?_⟩
    refine au (rem' := [16,17]) (i:=15) X Z Z ?_ i7.nil
    (refine aA 8 Z Z Z ?_ Z ?_;omega)
    refine Ec ?_
    refine ⟨rfl,?_⟩
    refine au (rem' := [17]) (i:=16) X Z Z ?_ i7.nil
    refine DY (an Z Z Y) (Ec ?_)
    refine ⟨rfl,?_⟩
    refine au (rem' := []) (i:=17) X Z Z ?_ i7.nil
    (refine aA 8 Z Z Z ?_ Z ?_;omega)
    refine Ec ?_
    refine ⟨rfl,?_⟩
    refine a8 DW (SubM.refl _) i7.nil
    (refine aA 8 Z Z Z ?_ Z ?_;omega)
    refine Ec ?_
    refine ⟨rfl,?_⟩
    refine au (rem' := [16,17]) (i:=4) X Z Z ?_ i7.nil
    refine DZ Z (Ec ?_)
    refine ⟨rfl,?_⟩
    refine au (rem' := [17]) (i:=16) X Z Z ?_ i7.nil
    refine DY (an Z Z Y) (Ec ?_)
    refine ⟨rfl,?_⟩
    refine au (rem' := []) (i:=17) X Z Z ?_ i7.nil
    (refine aA 8 Z Z Z ?_ Z ?_;omega)
    refine Ec ?_
    refine ⟨rfl,?_⟩
    refine a8 DW (SubM.refl _) i7.nil
    refine DZ Z (Ec ?_)
    refine ⟨rfl,?_⟩
    refine bX (rem' := [15,16,17]) (rem'' := [3,16,17]) (i:=3) (j:=15) X Z Z Z Z ?_ ?_ i7.nil
    refine DZ Z (Ec ?_)
    refine ⟨rfl,?_⟩
    refine au (rem' := [16,17]) (i:=15) X Z Z ?_ i7.nil
    (refine aA 8 Z Z Z ?_ Z ?_;omega)
    refine Ec ?_
    refine ⟨rfl,?_⟩
    refine au (rem' := [17]) (i:=16) X Z Z ?_ i7.nil
    refine DY (an Z Z Y) (Ec ?_)
    refine ⟨rfl,?_⟩
    refine au (rem' := []) (i:=17) X Z Z ?_ i7.nil
    (refine aA 8 Z Z Z ?_ Z ?_;omega)
    refine Ec ?_
    refine ⟨rfl,?_⟩
    refine a8 DW (SubM.refl _) i7.nil
    (refine aA 8 Z Z Z ?_ Z ?_;omega)
    refine Ec ?_
    refine ⟨rfl,?_⟩
    refine au (rem' := [16,17]) (i:=3) X Z Z ?_ i7.nil
    refine DZ Z (Ec ?_)
    refine ⟨rfl,?_⟩
    refine au (rem' := [17]) (i:=16) X Z Z ?_ i7.nil
    refine DY (an Z Z Y) (Ec ?_)
    refine ⟨rfl,?_⟩
    refine au (rem' := []) (i:=17) X Z Z ?_ i7.nil
    (refine aA 8 Z Z Z ?_ Z ?_;omega)
    refine Ec ?_
    refine ⟨rfl,?_⟩
    refine a8 DW (SubM.refl _) i7.nil
    (refine aA 8 Z Z Z ?_ Z ?_;omega)
    refine Ec ?_
    refine ⟨rfl,?_⟩
    refine bX (rem' := [4,16,17]) (rem'' := [3,16,17]) (i:=3) (j:=4) X Z Z Z Z ?_ ?_ i7.nil
    refine DZ Z (Ec ?_)
    refine ⟨rfl,?_⟩
    refine au (rem' := [16,17]) (i:=4) X Z Z ?_ i7.nil
    refine DZ Z (Ec ?_)
    refine ⟨rfl,?_⟩
    refine au (rem' := [17]) (i:=16) X Z Z ?_ i7.nil
    refine DY (an Z Z Y) (Ec ?_)
    refine ⟨rfl,?_⟩
    refine au (rem' := []) (i:=17) X Z Z ?_ i7.nil
    (refine aA 8 Z Z Z ?_ Z ?_;omega)
    refine Ec ?_
    refine ⟨rfl,?_⟩
    refine a8 DW (SubM.refl _) i7.nil
    refine DZ Z (Ec ?_)
    refine ⟨rfl,?_⟩
    refine au (rem' := [16,17]) (i:=3) X Z Z ?_ i7.nil
    refine DZ Z (Ec ?_)
    refine ⟨rfl,?_⟩
    refine au (rem' := [17]) (i:=16) X Z Z ?_ i7.nil
    refine DY (an Z Z Y) (Ec ?_)
    refine ⟨rfl,?_⟩
    refine au (rem' := []) (i:=17) X Z Z ?_ i7.nil
    (refine aA 8 Z Z Z ?_ Z ?_;omega)
    refine Ec ?_
    refine ⟨rfl,?_⟩
    refine a8 DW (SubM.refl _) i7.nil
   ·refine bX (rem' := [14,15,16,17]) (rem'' := [3,15,16,17]) (i:=3) (j:=14) X Z Z Z Z ?_ ?_ i7.nil
    refine DZ Z (Ec ?_)
    refine ⟨rfl,?_⟩
    refine au (rem' := [15,16,17]) (i:=14) X Z Z ?_ i7.nil
    refine DY (an Z Z Y) (Ec ?_)
    refine ⟨rfl,?_⟩
    refine au (rem' := [16,17]) (i:=15) X Z Z ?_ i7.nil
    (refine aA 8 Z Z Z ?_ Z ?_;omega)
    refine Ec ?_
    refine ⟨rfl,?_⟩
    refine au (rem' := [17]) (i:=16) X Z Z ?_ i7.nil
    refine DY (an Z Z Y) (Ec ?_)
    refine ⟨rfl,?_⟩
    refine au (rem' := []) (i:=17) X Z Z ?_ i7.nil
    (refine aA 8 Z Z Z ?_ Z ?_;omega)
    refine Ec ?_
    refine ⟨rfl,?_⟩
    refine a8 DW (SubM.refl _) i7.nil
    refine DY (an Z Z Y) (Ec ?_)
    refine ⟨rfl,?_⟩
    refine bX (rem' := [15,16,17]) (rem'' := [3,16,17]) (i:=3) (j:=15) X Z Z Z Z ?_ ?_ i7.nil
    refine DZ Z (Ec ?_)
    refine ⟨rfl,?_⟩
    refine au (rem' := [16,17]) (i:=15) X Z Z ?_ i7.nil
    (refine aA 8 Z Z Z ?_ Z ?_;omega)
    refine Ec ?_
    refine ⟨rfl,?_⟩
    refine au (rem' := [17]) (i:=16) X Z Z ?_ i7.nil
    refine DY (an Z Z Y) (Ec ?_)
    refine ⟨rfl,?_⟩
    refine au (rem' := []) (i:=17) X Z Z ?_ i7.nil
    (refine aA 8 Z Z Z ?_ Z ?_;omega)
    refine Ec ?_
    refine ⟨rfl,?_⟩
    refine a8 DW (SubM.refl _) i7.nil
    (refine aA 8 Z Z Z ?_ Z ?_;omega)
    refine Ec ?_
    refine ⟨rfl,?_⟩
    refine au (rem' := [16,17]) (i:=3) X Z Z ?_ i7.nil
    refine DZ Z (Ec ?_)
    refine ⟨rfl,?_⟩
    refine au (rem' := [17]) (i:=16) X Z Z ?_ i7.nil
    refine DY (an Z Z Y) (Ec ?_)
    refine ⟨rfl,?_⟩
    refine au (rem' := []) (i:=17) X Z Z ?_ i7.nil
    (refine aA 8 Z Z Z ?_ Z ?_;omega)
    refine Ec ?_
    refine ⟨rfl,?_⟩
    refine a8 DW (SubM.refl _) i7.nil
   ·refine bX (rem' := [14,15,16,17]) (rem'' := [4,15,16,17]) (i:=4) (j:=14) X Z Z Z Z ?_ ?_ i7.nil
    refine DZ Z (Ec ?_)
    refine ⟨rfl,?_⟩
    refine au (rem' := [15,16,17]) (i:=14) X Z Z ?_ i7.nil
    refine DY (an Z Z Y) (Ec ?_)
    refine ⟨rfl,?_⟩
    refine au (rem' := [16,17]) (i:=15) X Z Z ?_ i7.nil
    (refine aA 8 Z Z Z ?_ Z ?_;omega)
    refine Ec ?_
    refine ⟨rfl,?_⟩
    refine au (rem' := [17]) (i:=16) X Z Z ?_ i7.nil
    refine DY (an Z Z Y) (Ec ?_)
    refine ⟨rfl,?_⟩
    refine au (rem' := []) (i:=17) X Z Z ?_ i7.nil
    (refine aA 8 Z Z Z ?_ Z ?_;omega)
    refine Ec ?_
    refine ⟨rfl,?_⟩
    refine a8 DW (SubM.refl _) i7.nil
    refine DY (an Z Z Y) (Ec ?_)
    refine ⟨rfl,?_⟩
    refine bX (rem' := [15,16,17]) (rem'' := [4,16,17]) (i:=4) (j:=15) X Z Z Z Z ?_ ?_ i7.nil
    refine DZ Z (Ec ?_)
    refine ⟨rfl,?_⟩
    refine au (rem' := [16,17]) (i:=15) X Z Z ?_ i7.nil
    (refine aA 8 Z Z Z ?_ Z ?_;omega)
    refine Ec ?_
    refine ⟨rfl,?_⟩
    refine au (rem' := [17]) (i:=16) X Z Z ?_ i7.nil
    refine DY (an Z Z Y) (Ec ?_)
    refine ⟨rfl,?_⟩
    refine au (rem' := []) (i:=17) X Z Z ?_ i7.nil
    (refine aA 8 Z Z Z ?_ Z ?_;omega)
    refine Ec ?_
    refine ⟨rfl,?_⟩
    refine a8 DW (SubM.refl _) i7.nil
    (refine aA 8 Z Z Z ?_ Z ?_;omega)
    refine Ec ?_
    refine ⟨rfl,?_⟩
    refine au (rem' := [16,17]) (i:=4) X Z Z ?_ i7.nil
    refine DZ Z (Ec ?_)
    refine ⟨rfl,?_⟩
    refine au (rem' := [17]) (i:=16) X Z Z ?_ i7.nil
    refine DY (an Z Z Y) (Ec ?_)
    refine ⟨rfl,?_⟩
    refine au (rem' := []) (i:=17) X Z Z ?_ i7.nil
    (refine aA 8 Z Z Z ?_ Z ?_;omega)
    refine Ec ?_
    refine ⟨rfl,?_⟩
    refine a8 DW (SubM.refl _) i7.nil
   ·refine au (rem' := [15,16,17]) (i:=14) X Z Z ?_ i7.nil
    refine DY (an Z Z Y) (Ec ?_)
    refine ⟨rfl,?_⟩
    refine au (rem' := [16,17]) (i:=15) X Z Z ?_ i7.nil
    (refine aA 8 Z Z Z ?_ Z ?_;omega)
    refine Ec ?_
    refine ⟨rfl,?_⟩
    refine au (rem' := [17]) (i:=16) X Z Z ?_ i7.nil
    refine DY (an Z Z Y) (Ec ?_)
    refine ⟨rfl,?_⟩
    refine au (rem' := []) (i:=17) X Z Z ?_ i7.nil
    (refine aA 8 Z Z Z ?_ Z ?_;omega)
    refine Ec ?_
    refine ⟨rfl,?_⟩
    refine a8 DW (SubM.refl _) i7.nil
  ·refine gq (ConvM.cons (ConvM.cons (ConvM.cons (ConvM.cons (ConvM.cons (ConvM.cons (ConvM.cons (ConvM.cons ((ConvM.le (pE (p:=p))).trans (.trans (ConvM.cons (pn (i:=p) (k:=p+1) Y hk)) (ConvM.cons (ConvM.le pF)))))))))))) (aB (aa (aj (DY (bn _ 1 Z Z Y) (DZ Z (Ec ?_))))))
   refine aN (3) Y Y DU (.keep DX (.keep DX (.keep DX (.keep DX (.keep DX (.keep DX (.keep DX (.keep DX (.keep DX (.keep DX (.nil)))))))))))
 have h3:i=3:=by omega
 subst h3
 simp only [swI,Nat.lt_irrefl,if_false,if_true,Nat.not_lt_zero,Nat.zero_lt_one,Nat.reduceLT]
 refine ae (aj (DY (sF Y (a7 Z Z)) (Ec (aa (ae (az Z (aY (aw (aw ?_)))))))))
 refine aE (aa (ae (ae (aj (DZ Z (DY (cA _ 1 Z Z Y Y) (DZ Z (Ec (aa ?_)))))))))
 refine ar (cm (Γ' := [(0,_),(1,_),(39,_),(40,_)]) DT (SubM.refl _) ?_)
 refine bw (σ:=Nat) (Γk := [(0,_),(1,_)]) DT (fun x => [(40,one (.int .i64 (x:Nat))),(39,one (.int .i64 (p:Nat)))]) (fun x M0=>(M0.set 3 (cT (fun q=>q) n Bl (fun q=>q) (lEx p x (lZ m R))))) (fun x=>x≤p) (fun x=>p - x) (0) (Nat.zero_le _) DU (.keep DX (.keep DX (.keep DX (.keep (Dm) (.keep DX (.keep DX (.keep DX (.keep DX (.keep DX (.keep DX (.nil))))))))))) (fun x hx => ?_)
 refine bN (Γ' := [(40,_),(39,_),(0,_),(1,_)]) (M' := [_,_,_,_,_,_,_,_,_,_]) Z Z ?_
 by_cases hx:x<p
 ·have hx1:x<p+1:=by omega
  refine ae (aj (DY (sT Y (a7 Z Z)) (Ec (aa (ae (aG Z (av (aa (ae ?_)))))))))
  refine ar (ae (aj (DZ Z (Ea Z (Ec (aa ?_))))))
  apply nm (Γ1 := [(0,_),(1,_),(39,_),(40,_)]) (M1 := [_,_,_,_,_,_,_,_,_,_]) 42 6 [18] [] aS X S
  ·refine DZ Z (DY (bH Z) (DY (ah Z) (DY (ah Z) (DY (bt 0 0 1 Z Z Z Z Z) (DZ Z (DY (cA _ 1 Z Z Y Y) (DY (an Z Z Y) (DY (bk 2 Z Z Y) (DZ Z ?_)))))))))
   refine DZ Z (DY (bH Z) (DY (ah Z) (DY (ah Z) (DY (bt 0 0 1 Z Z Z Z Z) (DZ Z (DY (an Z Z Y) (DY (bk 2 Z Z Y) (DZ Z (DZ Z ?_)))))))))
   refine DY (bH Z) (DY (ah Z) (DY (ah Z) (DY (bt 0 0 1 Z Z Z Z Z) (DZ Z (DY (an Z Z Y) (DY (bk 2 Z Z Y) (DZ Z (DY (an Z Z Y) (DY (d9 3 Z Z Y Z Y) ?_)))))))))
   refine DZ Z (DY (bH Z) (DY (ah Z) (DY (ah Z) (DY (bt 0 0 1 Z Z Z Z Z) (DZ Z (DY (cA _ 1 Z Z Y Y) (DY (an Z Z Y) (DY (bk 2 Z Z Y) (DZ Z ?_)))))))))
   refine DY (an Z Z (by assumption)) (DY (d9 3 Z Z Y Z Y) (Ec ?_))
   refine B3 (Γe := [(0,_),(1,_),(6,_),(39,_),(40,_),(51,_),(52,_),(72,_),(60,_),(84,_)]) (Γe' := [(0,_),(1,_),(39,_),(40,_),(51,_),(52,_),(72,_),(60,_),(84,_),(61,_)]) (rem := [42,43,44,45]) Z DW Z DW Z ?_ ?_
   ·refine bX (rem' := [42,43,44,45]) (rem'' := [18,43,44,45]) (i:=18) (j:=42) X Z Z Z Z ?_ ?_ i7.nil
    refine DZ Z (Ec ?_)
    refine ⟨rfl,?_⟩
    refine au (rem' := [43,44,45]) (i:=42) X Z Z ?_ i7.nil
    refine DY (an Z Z (by assumption)) (Ec ?_)
    refine ⟨rfl,?_⟩
    refine au (rem' := [44,45]) (i:=43) X Z Z ?_ i7.nil
    (refine dq 3 Z Z Z ?_ Z ?_ Z ?_;omega;omega)
    refine Ec ?_
    refine ⟨rfl,?_⟩
    refine au (rem' := [45]) (i:=44) X Z Z ?_ i7.nil
    refine DY (an Z Z Y) (Ec ?_)
    refine ⟨rfl,?_⟩
    refine au (rem' := []) (i:=45) X Z Z ?_ i7.nil
    (refine dq 3 Z Z Z ?_ Z ?_ Z ?_;omega;omega)
    refine Ec ?_
    refine ⟨rfl,?_⟩
    refine a8 DW (SubM.refl _) i7.nil
    refine DY (an Z Z (by assumption)) (Ec ?_)
    refine ⟨rfl,?_⟩
    refine bX (rem' := [43,44,45]) (rem'' := [18,44,45]) (i:=18) (j:=43) X Z Z Z Z ?_ ?_ i7.nil
    refine DZ Z (Ec ?_)
    refine ⟨rfl,?_⟩
    refine au (rem' := [44,45]) (i:=43) X Z Z ?_ i7.nil
    (refine dq 3 Z Z Z ?_ Z ?_ Z ?_;omega;omega)
    refine Ec ?_
    refine ⟨rfl,?_⟩
    refine au (rem' := [45]) (i:=44) X Z Z ?_ i7.nil
    refine DY (an Z Z Y) (Ec ?_)
    refine ⟨rfl,?_⟩
    refine au (rem' := []) (i:=45) X Z Z ?_ i7.nil
    (refine dq 3 Z Z Z ?_ Z ?_ Z ?_;omega;omega)
    refine Ec ?_
    refine ⟨rfl,?_⟩
    refine a8 DW (SubM.refl _) i7.nil
    (refine dq 3 Z Z Z ?_ Z ?_ Z ?_;omega;omega)
    refine Ec ?_
    refine ⟨rfl,?_⟩
    refine au (rem' := [44,45]) (i:=18) X Z Z ?_ i7.nil
    refine DZ Z (Ec ?_)
    refine ⟨rfl,?_⟩
    refine au (rem' := [45]) (i:=44) X Z Z ?_ i7.nil
    refine DY (an Z Z Y) (Ec ?_)
    refine ⟨rfl,?_⟩
    refine au (rem' := []) (i:=45) X Z Z ?_ i7.nil
    (refine dq 3 Z Z Z ?_ Z ?_ Z ?_;omega;omega)
    refine Ec ?_
    refine ⟨rfl,?_⟩
    refine a8 DW (SubM.refl _) i7.nil
   ·refine au (rem' := [43,44,45]) (i:=42) X Z Z ?_ i7.nil
    refine DY (an Z Z (by assumption)) (Ec ?_)
    refine ⟨rfl,?_⟩
    refine au (rem' := [44,45]) (i:=43) X Z Z ?_ i7.nil
    (refine dq 3 Z Z Z ?_ Z ?_ Z ?_;omega;omega)
    refine Ec ?_
    refine ⟨rfl,?_⟩
    refine au (rem' := [45]) (i:=44) X Z Z ?_ i7.nil
    refine DY (an Z Z Y) (Ec ?_)
    refine ⟨rfl,?_⟩
    refine au (rem' := []) (i:=45) X Z Z ?_ i7.nil
    (refine dq 3 Z Z Z ?_ Z ?_ Z ?_;omega;omega)
    refine Ec ?_
    refine ⟨rfl,?_⟩
    refine a8 DW (SubM.refl _) i7.nil
  ·refine aB (aa (aj (DY (bn _ 1 Z Z Y) (DZ Z (Ec ?_)))))
   refine aN (x+1) (hx) Y DU (.keep DX (.keep DX (.keep DX (.keep (Dn) (.keep DX (.keep DX (.keep DX (.keep DX (.keep DX (.keep DX (.nil)))))))))))
 ·have he:p=x:=by omega
  subst he
  have hb1:p+1 - 1<p+1:=by omega
  have e1:lEx p p (lZ m R) (p+1) p=lZ m R (p+1) p:=zr
  have m1:cX (lEx p p (lZ m R) (p+1) p):=by rw [e1]; exact hL (p+1) p hk Y
  have m2:cX (dZ m R p):=hD p Y
  have m3:cX (dZ m R (p+1)):=hD (p+1) Y
  have m4:cX (dZ m R (p+2)):=hD (p+2) Y
  have b1:=fg (t:=400) (u:=400) (v:=800) m1 m1 S
  have b2:=fg (t:=400) (u:=400) (v:=800) m2 m4 S
  have c1:=bE m1
  have c2:=bE m2
  have c3:=bE m3
  have c4:=bE m4
  have c5:=eM (t:=800) b1 S
  have c6:=eM (t:=800) b2 S
  have c7:=eM (t:=801) (lR (t:=800) (v:=801) b2 b1 S) S
  have hn0 : ∀ a,a≤n→dZ m R a≠0:=fun a ha=>Lin.cx hd ha
  have hq1:Ok Tryz.prog 81 [aO (dZ m R p*dZ m R (p+2)+lEx p p (lZ m R) (p+1) p*lEx p p (lZ m R) (p+1) p),aO (dZ m R (p+1))] (aO (dZ m (Lin.exZ p R) (p+1))):=by
   have h:=gI (dZ m R p*dZ m R (p+2)+lEx p p (lZ m R) (p+1) p*lEx p p (lZ m R) (p+1) p) (dZ m R (p+1)) (hn0 _ Y) c7 c3
   rw [e1, ← Lin.v9 (hn0 (p+2) Y),Int.mul_ediv_cancel _ (hn0 _ Y)] at h
   rw [e1, ← Lin.v9 (hn0 (p+2) Y)]; exact h
  have DS:dZ m R (p+2)≠0:=hn0 (p+2) Y
  refine ae (aj (DY (sF Y (a7 Z Z)) (Ec (aa (ae (az Z (aY (aw (aw ?_)))))))))
  refine aE (aa (ae (aj (DZ Z (DY (bH Z) (DY (ah Z) (DY (ah Z) (DY (bt 0 0 1 Z Z Z Z Z) (DZ Z ?_)))))))))
  refine DY (an Z Z Y) (DY (bk 2 Z Z Y) (DZ Z (DY (cA _ 1 Z Z Y Y) (DY (an Z Z Y) (DY (d9 3 Z Z Y Z Y) ?_)))))
  refine aX (T:=43) Z (ltN Z) (fun b7 => ?_)
  refine aC 0 Z Z Z Z Z (leN Z) Z (Ec (aa (ae (aj (DY (ak 0 Z Z Z) (DY (ak 0 Z Z Z) ?_))))))
  refine DY (am (dM _ _ (by assumption) (by assumption)) Z ⟨H,H,Ed⟩) ?_
  refine aX (T:=43) Z (ltN Z) (fun b8 => ?_)
  refine aC 0 Z Z Z Z Z (leN Z) Z (Ec (aa (ae ?_)))
  refine dU aS X X ?_
  refine ux (fun B=>ab Z) Z Z ?_
  refine ux (fun B=>bH Z) Z Z ?_
  refine ux (fun B=>ah Z) Z Z ?_
  refine ux (fun B=>ah Z) Z Z ?_
  refine ux (fun B=>bt 2 0 0 Z Z Z Z Z) Z Z ?_
  refine ux (fun B=>ab Z) Z Z ?_
  refine ux (fun B=>cA _ 1 Z Z Y Y) Z Z ?_
  refine ux (fun B=>an Z Z Y) Z Z ?_
  refine ux (fun B=>bk 3 Z Z Y) Z Z ?_
  refine ux (fun B=>ab Z) Z Z ?_
  refine ux (fun B=>bH Z) Z Z ?_
  refine ux (fun B=>ah Z) Z Z ?_
  refine ux (fun B=>ah Z) Z Z ?_
  refine ux (fun B=>bt 2 0 0 Z Z Z Z Z) Z Z ?_
  refine ux (fun B=>ab Z) Z Z ?_
  refine ux (fun B=>bn _ 1 Z Z Y) Z Z ?_
  refine ux (fun B=>an Z Z Y) Z Z ?_
  refine ux (fun B=>bk 3 Z Z Y) Z Z ?_
  refine uxk (dM _ _ (by assumption) (by assumption)) Z ⟨H,H,Ed⟩ Z ?_
  refine ux (fun B=>ak 0 Z Z Z) Z Z ?_
  refine uxk (gv _ _ (by assumption) (by assumption)) Z ⟨H,H,Ed⟩ Z ?_
  refine ux (fun B=>ab Z) Z Z ?_
  refine ux (fun B=>bH Z) Z Z ?_
  refine ux (fun B=>ah Z) Z Z ?_
  refine ux (fun B=>ah Z) Z Z ?_
  refine ux (fun B=>bt 2 0 0 Z Z Z Z Z) Z Z ?_
  refine ux (fun B=>ab Z) Z Z ?_
  refine ux (fun B=>an Z Z Y) Z Z ?_
  refine ux (fun B=>bk 3 Z Z Y) Z Z ?_
  refine uxk (hq1) Z ⟨H,H,Ed⟩ Z ?_
  refine ua Z (us Z ?_)
  refine RunU.nil (fun γ => ?_)
  refine cF (M' := [_,_,_,_,_,_,_,_,_,_,_,_,_]) Z (aa (ae (ae (aj (DZ Z (DY (bn _ 1 Z Z Y) (Ea Z (Ec (aa ?_)))))))))
  refine ar (cm (Γ' := [(0,_),(1,_),(7,_),(9,_),(10,_)]) DT (SubM.refl _) ?_)
  refine bw (σ:=Nat) (Γk := [(0,_),(1,_),(7,_),(9,_)]) DT (fun i => [(10,one (.int .i64 (i:Nat)))]) (fun i M0=>(M0.set 6 (cT (fun q=>q) n Bl (fun q=>q) (lEi m p i R)))) (fun i=>p+2≤i∧i≤n) (fun i=>n - i) (p+2) (⟨Nat.le_refl _,hk⟩) DU (.keep DX (.keep DX (.keep DX (.keep DX (.keep DX (.keep DX (.keep (Do hn0 hk) (.keep DX (.keep DX (.keep DX (.keep DX (.keep DX (.keep DX (.nil)))))))))))))) (fun i hi => ?_)
  refine bN (Γ' := [(10,_),(0,_),(1,_),(7,_),(9,_)]) (M' := [_,_,_,_,_,_,_,_,_,_,_,_,_]) Z Z ?_
  obtain ⟨hi1,hi2⟩:=hi
  by_cases hin:i<n
  ·have hi3:p+1<i:=by omega
   have hb2:p+1 - 1<i:=by omega
   have e2:lEi m p i R i p=lZ m R i p:=if_pos ⟨hi3,Nat.le_refl _⟩
   have e3:lEi m p i R i (p+1)=lZ m R i (p+1):=if_pos ⟨hi3,Nat.le_refl _⟩
   have e4:lEj m p i R i (p+1)=lZ m (Lin.exZ p R) i (p+1):=if_pos ⟨rfl,rfl⟩
   have m5:cX (lEi m p i R i p):=by rw [e2]; exact hL i p hin Y
   have m6:cX (lEi m p i R i (p+1)):=by rw [e3]; exact hL i (p+1) hin hi3
   have m7:cX (lEj m p i R i (p+1)):=by rw [e4]; exact hL' i (p+1) hin hi3
   have d5:=bE m5
   have d6:=bE m6
   have d7:=bE m7
   have dD:=bE hD'
   have p1:=fg (t:=400) (u:=400) (v:=800) m4 m5 S
   have p2:=fg (t:=400) (u:=400) (v:=800) m1 m6 S
   have p3:=fg (t:=400) (u:=400) (v:=800) hD' m6 S
   have p4:=fg (t:=400) (u:=400) (v:=800) m1 m7 S
   have s1:=eM (t:=800) p1 S
   have s2:=eM (t:=800) p2 S
   have s3:=eM (t:=800) p3 S
   have s4:=eM (t:=800) p4 S
   have hq2:Ok Tryz.prog 81 [aO (dZ m R (p+2)*lEi m p i R i p - lEx p p (lZ m R) (p+1) p*lEi m p i R i (p+1)),aO (dZ m R (p+1))] (aO (lZ m (Lin.exZ p R) i (p+1))):=by
    have h:=gI (dZ m R (p+2)*lEi m p i R i p - lEx p p (lZ m R) (p+1) p*lEi m p i R i (p+1)) (dZ m R (p+1)) (hn0 _ Y) (eM (t:=801) (uN (t:=800) (v:=801) p1 p2 S) S) c3
    rw [e1,e2,e3, ← Lin.wa DS hi3,Int.mul_ediv_cancel _ (hn0 _ Y)] at h
    rw [e1,e2,e3, ← Lin.wa DS hi3]; exact h
   have hq3:Ok Tryz.prog 81 [aO (dZ m (Lin.exZ p R) (p+1)*lEi m p i R i (p+1)+lEx p p (lZ m R) (p+1) p*lEj m p i R i (p+1)),aO (dZ m R (p+2))] (aO (lZ m (Lin.exZ p R) i p)):=by
    have h:=gI (dZ m (Lin.exZ p R) (p+1)*lEi m p i R i (p+1)+lEx p p (lZ m R) (p+1) p*lEj m p i R i (p+1)) (dZ m R (p+2)) DS (eM (t:=801) (lR (t:=800) (v:=801) p3 p4 S) S) c4
    rw [e1,e3,e4, ← Lin.wb DS hi3,Int.mul_ediv_cancel _ DS] at h
    rw [e1,e3,e4, ← Lin.wb DS hi3]; exact h
   refine ae (ae (aj (DZ Z (DZ Z (DY (bH Z) (DY (ah Z) (DY (ah Z) (DY (bt 3 0 1 Z Z Z Z Z) (DY (gL Z) ?_)))))))))
   refine DY (sT Y (a7 Z Z)) (Ec (aa (aG Z (av (aa (ae (ar (ae (aj ?_)))))))))
   refine DZ Z (DY (bH Z) (DY (ah Z) (DY (ah Z) (DY (bt 3 0 1 Z Z Z Z Z) (DZ Z (DY (an Z Z Y) (DY (bk 5 Z Z Y) (DZ Z (DY (an Z Z Y) ?_)))))))))
   refine DY (d9 6 Z Z Y Z Y) ?_
   refine aX (T:=43) Z (ltN Z) (fun b11 => ?_)
   refine aC 0 Z Z Z Z Z (leN Z) Z (Ec (aa (ae ?_)))
   refine dU aS X X ?_
   refine ux (fun B=>ab Z) Z Z ?_
   refine ux (fun B=>bH Z) Z Z ?_
   refine ux (fun B=>ah Z) Z Z ?_
   refine ux (fun B=>ah Z) Z Z ?_
   refine ux (fun B=>bt 4 0 0 Z Z Z Z Z) Z Z ?_
   refine ux (fun B=>ab Z) Z Z ?_
   refine ux (fun B=>bn _ 1 Z Z Y) Z Z ?_
   refine ux (fun B=>an Z Z Y) Z Z ?_
   refine ux (fun B=>bk 5 Z Z Y) Z Z ?_
   refine ux (fun B=>ab Z) Z Z ?_
   refine ux (fun B=>bH Z) Z Z ?_
   refine ux (fun B=>ah Z) Z Z ?_
   refine ux (fun B=>ah Z) Z Z ?_
   refine ux (fun B=>bt 4 0 1 Z Z Z Z Z) Z Z ?_
   refine ux (fun B=>ab Z) Z Z ?_
   refine ux (fun B=>an Z Z Y) Z Z ?_
   refine ux (fun B=>bk 6 Z Z Y) Z Z ?_
   refine ux (fun B=>ab Z) Z Z ?_
   refine ux (fun B=>cA _ 1 Z Z Y Y) Z Z ?_
   refine ux (fun B=>an Z Z Y) Z Z ?_
   refine ux (fun B=>d9 7 Z Z Y Z Y) Z Z ?_
   refine uxk (dM _ _ (by assumption) (by assumption)) Z ⟨H,H,Ed⟩ Z ?_
   refine ux (fun B=>ak 3 Z Z Z) Z Z ?_
   refine ux (fun B=>ak 0 Z Z Z) Z Z ?_
   refine uxk (dM _ _ (by assumption) (by assumption)) Z ⟨H,H,Ed⟩ Z ?_
   refine uxk (mq _ _ (by assumption) (by assumption)) Z ⟨H,H,Ed⟩ Z ?_
   refine ua Z (us Z ?_)
   refine RunU.nil (fun γ => ?_)
   refine cF (M' := [_,_,_,_,_,_,_,_,_,_,_,_,_,_,_]) Z (aa (ae (aT 19 aS X S (DZ Z (DY (bH Z) (DY (ah Z) (DY (ah Z) (DY (bt 5 0 1 Z Z Z Z Z) (DZ Z ?_)))))))))
   refine DY (an Z Z Y) (DY (bk 7 Z Z Y) (DZ Z (DY (ak 0 Z Z Z) (DZ Z (DY (bH Z) (DY (ah Z) (DY (ah Z) (DY (bt 5 0 0 Z Z Z Z Z) (DZ Z ?_)))))))))
   refine DY (an Z Z Y) (DY (bk 6 Z Z Y) ?_)
   refine DY (am (hq2) Z ⟨H,H,Ed⟩) ?_
   refine Ec (DY (an Z Z Y) ?_)
   (refine dq 8 Z Z Z ?_ Z ?_ Z ?_;omega;omega)
   refine Ec (aa (ae (et (ConvM.cons (ConvM.cons (ConvM.cons (ConvM.cons (ConvM.cons (ConvM.cons (ConvM.cons (ConvM.cons (ConvM.le Dp))))))))) ?_)))
   refine dU aS X X ?_
   refine ux (fun B=>ak 2 Z Z Z) Z Z ?_
   refine ux (fun B=>ak 1 Z Z Z) Z Z ?_
   refine uxk (dM _ _ (by assumption) (by assumption)) Z ⟨H,H,Ed⟩ Z ?_
   refine ux (fun B=>ak 4 Z Z Z) Z Z ?_
   refine ux (fun B=>ab Z) Z Z ?_
   refine ux (fun B=>bH Z) Z Z ?_
   refine ux (fun B=>ah Z) Z Z ?_
   refine ux (fun B=>ah Z) Z Z ?_
   refine ux (fun B=>bt 5 0 1 Z Z Z Z Z) Z Z ?_
   refine ux (fun B=>ab Z) Z Z ?_
   refine ux (fun B=>an Z Z Y) Z Z ?_
   refine ux (fun B=>bk 7 Z Z Y) Z Z ?_
   refine ux (fun B=>ab Z) Z Z ?_
   refine ux (fun B=>an Z Z Y) Z Z ?_
   refine ux (fun B=>d9 8 Z Z Y Z Y) Z Z ?_
   refine uxk (dM _ _ (by assumption) (by assumption)) Z ⟨H,H,Ed⟩ Z ?_
   refine uxk (gv _ _ (by assumption) (by assumption)) Z ⟨H,H,Ed⟩ Z ?_
   refine ua Z (us Z ?_)
   refine RunU.nil (fun γ => ?_)
   refine cF (M' := [_,_,_,_,_,_,_,_,_,_,_,_,_,_,_,_]) Z (aa (aT 21 aS X S (DZ Z (DY (bH Z) (DY (ah Z) (DY (ah Z) (DY (bt 6 0 1 Z Z Z Z Z) (DZ Z (DY (an Z Z Y) ?_)))))))))
   refine DY (bk 8 Z Z Y) (DZ Z (DY (cA _ 1 Z Z Y Y) (DY (ak 0 Z Z Z) (DZ Z (DY (bH Z) (DY (ah Z) (DY (ah Z) (DY (bt 6 0 0 Z Z Z Z Z) (DZ Z ?_)))))))))
   refine DY (bn _ 1 Z Z Y) (DY (an Z Z Y) (DY (bk 7 Z Z Y) ?_))
   refine DY (am (hq3) Z ⟨H,H,Ed⟩) ?_
   refine Ec (DY (an Z Z Y) ?_)
   (refine dq 9 Z Z Z ?_ Z ?_ Z ?_;omega;omega)
   refine Ec (aB (aa (aj (DZ Z (DY (bn _ 1 Z Z Y) (Ea Z (Ec ?_)))))))
   refine aN (i+1) (⟨by omega,hin⟩) Y DU (.drop (.drop (.drop (.keep DX (.keep DX (.keep DX (.keep DX (.keep DX (.keep DX (.keep (Dq hn0 hi3 hin) (.keep DX (.keep DX (.keep DX (.keep DX (.keep DX (.keep DX (.nil)))))))))))))))))
  ·have he:n=i:=by omega
   subst he
   refine ae (ae (aj (DZ Z (DZ Z (DY (bH Z) (DY (ah Z) (DY (ah Z) (DY (bt 3 0 1 Z Z Z Z Z) (DY (gL Z) ?_)))))))))
   refine DY (sF Y (a7 Z Z)) (Ec (aa (az Z (aY (aw (aw (aE (aa (aT 7 aS X S ?_)))))))))
   refine DZ Z (DY (bH Z) (DY (ah Z) (DY (ah Z) (DY (bt 3 0 0 Z Z Z Z Z) (DZ Z (DY (ak 0 Z Z Z) (Ec (DY (an Z Z Y) ?_))))))))
   (refine aA 4 Z Z Z ?_ Z ?_;omega)
   refine Ec (q8 ?_)
   exact xV (σ:=Unit) (ψ:=fun _=>bM []) () Tryz.results64 H (.drop (.drop (.drop (.keep DX (.keep (Ds DS) (.keep DX (.keep Dr (SubM.refl _))))))))
end Tor
end
section
namespace Tor
open Go Go.RowKit Go.Proofs
open Lin (dZ lZ uZ cO dK ec)
/-! ### Sizes -/
def fB (B:Nat):Nat→Nat
 | 0 => 1
 | n + 1 => (n + 1) * (B * fB B n)
theorem iI {B:Nat} {f:Nat→Int} (h : ∀ k,(f k).natAbs≤B) : ∀ n,(Lin.smZ n f).natAbs≤n*B
 | 0 => by show (0 : Int).natAbs ≤ _; simp
 | n + 1 => by
  have h1:=iI h n
  have h2:=h n
  show (Lin.smZ n f+f n).natAbs≤_
  rw [Nat.succ_mul]
  omega
theorem nA {B:Nat} : ∀ {n:Nat} {F:Nat→Nat→Int},(∀ i j,(F i j).natAbs≤B)→(Lin.rq n F).natAbs≤fB B n
 | 0, _, _ => Nat.le_refl _
 | n + 1, F, hF => by
  show (Lin.smZ (n+1) _).natAbs≤(n+1)*(B*fB B n)
  refine iI (fun k => ?_) (n+1)
  rw [Int.natAbs_mul,Int.natAbs_mul,show (Lin.yo k).natAbs=1 by unfold Lin.yo;split <;> rfl,Nat.one_mul]
  exact Nat.mul_le_mul (hF 0 k) (nA fun i j=>hF _ _)
theorem dF {x:Int} {t:Nat} (h:x.natAbs≤2^t) (ht:t≤400):cX x:=BB (t:=t) (u:=400) h ht
theorem gf {m n:Nat} {F:Nat→Nat→Int} (hm:m≤4) (hn:n≤4) (hF : ∀ i j,(F i j).natAbs≤64):DesB m n F:=by
 have hd : ∀ i j,(cO m (F i) (F j)).natAbs≤16384:=fun i j=>by
  have h1:=iI (B:=4096) (f:=fun k=>F i k*F j k) (fun k=>by rw [Int.natAbs_mul]; exact Nat.mul_le_mul (hF i k) (hF j k)) m
  exact Nat.le_trans h1 (Nat.le_trans (Nat.mul_le_mul_right _ hm) S)
 refine ⟨fun i j=>dF (t:=6) (hF i j) S,fun i j t ht hj hi => ?_⟩
 have h1:=nA (n:=t+1) (fun a b=>hd (Lin.rr t i a) (Lin.rr t j b))
 refine dF (t:=70) (Nat.le_trans h1 ?_) S
 rcases (show t=0∨t=1∨t=2∨t=3 by omega) with rfl | rfl | rfl | rfl <;> decide
theorem LB.des {m n N0:Nat} {F:Nat→Nat→Int} (h:LB m n N0 F):DesB m n F:=gf h.m4 h.n4 h.f
section
variable {m n N0 e t k:Nat} {F:Nat→Nat→Int} {s:LS}
theorem mP {x:Int} (h:x.natAbs≤2^785000):dA x:=Nat.le_trans (gG (t:=785000) (k:=25000) h S) S
theorem LAll.d4 (h:LAll m n N0 F s e t k) (hb:LB m n N0 F) (h0:0<n) : ∀ a,a≤n→cX (dZ m s.R a):=fun a ha=>by
 have h1:=h.inv.dz hb.n4 h0 a ha
 have h2:=Lin.ig (m:=m) (F:=s.R) a
 have h3:=hb.p4
 exact dF (t:=48) Y S
theorem LAll.l4 (h:LAll m n N0 F s e t k) (hb:LB m n N0 F) : ∀ a b,a<n→b<a→cX (lZ m s.R a b):=fun a b ha hb' =>
 dF (t:=48) (Nat.le_trans (h.inv.lz hb.n4 a b ha hb') hb.p4) S
theorem Ph.shH (h:Ph m n N0 F 0 k e t s) (hb:LB m n N0 F) (hk:k<n):ShH m n k s:=by
 have hs:=h.all.inv.sh hk hb.n4
 have ht:=h.t_le hb
 have hB : ∀ i,i≤k→BndL (2^785000) (stA m k s i):=fun i hi=>(hs i hi).bnd.mono (hb.grow Y (by have:=hb.n4;omega))
 refine ⟨h.all.inv.dn,h.all.d4 hb Y,fun i hi a b ha hb' => ?_,fun i hi a=>(hs i hi).dz a,fun i hi a b=>mP ((hB i hi).r a b),fun i hi a b=>mP ((hB i hi).u a b),fun i hi a b=>mP ((hB i hi).v a b)⟩
 by_cases hak:a=k
 ·subst hak
  have h1:=(hs i hi).lb b hb'
  have h2:=tK (c:=49*(i+1)) (i+1) hb.p5 Z
  exact dF (t:=49*(i+1)) (Nat.le_trans h1 h2) (by have:=hb.n4;omega)
 ·rw [(hs i hi).lo a b hak hb' Y]
  exact h.all.l4 hb a b ha hb'
end
abbrev rdT (a b c:VT):VT:=bA 9 [(0, .agg 3,a),(3, .agg 3,b),(6, .agg 3,c)]
abbrev CD (m n N:Nat) (F:Nat→Nat→Int):Type := {s:LS // RedOut m n N F s}
abbrev Dt (m n:Nat) (s:LS):VT:=rdT (bG n m s.R) (bG n n s.U) (bG n n s.V)
abbrev Du:VT:=rdT (bG 0 0 fun _ _=>0) (bG 0 0 fun _ _=>0) (bG 0 0 fun _ _=>0)
theorem rV {F:Nat→Nat→Int} : VT.le (one (.agg #[.int .i64 0, .int .i64 0, .slice none 0 0])) (bG 0 0 F):=fun v h e=>by
 have e:v = .agg #[.int .i64 0, .int .i64 0, .slice none 0 0]:=e
 subst e
 exact ⟨_,rfl,rfl,by kernel_rfl,fun q hq=>by
  simp only [List.mem_cons,List.not_mem_nil,or_false] at hq
  rcases hq with rfl | rfl | rfl
  ·exact ⟨_,rfl,rfl⟩
  ·exact ⟨_,rfl,rfl⟩
  ·exact ⟨_,rfl,gV _ _ Z⟩⟩
theorem CE:VT.le (bA 9 (dt #[.int .i64 0, .int .i64 0, .slice none 0 0, .int .i64 0, .int .i64 0, .slice none 0 0, .int .i64 0, .int .i64 0, .slice none 0 0] [(0, .agg 3),(3, .agg 3),(6, .agg 3)])) Du:=eY (fun q hq=>by
 simp only [List.mem_cons,List.not_mem_nil,or_false] at hq
 rcases hq with rfl | rfl | rfl
 ·exact ⟨_,List.mem_cons_self,rV⟩
 ·exact ⟨_,List.mem_cons_of_mem _ List.mem_cons_self,rV⟩
 ·exact ⟨_,List.mem_cons_of_mem _ (List.mem_cons_of_mem _ List.mem_cons_self),rV⟩)
theorem zu {b:Nat} {T:TypeId} {DP:VT} : Own.le (aW b T 5 [(0, .agg 2,DP),(2, .agg 3,one (.agg #[.slice none 0 0, .slice none 0 0, .slice none 0 0]))]) (aW b T 5 [(0, .agg 2,DP),(2, .one,one (.slice none 0 0)),(3, .one,one (.slice none 0 0)),(4, .one,one (.slice none 0 0))]) :=
 ⟨rfl,fun g k ⟨c,h1,h2,h3,h4⟩=>⟨c,h1,h2,h3,fun q hq=>by
  obtain ⟨x,hx,hp⟩:=h4 _ (List.mem_cons_of_mem _ List.mem_cons_self)
  have hp:x = .agg #[.slice none 0 0, .slice none 0 0, .slice none 0 0]:=hp
  subst hp
  have hx:(if 2+3≤c.size then some (Value.agg (c.extract 2 (2+3))) else none)=some (.agg #[.slice none 0 0, .slice none 0 0, .slice none 0 0]):=hx
  rw [if_pos Y] at hx
  have hx:c.extract 2 5 = #[.slice none 0 0, .slice none 0 0, .slice none 0 0]:=by injection hx with hx;injection hx
  have hg : ∀ j,j<3→c[2+j]? = some (.slice none 0 0):=fun j hj=>by
   have e:(c.extract 2 5)[j]? = c[2+j]? := by rw [Array.getElem?_extract,if_pos Y]
   rw [← e,hx]
   rcases (show j=0∨j=1∨j=2 by omega) with rfl | rfl | rfl <;> rfl
  simp only [List.mem_cons,List.not_mem_nil,or_false] at hq
  rcases hq with rfl | rfl | rfl | rfl
  ·exact h4 _ List.mem_cons_self
  ·exact ⟨_,hg 0 S,rfl⟩
  ·exact ⟨_,hg 1 S,rfl⟩
  ·exact ⟨_,hg 2 S,rfl⟩⟩⟩
theorem A5 {b:Nat} {T:TypeId} {DP φ ψ χ:VT} : Own.le (aW b T 5 [(0, .agg 2,DP),(2, .one, φ),(3, .one, ψ),(4, .one, χ)]) (aW b T 5 [(0, .agg 2,DP),(2, .agg 3,bA 3 [(0, .one, φ),(1, .one, ψ),(2, .one, χ)])]) :=
 ⟨rfl,fun g k ⟨c,h1,h2,h3,h4⟩=>⟨c,h1,h2,h3,fun q hq=>by
  have hg : ∀ j,j<3→(c.extract 2 5)[j]? = c[2+j]? := fun j hj=>by rw [Array.getElem?_extract,if_pos Y]
  simp only [List.mem_cons,List.not_mem_nil,or_false] at hq
  rcases hq with rfl | rfl
  ·exact h4 _ List.mem_cons_self
  ·refine ⟨.agg (c.extract 2 5),if_pos (by show 2+3≤c.size;omega),c.extract 2 5,rfl,by rw [Array.size_extract]; omega,?_,fun q hq => ?_⟩
   ·rw [Array.all_eq_true] at h3 ⊢
    intro i hi
    rw [Array.getElem_extract]; exact h3 _ _
   ·simp only [List.mem_cons,List.not_mem_nil,or_false] at hq
    rcases hq with rfl | rfl | rfl
    ·obtain ⟨x,hx,hp⟩:=h4 (2, .one, φ) (by simp);exact ⟨x,(hg 0 S).trans hx,hp⟩
    ·obtain ⟨x,hx,hp⟩:=h4 (3, .one, ψ) (by simp);exact ⟨x,(hg 1 S).trans hx,hp⟩
    ·obtain ⟨x,hx,hp⟩:=h4 (4, .one, χ) (by simp);exact ⟨x,(hg 2 S).trans hx,hp⟩⟩⟩
theorem zw {T:TypeId} {bz cap n i b k m:Nat} {B C:Nat→Nat} {z:VT} : Own.le (aU (some bz) T .one cap n (upd (fun q=>if q<i then one (slV (some (B q)) m (C q)) else z) i (one (slV (some b) m k)))) (aU (some bz) T .one cap n (fun q=>if q<i+1 then one (slV (some (if q=i then b else B q)) m (if q=i then k else C q)) else z)):=bQ fun q _=>by
 unfold upd
 by_cases h:q=i
 ·subst h;rw [if_pos Z,if_pos (Nat.lt_succ_self q),if_pos Z,if_pos Z]
 ·rw [if_neg h]
  dsimp only
  by_cases h2:q<i
  ·rw [if_pos h2,if_pos Y,if_neg h,if_neg h]
  ·rw [if_neg h2,if_neg Y]
theorem xk {T:TypeId} {L:Lay} {n i b k:Nat} {c B C:Nat→Nat} {φ χ:Nat→Nat→VT} {ψ:Nat→VT} (h1 : ∀ j,j<c i→VT.le (ψ j) (χ i j)) (h2 : ∀ q j,q<i→j<c q→VT.le (φ q j) (χ q j)):Own.le (rvO T L c n (fun q=>if q=i then b else B q) (fun q=>if q=i then k else C q) (fun q=>if q=i then ψ else φ q) (fun q=>if q=i then false else decide (i≤q))) (rvO T L c n (fun q=>if q=i then b else B q) (fun q=>if q=i then k else C q) χ (fun q=>decide (i+1≤q))):=du (fun q _=>by
  by_cases h:q=i
  ·rw [if_pos h,decide_eq_false Y]
  ·rw [if_neg h]; exact decide_eq_decide.2 Y) (fun q _ _=>⟨rfl,rfl⟩) fun q j hq hS hj=>by
 by_cases h:q=i
 ·subst h;rw [if_pos Z]; exact h1 j hj
 ·rw [if_neg h] at hS ⊢
  exact h2 q j (by have:=of_decide_eq_false hS;omega) hj
theorem BH (n:Nat) (is:List Nat) {L L':Mem} (h:is.isPerm (List.range n)=true) (hn:L.length=n) (h2:is.map (fun i=>L.getD i (aU none 0 .one 0 0 fun _=>bO))=L'):L.Perm L':=by
 subst hn
 have h1:=(List.isPerm_iff.1 h).map fun i=>L.getD i (aU none 0 .one 0 0 fun _=>bO)
 rw [h2] at h1
 have e:(List.range L.length).map (fun i=>L.getD i (aU none 0 .one 0 0 fun _=>bO))=L:=by
  refine List.ext_getElem (by simp) fun i h1 h2 => ?_
  simp [List.getD,h2]
 rw [e] at h1
 exact h1.symm
theorem Dv {n:Nat} {B C:Nat→Nat} : Own.le (cT (fun _=>n) n B C idF) (cT (fun _=>n) n B C (trF idF)):=du (fun _ _=>rfl) (fun _ _ _=>⟨rfl,rfl⟩) fun a b _ _ _=>by
 show VT.le (aO (if a=b then 1 else 0)) (aO (if b=a then 1 else 0))
 by_cases h:a=b
 ·rw [if_pos h,if_pos h.symm]; exact VT.le_refl _
 ·rw [if_neg h,if_neg (fun e=>h e.symm)]; exact VT.le_refl _
theorem rW {n a b k e:Nat} (h:phN a<phN b):phM n a k e<phM n b k e:=Nat.add_lt_add_left h _
theorem CF {n p:Nat} {B C:Nat→Nat} {V:Nat→Nat→Int} : Own.le (cT (fun _=>n) n B C (swp p (p+1) (trF V))) (cT (fun _=>n) n B C (trF (rF p (p+1) V))):=du (fun _ _=>rfl) (fun _ _ _=>⟨rfl,rfl⟩) fun a b _ _ _=>by
 show VT.le (aO (swp p (p+1) (trF V) a b)) (aO (rF p (p+1) V b a))
 have e:swp p (p+1) (trF V) a b=rF p (p+1) V b a:=by
  unfold rF swp
  split
  ·rfl
  ·split <;> rfl
 rw [e]; exact VT.le_refl _
theorem Dw {sv:Option Nat} {cd k:Nat} {D D':Nat→Int} (h : ∀ a,D a=D' a):Own.le (dO sv cd k D) (dO sv cd k D'):=bQ fun q _=>by rw [h]
theorem nB {Ms:Mem} {n c bz:Nat} {B C:Nat→Nat} {F:Nat→Nat→Int} (h1:gH bz n n (fun _=>c) B C∈Ms) (h2:cT (fun _=>c) n B C F∈Ms):Ent Ms (one (slV (some bz) n n)) (slT .one n fun i=>cu c (F i)):=by
 refine Ent.slE h1 fun q hq => ?_
 unfold cu
 exact Ent.rvo h2 hq Z
theorem CG {a b c a' b' c':VT} (h1:VT.le a a') (h2:VT.le b b') (h3:VT.le c c'):VT.le (rdT a b c) (rdT a' b' c'):=eY (fun q hq=>by
 simp only [List.mem_cons,List.not_mem_nil,or_false] at hq
 rcases hq with rfl | rfl | rfl
 ·exact ⟨_,List.mem_cons_self,h1⟩
 ·exact ⟨_,List.mem_cons_of_mem _ List.mem_cons_self,h2⟩
 ·exact ⟨_,List.mem_cons_of_mem _ (List.mem_cons_of_mem _ List.mem_cons_self),h3⟩)
attribute [local irreducible] J PJ aP one slT cv bA bM exT cq eP aW aU slV VT.le Ret bO
attribute [local irreducible] rvO aO
theorem ju (m n:Nat) (F:Nat→Nat→Int) (hn:n≤1048576) (hm:m≤1048576) (hb:DesB m n F) (hd:dZ m F n=0):Ok Tryz.prog 26 [bG n m F] (bM [Du,one (.int .i64 170)]):=by
 have hva:=cJ n m F
 obtain ⟨k,h1,h2,h3⟩:=mL hd
 have hde:=ky m n k F hn hm hb h1 h2 h3
 refine Ok.enter Tryz.func26 Z Tryz.ntmps26 Z (fun w O => ?_)
 refine ae (aj ?_)
 refine aM Z Z (ltN Z) (fun b1 => ?_)
 refine aF (T:=54) Z Z Z (fun b2 => ?_)
 refine Ea Z (Ec (aa (ae (ae (aj (DY (ay 1 Z Z) ?_))))))
 refine DY (am (hva) Z ⟨H,Ed⟩) ?_
 refine DY (bF Z) (Ec (aa (az Z (av (aa (ae (aj (DY (ah Z) (DY (ak 1 Z Z Z) ?_)))))))))
 refine DY (am (hde) Z ⟨H,Ed⟩) ?_
 refine DZ Z (DY (aq Z Z) (DY (aq Z Z) ?_))
 refine aF (T:=81) Z Z Z (fun b4 => ?_)
 refine aH 0 Z Z Z Z (Ea Z (Ec (aa (ae (ae (aj (DZ Z (DY (bF Z) (Ec ?_)))))))))
 refine aa (aG Z (ae (aj (stB Z Z Z (BuildK.nil (aH 1 Z Z Z Z (Ea Z (Ec (aa ?_)))))))))
 refine aD (aI ?_)
 refine fw Tryz.results26 (.cellW 1 Z Z (CE)) (.tmp Z H)
set_option maxRecDepth 100000 in
theorem gp (m n N0:Nat) (F:Nat→Nat→Int) (hb:LB m n N0 F) (hd:dZ m F n≠0):OkM (σ:=CD m n (2*N0) F) Tryz.prog 26 [bG n m F] (fun s=>bM [Dt m n s.1,one (.int .i64 0)]) (fun _ => []):=by
 have hn:n≤1048576:=by have:=hb.n4;omega
 have hm:m≤1048576:=by have:=hb.m4;omega
 have hva:=cJ n m F
 have hde:=nN m n F hn hm hb.des hd
 refine OkM.enter Tryz.func26 Z Tryz.ntmps26 Z (fun w O => ?_)
 refine ae (aj ?_)
 refine aM Z Z (ltN Z) (fun b1 => ?_)
 refine aF (T:=54) Z Z Z (fun b2 => ?_)
 refine Ea Z (Ec (aa (ae (ae (aj (DY (ay 1 Z Z) ?_))))))
 refine DY (am (hva) Z ⟨H,Ed⟩) ?_
 refine DY (bF Z) (Ec (aa (az Z (av (aa (ae (aj (DY (ah Z) (DY (ak 1 Z Z Z) ?_)))))))))
 refine di (hde) Z ⟨H,Ed⟩ Z Z (fun s19 => ?_)
 refine DZ Z (DY (aq Z Z) (DY (aq Z Z) ?_))
 refine aF (T:=81) Z Z Z (fun b4 => ?_)
 refine aH 0 Z Z Z Z (Ea Z (Ec (aa (ae (ae (aj (DZ Z (DY (bF Z) (Ec ?_)))))))))
 refine aa (az Z (av (aa (ae (aj (DY (ah Z) (DY (ak 5 Z Z Z) (Ea Z (Ec ?_)))))))))
 refine aa (ae (aj (DY (ay 0 Z Z) (stB Z Z Z (BuildK.cons Z Z Z (BuildK.nil ?_))))))
 refine aF (T:=100) Z Z Z (fun b7 => ?_)
 refine aH 0 Z Z Z Z (Ec (aa (ae (et (ConvM.le zu) (aj (DZ Z ?_))))))
 refine ci n n Z Z Z Z (Nat.le_refl _) Z Z Y Z Z (fun bR => ?_)
 refine DY (ah Z) (DY (eQ 0 _ Z Z (ltN Z)) (aC 1 Z Z Z Z Z (leN Z) Z (Ec (aa (ae (ae (aj (DY (ah Z) (DY (ak 7 Z Z Z) ?_)))))))))
 refine DY (aZ Z) (DZ Z (Ec (aa (ar ?_))))
 refine et (kr (T:=43) (L := .agg 2) (c:=fun _=>m) (n:=n) (B:=fun _=>0) (C:=fun _=>0) (φ:=ff F) (DQ:=fun q=>decide (0≤q)) (fun i _=>decide_eq_true (Nat.zero_le i))) ?_
 refine cm (Γ' := [(1,_),(2,_),(3,_),(6,_),(7,_),(34,_),(35,_),(36,_)]) DT (SubM.refl _) ?_
 refine bw (σ:=Nat × (Nat→Nat) × (Nat→Nat)) (Γk := [(1,_),(2,_),(3,_),(6,_),(7,_),(34,_),(35,_)]) DT (fun s => [(36,one (.int .i64 (s.1:Nat)))]) (fun s M0=>((M0.set 0 (rvO 43 (.agg 2) (fun _=>m) n s.2.1 s.2.2 (ff F) (fun q=>decide (s.1≤q)))).set 1 (aU (some bR) 50 .one n n (fun q=>if q<s.1 then one (slV (some (s.2.1 q)) m (s.2.2 q)) else one (.slice none 0 0))))) (fun s=>s.1≤n) (fun s=>n - s.1) ((0,fun _=>0,fun _=>0)) (Nat.zero_le _) DU (.keep DX (.keep DX (.keep DX (.keep DX (.keep DX (.keep DX (.keep DX (.keep DX (.keep DX (.nil)))))))))) (fun s hs => ?_)
 refine bN (Γ' := [(36,_),(1,_),(2,_),(3,_),(6,_),(7,_),(34,_),(35,_)]) (M' := [_,_,_,_,_,_,_,_,_]) Z Z ?_
 obtain ⟨i,B,C⟩:=s
 dsimp only at hs ⊢
 by_cases hi:i<n
 ·have hm0:0<m:=by
   rcases Nat.eq_zero_or_pos m with h | h
   ·exfalso
    subst h
    exact Lin.cx hd (show 1≤n by omega) Z
   ·exact h
  have hcl:=xe m (F i) hm0 hm
  refine ae (aj (DY (sT Y (a7 Z Z)) (Ec (aa (ae (aG Z (av (aa (ae ?_)))))))))
  refine ar (ae (aj (DZ Z (DY (ax Z Z Y) (DY (aJ Z) (Ea Z (Ea Z (Ec (aa ?_)))))))))
  refine pA 2 6 [5] (0,0) (fun j s=>one (slV (some s.1) m s.2)) (fun j s => [aU (some s.1) 43 (.agg 2) s.2 m (fun j=>aO (F i j))]) aS X S Z S ?_
  refine kx Z (fun s B=>ah Z) Z ?_
  refine kx Z (fun s B=>eQ 0 0 Z Z S) Z ?_
  refine kx Z (fun s B=>ak 2 Z Z Z) Z ?_
  refine kx Z (fun s B=>ab Z) Z ?_
  refine kx Z (fun s B=>ab Z) Z ?_
  refine kc Z (fun s B=>AZ hcl Z ⟨H,Ed⟩) Z ?_
  refine .nil fun s => ?_
  refine mi (Γ' := [(46,one (slV (some (s 5).1) m (s 5).2)),(44,one (.int .i64 (i:Nat))),(43,one (slV (some bR) n n)),(36,one (.int .i64 (i:Nat))),(1,_),(2,_),(3,_),(6,_),(7,_),(34,_),(35,_)]) (M' := [_,_,_,_,_,_,_,_,_,_]) DW (SubM.refl _) ?_
  generalize s 5=p
  obtain ⟨b,c⟩:=p
  dsimp only
  refine DY (an Z Z Y) ?_
  (refine aA 2 Z Z Z ?_ Z ?_;omega)
  refine Ec (aB (aa (aj (DY (bn _ 1 Z Z Y) (DZ Z (Ec ?_))))))
  refine gq (jP (c:=fun _=>m) (i:=i) hi (decide_eq_true (Nat.le_refl i))) ?_
  refine aN ((i+1,(fun q=>if q=i then b else B q),fun q=>if q=i then c else C q)) Y Y DU (.keep (xk (fun j hj=>VT.le_refl _) (fun q j _ _=>VT.le_refl _)) (.keep (zw) (.keep DX (.keep DX (.keep DX (.keep DX (.keep DX (.keep DX (.keep DX (.nil))))))))))
 ·have he:n=i:=by omega
  subst he
  refine ae (aj (DY (sF Y (a7 Z Z)) (Ec (aa (ae (az Z (aY (aw (aw ?_)))))))))
  refine aE (aa (ae (aj (DZ Z ?_))))
  refine di (vT _ (by assumption)) Z ⟨H,Ed⟩ Z Z (fun s50 => ?_)
  refine DZ Z ?_
  refine di (vT _ (by assumption)) Z ⟨H,Ed⟩ Z Z (fun s52 => ?_)
  refine DY (ah Z) (DY (eQ 1 _ Z Z (ltN Z)) (aC 6 Z Z Z Z Z (leN Z) Z (DY (ah Z) (DY (eQ 2 _ Z Z (ltN Z)) (aC 6 Z Z Z Z Z (leN Z) Z (Ec (aa (ae (ae ?_)))))))))
  refine aj (Ea Z (Ea Z (Ec (aa (ar ?_)))))
  obtain ⟨bd,cd,bl,Bl⟩:=s19
  obtain ⟨bU,BU⟩:=s50
  obtain ⟨bV,BV⟩:=s52
  refine xA (M' := [aW b7 100 5 [(0, .agg 2,xj n bd cd bl),(2, .one,one (slV (some bR) n n)),(3, .one,one (slV (some bU) n n)),(4, .one,one (slV (some bV) n n))],dO (some bd) cd (n+1) (dZ m F),gH bl n n (fun q=>q) Bl (fun q=>q),cT (fun q=>q) n Bl (fun q=>q) (lZ m F),aU (some bR) 50 .one n n (fun q=>if q<n then one (slV (some (B q)) m (C q)) else one (.slice none 0 0)),rvO 43 (.agg 2) (fun _=>m) n B C (ff F) (fun q=>decide (n≤q)),gH bU n n (fun _=>n) BU (fun _=>n),cT (fun _=>n) n BU (fun _=>n) idF,gH bV n n (fun _=>n) BV (fun _=>n),cT (fun _=>n) n BV (fun _=>n) idF,aW b4 81 2 [(0, .one,one (slV (some bd) (n+1) cd)),(1, .one,one (slV (some bl) n n))],aW b2 54 9 (dt #[Value.int .i64 0,Value.int .i64 0,Value.slice none 0 0,Value.int .i64 0,Value.int .i64 0,Value.slice none 0 0,Value.int .i64 0,Value.int .i64 0,Value.slice none 0 0] [(0, .agg 3),(3, .agg 3),(6, .agg 3)]),aW b1 28 3 [(0, .one,one (.int .i64 (n:Nat))),(1, .one,one (.int .i64 (m:Nat))),(2, .one,slT .one n fun i=>cu m (F i))]]) (BH 13 [6,8,9,10,5,4,2,3,0,1,7,11,12] W Z Z) ?_
  refine cm (Γ' := [(11,_),(10,_),(1,_),(2,_),(3,_),(6,_),(7,_)]) (M':=pY b7 m n ⟨bd,cd,bl,Bl,bR,bU,bV,B,C,BU,fun _=>n,BV,fun _=>n⟩ (dZ m F) (lZ m F) F idF (trF idF) ++ [_,_,_]) DW (.keep A5 (.keep DX (.keep DX (.keep DX (.keep (bQ fun q hq=>if_pos hq) (.keep (du (fun q hq=>decide_eq_false Y) (fun q _ _=>⟨rfl,rfl⟩) (fun q j _ _ _=>VT.le_refl _)) (.keep DX (.keep DX (.keep DX (.keep Dv (SubM.refl _))))))))))) ?_
  unfold pY tM
  dsimp only [List.cons_append,List.nil_append]
  refine cm (Γ' := [(1,_),(2,_),(3,_),(6,_),(7,_),(10,_),(11,_)]) DT (SubM.refl _) ?_
  refine bw (σ:=Nat × Nat × Nat × Nat × LS × RedL) (Γk := [(1,_),(2,_),(3,_),(6,_),(7,_)]) DT (fun x => [(10,one (.int .i64 (x.1:Nat))),(11,one (.int .i64 (x.2.1:Nat)))]) (fun x M0=>((((((((((M0.set 0 (tM b7 n x.2.2.2.2.2)).set 1 (dO (some x.2.2.2.2.2.bd) x.2.2.2.2.2.cd (n+1) (dZ m x.2.2.2.2.1.R))).set 2 (gH x.2.2.2.2.2.bl n n (fun q=>q) x.2.2.2.2.2.Bl (fun q=>q))).set 3 (cT (fun q=>q) n x.2.2.2.2.2.Bl (fun q=>q) (lZ m x.2.2.2.2.1.R))).set 4 (gH x.2.2.2.2.2.bR n n (fun _=>m) x.2.2.2.2.2.BR x.2.2.2.2.2.CR)).set 5 (cT (fun _=>m) n x.2.2.2.2.2.BR x.2.2.2.2.2.CR x.2.2.2.2.1.R)).set 6 (gH x.2.2.2.2.2.bU n n (fun _=>n) x.2.2.2.2.2.BU x.2.2.2.2.2.CU)).set 7 (cT (fun _=>n) n x.2.2.2.2.2.BU x.2.2.2.2.2.CU x.2.2.2.2.1.U)).set 8 (gH x.2.2.2.2.2.bV n n (fun _=>n) x.2.2.2.2.2.BV x.2.2.2.2.2.CV)).set 9 (cT (fun _=>n) n x.2.2.2.2.2.BV x.2.2.2.2.2.CV (trF x.2.2.2.2.1.V)))) (fun x=>Ph m n N0 F x.1 x.2.1 x.2.2.1 x.2.2.2.1 x.2.2.2.2.1) (fun x=>phM n x.1 x.2.1 x.2.2.1) ((0,1,0,0,⟨F,idF,idF⟩,⟨bd,cd,bl,Bl,bR,bU,bV,B,C,BU,fun _=>n,BV,fun _=>n⟩)) (Ph.start hb hd) DU (.keep DX (.keep DX (.keep DX (.keep DX (.keep DX (.keep DX (.keep DX (.keep DX (.keep DX (.keep DX (.keep DX (.keep DX (.keep DX (.nil)))))))))))))) (fun x hx => ?_)
  refine bN (Γ' := [(10,_),(11,_),(1,_),(2,_),(3,_),(6,_),(7,_)]) (M' := [_,_,_,_,_,_,_,_,_,_,_,_,_]) Z Z ?_
  obtain ⟨step,k,e,t,s,r⟩:=x
  dsimp only at hx ⊢
  rcases (show step=0∨step=1∨step=2∨step=3∨step=4 by have:=hx.st;omega) with rfl | rfl | rfl | rfl | rfl
  ·by_cases hk:k<n
   ·have hsh:=uU b7 m n k r s hn hm hk (hx.shH hb hk)
    unfold pY tM at hsh
    refine ae (ae (aj (DZ Z (DY (sT Y (cE Z Z)) (Ec (aa (aG Z (av (aa ?_)))))))))
    refine ar (ae (aj (DZ Z (Ec (aa (ar (ae (aj (DY (sT Y (cn Z Z)) ?_)))))))))
    refine Ea Z (Ec (aa (aG Z (ae (aj (Ea Z (Ec (aa (ae ?_)))))))))
    refine aj (DZ Z (DZ Z (DY (sT Y (a7 Z Z)) (Ec (aa (aG Z (ae (aj (DZ Z ?_)))))))))
    refine iR (Min := [_,_,_,_,_,_,_,_,_,_]) (Kp := [_,_,_]) hsh Z ⟨H,H,Ed⟩ (List.Perm.refl _) Z Z (fun _ => ?_)
    refine Ec (aa (aj (Ea Z (Ec (aB (aB ?_))))))
    refine aN ((1,k,e,t+1,stA m k s k,r)) (hx.short hb hk) ((rW S:phM n 1 k e<phM n 0 k e)) DU (.keep DX (.keep (Dw (fun a=>((hx.all.inv.sh hk hb.n4 k (Nat.le_refl k)).dz a).symm)) (.keep DX (.keep DX (.keep DX (.keep DX (.keep DX (.keep DX (.keep DX (.keep DX (.keep DX (.keep DX (.keep DX (.nil))))))))))))))
   ·refine ae (ae (aj (DZ Z (DY (sT Y (cE Z Z)) (Ec (aa (aG Z (av (aa ?_)))))))))
    refine ar (ae (aj (DZ Z (Ec (aa (ar (ae (aj (DY (sT Y (cn Z Z)) ?_)))))))))
    refine Ea Z (Ec (aa (aG Z (ae (aj (Ea Z (Ec (aa (ae ?_)))))))))
    refine aj (DZ Z (DZ Z (DY (sF Y (a7 Z Z)) (Ec (aa (az Z (av (aB (aB ?_)))))))))
    refine aN ((4,k,e,t,s,r)) (hx.fin Y) ((rW S:phM n 4 k e<phM n 0 k e)) DU (.keep DX (.keep DX (.keep DX (.keep DX (.keep DX (.keep DX (.keep DX (.keep DX (.keep DX (.keep DX (.keep DX (.keep DX (.keep DX (.nil))))))))))))))
  ·have hk:=hx.kn (.inl Z)
   obtain ⟨p,rfl⟩ : ∃ p,k=p+1:=⟨k - 1,by have:=hx.k1;omega⟩
   have hor:=zn n r.bd r.cd r.bl r.Bl (dZ m s.R) (lZ m s.R) (p+1) p hn Z hk (hx.all.l4 hb (p+1) p hk Y) (hx.all.d4 hb Y p Y) (hx.all.d4 hb Y (p+1) Y) (hx.all.d4 hb Y (p+2) Y)
   refine ae (ae (aj (DZ Z (DY (sT Y (cE Z Z)) (Ec (aa (aG Z (av (aa ?_)))))))))
   refine ar (ae (aj (DZ Z (Ec (aa (ar (ae (aj (DY (sF Y (cn Z Z)) ?_)))))))))
   refine Ea Z (Ec (aa (az Z (ae (aj (DY (sT Y (cn Z Z)) (Ea Z (Ec (aa ?_)))))))))
   refine aG Z (ae (aj (Ea Z (Ec (aa (ae (aj (DY (ah Z) (DY (ak 0 Z Z Z) ?_)))))))))
   refine DZ Z ?_
   refine iR (Min := [_,_,_]) (Kp := [_,_,_,_,_,_,_,_,_,_]) hor Z ⟨H,H,Ed⟩ (List.perm_middle (l₁ := [_,_,_])).symm Z Z (fun _ => ?_)
   refine fX (.ofPerm (List.perm_middle (l₁ := [_,_,_]))) ?_
   by_cases ho:ec m s.R p
   ·rw [decide_eq_true (show py (dZ m s.R) (lZ m s.R) p from ho)]
    refine Ec (aa (aG Z (aj (Ea Z (Ec (aB (aB ?_)))))))
    refine aN ((3,p+1,e,t,s,r)) (hx.good ho) ((rW S:phM n 3 (p+1) e<phM n 1 (p+1) e)) DU (.keep DX (.keep DX (.keep DX (.keep DX (.keep DX (.keep DX (.keep DX (.keep DX (.keep DX (.keep DX (.keep DX (.keep DX (.keep DX (.nil))))))))))))))
   ·rw [decide_eq_false (show ¬ py (dZ m s.R) (lZ m s.R) p from ho)]
    refine Ec (aa (az Z (av (aB (aB ?_)))))
    refine aN ((2,p+1,e,t,s,r)) (hx.bad ho) ((rW S:phM n 2 (p+1) e<phM n 1 (p+1) e)) DU (.keep DX (.keep DX (.keep DX (.keep DX (.keep DX (.keep DX (.keep DX (.keep DX (.keep DX (.keep DX (.keep DX (.keep DX (.keep DX (.nil))))))))))))))
  ·have hk:=hx.kn (.inr (.inl Z))
   obtain ⟨p,rfl⟩ : ∃ p,k=p+1:=⟨k - 1,by have:=hx.k1;omega⟩
   have hx':=hx.exch
   have hex:=tO b7 m n p r s.R s.U (trF s.V) hn hm hk hx.all.inv.dn (hx.all.d4 hb Y) (hx.all.l4 hb) (hx'.all.d4 hb Y (p+1) Y) (hx'.all.l4 hb)
   unfold pY tM at hex
   refine ae (ae (aj (DZ Z (DY (sT Y (cE Z Z)) (Ec (aa (aG Z (av (aa ?_)))))))))
   refine ar (ae (aj (DZ Z (Ec (aa (ar (ae (aj (DY (sF Y (cn Z Z)) ?_)))))))))
   refine Ea Z (Ec (aa (az Z (ae (aj (DY (sF Y (cn Z Z)) (Ea Z (Ec (aa ?_)))))))))
   refine az Z (ae (aj (DY (sT Y (cn Z Z)) (Ea Z (Ec (aa (aG Z (ae (aj ?_)))))))))
   refine DZ Z ?_
   refine iR (Min := [_,_,_,_,_,_,_,_,_,_]) (Kp := [_,_,_]) hex Z ⟨H,H,Ed⟩ (List.Perm.refl _) Z Z (fun _ => ?_)
   refine Ec (aa (ae (aj (DZ Z (DY (cA _ 1 Z Z Y Y) (DY (om Z Z) (Ea Z (Ec (aa ?_)))))))))
   refine aj (Ea Z (Ec (aB (aB ?_))))
   refine aN ((0,max (p+1 - 1) 1,e+1,t,exL p s,r.sw p)) (hx') (hx.mex hb) DU (.keep DX (.keep DX (.keep DX (.keep DX (.keep DX (.keep DX (.keep DX (.keep DX (.keep DX (.keep (CF) (.keep DX (.keep DX (.keep DX (.nil))))))))))))))
  ·have hk:=hx.kn (.inr (.inr Z))
   refine ae (ae (aj (DZ Z (DY (sT Y (cE Z Z)) (Ec (aa (aG Z (av (aa ?_)))))))))
   refine ar (ae (aj (DZ Z (Ec (aa (ar (ae (aj (DY (sF Y (cn Z Z)) ?_)))))))))
   refine Ea Z (Ec (aa (az Z (ae (aj (DY (sF Y (cn Z Z)) (Ea Z (Ec (aa ?_)))))))))
   refine az Z (ae (aj (DY (sF Y (cn Z Z)) (Ea Z (Ec (aa (az Z (ae (aj ?_)))))))))
   refine DY (sT Y (cn Z Z)) (Ea Z (Ec (aa (aG Z (ae (aj (DZ Z (DY (bn _ 1 Z Z Y) (Ea Z ?_)))))))))
   refine Ec (aa (aj (Ea Z (Ec (aB (aB ?_))))))
   refine aN ((0,k+1,e,t,s,r)) (hx.adv) (hx.mad) DU (.keep DX (.keep DX (.keep DX (.keep DX (.keep DX (.keep DX (.keep DX (.keep DX (.keep DX (.keep DX (.keep DX (.keep DX (.keep DX (.nil))))))))))))))
  ·have hout:=hx.out hb
   have hV : ∀ i j,bJ (trF s.V i j):=fun i j=>cI (mP ((hx.all.bndA hb (by have:=hx.t_le hb;omega)).v j i))
   have htr:=rj n n (trF s.V) hn hn hV
   unfold bG at htr
   refine ae (ae (aj (DZ Z (DY (sF Y (cE Z Z)) (Ec (aa (az Z (aY (aw ?_)))))))))
   refine aw (aE (aa (ae (xA (BH 13 [4,5,6,7,8,9,0,1,2,3,10,11,12] W Z Z) ?_))))
   refine BM [gH r.bR n n (fun _=>m) r.BR r.CR,cT (fun _=>m) n r.BR r.CR s.R,gH r.bU n n (fun _=>n) r.BU r.CU,cT (fun _=>n) n r.BU r.CU s.U,gH r.bV n n (fun _=>n) r.BV r.CV,cT (fun _=>n) n r.BV r.CV (trF s.V)] (Kp := [tM b7 n r,_,_,_,_,_,_]) (Kp' := [aW b7 100 5 [(0, .agg 2,xj n r.bd r.cd r.bl),(2, .agg 3,bA 3 [(0, .one,slT .one n fun i=>cu m (s.R i)),(1, .one,slT .one n fun i=>cu n (s.U i)),(2, .one,slT .one n fun i=>cu n (trF s.V i))])],_,_,_,_,_,_]) (List.Perm.refl _) (.keep (zY.box (.cons List.mem_cons_self (Ent.refl _) (.cons (List.mem_cons_of_mem _ List.mem_cons_self) (Ent.agg (.cons List.mem_cons_self (nB List.mem_cons_self (List.mem_cons_of_mem _ List.mem_cons_self)) (.cons (List.mem_cons_of_mem _ List.mem_cons_self) (nB (List.mem_cons_of_mem _ (List.mem_cons_of_mem _ List.mem_cons_self)) (List.mem_cons_of_mem _ (List.mem_cons_of_mem _ (List.mem_cons_of_mem _ List.mem_cons_self)))) (.cons (List.mem_cons_of_mem _ (List.mem_cons_of_mem _ List.mem_cons_self)) (nB (List.mem_cons_of_mem _ (List.mem_cons_of_mem _ (List.mem_cons_of_mem _ (List.mem_cons_of_mem _ List.mem_cons_self)))) (List.mem_cons_of_mem _ (List.mem_cons_of_mem _ (List.mem_cons_of_mem _ (List.mem_cons_of_mem _ (List.mem_cons_of_mem _ List.mem_cons_self)))))) .nil)))) .nil))) (EntM.refl _)) (xD.refl _) ?_
   refine aT 21 aS X S (DZ Z (DY (ah Z) (DY (ak 6 Z Z Z) (DY (ah Z) (DY (eQ 0 _ Z Z (ltN Z)) (DY (bt 0 2 0 Z Z Z Z Z) (stB Z Z Z (BuildK.cons Z Z Z (BuildK.cons Z Z Z ?_)))))))))
   refine BuildK.cons Z Z Z (BuildK.nil (DZ Z (DZ Z (DY (ah Z) (DY (eQ 1 _ Z Z (ltN Z)) (DY (bt 0 2 1 Z Z Z Z Z) (stB Z Z Z (BuildK.cons Z Z Z (BuildK.cons Z Z Z ?_)))))))))
   refine BuildK.cons Z Z Z (BuildK.nil (DZ Z (DZ Z (DY (ah Z) (DY (eQ 2 _ Z Z (ltN Z)) (DY (bt 0 2 2 Z Z Z Z Z) (stB Z Z Z (BuildK.cons Z Z Z (BuildK.cons Z Z Z ?_)))))))))
   refine BuildK.cons Z Z Z (BuildK.nil ?_)
   refine DY (am (htr) Z ⟨H,Ed⟩) ?_
   refine stB Z Z Z (BuildK.cons Z Z Z (BuildK.cons Z Z Z (BuildK.cons Z Z Z (BuildK.nil (Ec (aH 5 Z Z Z Z (Ea Z (Ec (aa ?_)))))))))
   refine aD ?_
   refine BC (ψ:=fun s:CD m n (2*N0) F=>Dt m n s.1) (ψ':=fun _=>one (.int .i64 0)) (⟨_,hout⟩:CD m n (2*N0) F) Tryz.results26 (.cellW 5 Z Z (CG (a:=bG n m s.R) (b:=bG n n s.U) (c:=bG n n s.V) (g8 fun i j hi hj=>tI hi hj) H H)) (.tmp Z H) (SubM.nilR _)
end Tor
end
