/-
  Theorems that the proofs of laws of this seat rest on.
  No condition.
-/
import Derived.Test.YtbgloceimmbliaaGreatED6
set_option maxHeartbeats 20000000
set_option linter.unusedVariables false
set_option linter.unusedSimpArgs false
section
namespace Tor
open Go Go.RowKit Go.Proofs
attribute [local irreducible] J PJ aJ one slT bQ bC bv exT bZ eP aP aI slV VT.le Ret bJ
theorem yS (n:Nat) (φ ψ χ:Nat→VT) [hF : ∀ i,Flat (χ i) (.agg 2)] (cl:VT) (hn:n≤1048576) (hC : ∀ i,i<n→fo Tryz.prog cl [φ i, ψ i] (χ i)):Ok Tryz.prog 153 [slT (.agg 2) n φ,slT (.agg 2) n ψ,cl] (slT (.agg 2) n χ):=by
 refine Ok.enter Tryz.func153 Y Tryz.ntmps153 Y (fun w O => ?_)
 refine ae (ai (En Y (Ep (aa (ae (ai (Em Y (El (aW Y) ?_))))))))
 refine bV n n Y Y Y Y (Nat.le_refl _) Y Y X Y Y (fun bz => ?_)
 refine En Y (Ep (aa (ae (ae (ai (Em Y (El (cv Y) (Em Y (Ep ?_)))))))))
 refine aa (au ?_)
 refine cw (σ:=Nat) (fun i => [(0,slT (.agg 2) n φ),(1,slT (.agg 2) n ψ),(2,cl),(7,one (slV (some bz) n n)),(13,one (.int .i64 n)),(14,one (.int .i64 (i:Nat)))])
  (fun i => [aI (some bz) 37 (.agg 2) n n (fun q=>if q<i then χ q else bJ)]) (fun i=>i≤n) (fun i=>n - i) 0 (Nat.zero_le _) Ei (.keep (ee fun q hq=>by rw [if_neg X]; exact jE _) .nil) (fun i hi => ?_)
 refine ae (ai (El (a7 Y Y) (Ep (aa (ae ?_)))))
 refine a5 Y (fun hc => ?_) (fun hc => ?_) <;> simp only [decide_eq_true_eq,decide_eq_false_iff_not,ne_eq,Decidable.not_not] at hc
 ·refine az (aa (ae (au (ae (ai (Em Y (En Y (Ep (aa ?_)))))))))
  refine a8 13 a4 Z S (Em Y (Em Y (Em Y (Em Y (Em Y ?_)))))
  (refine El (aC Y Y ?_) ?_;omega)
  refine El (aM Y) (Em Y (Em Y ?_))
  (refine El (aC Y Y ?_) ?_;omega)
  refine El (aM Y) ?_
  refine El (lg (hC i X) Y Y ⟨H,H,Er⟩) ?_
  (refine El (ao Y Y ?_) ?_;omega)
  refine Ep ?_
  (refine aw 0 Y Y Y ?_ Y ?_;omega)
  refine Ep (aD (aa (ai ?_)))
  (refine El (ci Y Y (aO ?_ ?_)) ?_;omega;omega)
  refine Em Y (Ep ?_)
  refine bO (s:=i) (i+1) (show _ from by omega) (by show n - (i+1)<n - i;omega) Ei (.keep (bg fun q hq => ?_) .nil)
  unfold upd
  by_cases h:q=i
  ·subst h;rw [if_pos Y,if_pos X]
  ·rw [if_neg h]
   have e:q<i+1↔q<i:=by omega
   simp only [e]
 ·have hk:i=n:=by omega
  subst hk
  refine aX (av (av (aE (aa (ae (ai (Em Y (En Y (Ep ?_)))))))))
  refine aa (aF (cq (t:=6) (i:=0) Y Y ?_))
  refine aV Tryz.results153 (.tmp Y (dZ fun q hq => ?_))
  rw [if_pos hq]; exact VT.le_refl _
theorem yT (n:Nat) (φ ψ χ:Nat→VT) [hF : ∀ i,Flat (χ i) .one] (cl:VT) (hn:n≤1048576) (hC : ∀ i,i<n→fo Tryz.prog cl [φ i, ψ i] (χ i)):Ok Tryz.prog 158 [slT .one n φ,slT .one n ψ,cl] (slT .one n χ):=by
 refine Ok.enter Tryz.func158 Y Tryz.ntmps158 Y (fun w O => ?_)
 refine ae (ai (En Y (Ep (aa (ae (ai (Em Y (El (aW Y) ?_))))))))
 refine bV n n Y Y Y Y (Nat.le_refl _) Y Y X Y Y (fun bz => ?_)
 refine En Y (Ep (aa (ae (ae (ai (Em Y (El (cv Y) (Em Y (Ep ?_)))))))))
 refine aa (au ?_)
 refine cw (σ:=Nat) (fun i => [(0,slT .one n φ),(1,slT .one n ψ),(2,cl),(7,one (slV (some bz) n n)),(13,one (.int .i64 n)),(14,one (.int .i64 (i:Nat)))])
  (fun i => [aI (some bz) 32 .one n n (fun q=>if q<i then χ q else bJ)]) (fun i=>i≤n) (fun i=>n - i) 0 (Nat.zero_le _) Ei (.keep (ee fun q hq=>by rw [if_neg X]; exact jE _) .nil) (fun i hi => ?_)
 refine ae (ai (El (a7 Y Y) (Ep (aa (ae ?_)))))
 refine a5 Y (fun hc => ?_) (fun hc => ?_) <;> simp only [decide_eq_true_eq,decide_eq_false_iff_not,ne_eq,Decidable.not_not] at hc
 ·refine az (aa (ae (au (ae (ai (Em Y (En Y (Ep (aa ?_)))))))))
  refine a8 13 a4 Z S (Em Y (Em Y (Em Y (Em Y (Em Y ?_)))))
  (refine El (aC Y Y ?_) ?_;omega)
  refine El (aM Y) (Em Y (Em Y ?_))
  (refine El (aC Y Y ?_) ?_;omega)
  refine El (aM Y) ?_
  refine El (lg (hC i X) Y Y ⟨H,H,Er⟩) ?_
  (refine El (ao Y Y ?_) ?_;omega)
  refine Ep ?_
  (refine aw 0 Y Y Y ?_ Y ?_;omega)
  refine Ep (aD (aa (ai ?_)))
  (refine El (ci Y Y (aO ?_ ?_)) ?_;omega;omega)
  refine Em Y (Ep ?_)
  refine bO (s:=i) (i+1) (show _ from by omega) (by show n - (i+1)<n - i;omega) Ei (.keep (bg fun q hq => ?_) .nil)
  unfold upd
  by_cases h:q=i
  ·subst h;rw [if_pos Y,if_pos X]
  ·rw [if_neg h]
   have e:q<i+1↔q<i:=by omega
   simp only [e]
 ·have hk:i=n:=by omega
  subst hk
  refine aX (av (av (aE (aa (ae (ai (Em Y (En Y (Ep ?_)))))))))
  refine aa (aF (cq (t:=6) (i:=0) Y Y ?_))
  refine aV Tryz.results158 (.tmp Y (dZ fun q hq => ?_))
  rw [if_pos hq]; exact VT.le_refl _
end Tor
end
section
namespace Tor
open Go Go.RowKit Go.Proofs
def bh:Nat→(Nat→Int)→Int
 | 0, _ => 0
 | n + 1, f => bh n f + f n
theorem c7 {n:Nat} {f g:Nat→Int} (h : ∀ i,i<n→f i=g i):bh n f=bh n g:=by
 induction n with
 | zero => rfl
 | succ n ih => rw [bh, bh, ih (fun i hi => h i X), h n X]
theorem uc {n B:Nat} {f:Nat→Int} (h : ∀ i,(f i).natAbs≤B):(bh n f).natAbs≤n*B:=by
 induction n with
 | zero => simp [bh]
 | succ n ih =>
  rw [bh,Nat.succ_mul]
  have:=h n
  omega
theorem mA {n:Nat} {f:Nat→Int} (hn:n≤1048576) (h : ∀ i,(f i).natAbs≤2^800):bm (bh n f) :=
 cA (uc h) (Nat.lt_of_le_of_lt (Nat.mul_le_mul_right _ hn) U)
def kL (n:Nat) (F G:Nat→Nat→Int):Nat→Nat→Int:=fun i j=>bh n (fun k=>F i k*G k j)
theorem kd {n:Nat} {f:Nat→Int} : bh (n+1) f=bh n f+f n:=rfl
attribute [local irreducible] J PJ aJ one slT bQ bC bv exT bZ eP aP aI slV VT.le Ret bJ
attribute [local irreducible] aL
theorem wM (r c:Nat) (v:Nat→Int) (G:Nat→Nat→Int) (hr:r≤1048576) (hc0:c≤1048576) (hv : ∀ i,kH (v i)) (hG : ∀ i j,kH (G i j)) :
  Ok Tryz.prog 143 [bA r v,bP r c G] (bA c (fun j=>bh r (fun k=>v k*G k j))):=by
 unfold bA bP
 refine Ok.enter Tryz.func143 Y Tryz.ntmps143 Y (fun w O => ?_)
 refine ae (ai ?_)
 refine aS Y Y (ltN Y) (fun b => ?_)
 refine En Y (Ep (aa (ae (ai (El (aj Y) (El (ak 0 Y Y Y) ?_))))))
 refine bV c c Y Y Y Y (Nat.le_refl _) Y Y X Y Y (fun bz => ?_)
 refine En Y (Ep (aa (ae (ae (ai (Em Y (El (aW Y) (Em Y (Ep ?_)))))))))
 refine aa (au ?_)
 refine cw (σ:=Nat) (fun i => [(3,one (.pointer (some ⟨b,0,none⟩))),(5,one (slV (some bz) c c)),(13,slT (.agg 2) r (fun j=>aL (v j))),(14,one (.int .i64 r)),(15,one (.int .i64 (i:Nat)))])
  (fun i => [aI (some bz) 37 (.agg 2) c c (fun q=>aL (bh i (fun k=>v k*G k q))),aP b 30 3 [(0, .one,one (.int .i64 r)),(1, .one,one (.int .i64 c)),(2, .one,slT .one r (fun i=>bA c (G i)))]])
  (fun i=>i≤r) (fun i=>r - i) 0 (Nat.zero_le _) Ei (.keep (ee fun q hq=>iT) (SubM.refl _)) (fun i hi => ?_)
 unfold bA
 refine ae (ai (El (a7 Y Y) (Ep (aa (ae ?_)))))
 refine a5 Y (fun hc => ?_) (fun hc => ?_) <;> simp only [decide_eq_true_eq,decide_eq_false_iff_not,ne_eq,Decidable.not_not] at hc
 ·refine az (aa (ae (au (ae (ai (Em Y ?_))))))
  (refine El (aC Y Y ?_) ?_;omega)
  refine El (aM Y) ?_
  refine aG (T:=37) Y (ltN Y) (fun b => ?_)
  refine En Y (aA 0 Y Y Y Y Y (leN Y) Y (Ep (aa (ae (ae (ai (El (ak 0 Y Y Y) ?_)))))))
  rename_i ba
  refine El (am (dc (v i)) Y ⟨H,Er⟩) ?_
  refine El (cm Y Y) (Ep (aa ?_))
  refine a5 Y (fun hc2 => ?_) (fun hc2 => ?_) <;> simp only [decide_eq_true_eq,decide_eq_false_iff_not,eF] at hc2
  ·refine aX (av (aE (aa (ai ?_))))
   (refine El (ci Y Y (aO ?_ ?_)) ?_;omega;omega)
   refine Em Y (Ep ?_)
   refine bO (s:=i) (i+1) (show _ from by omega) (by show r - (i+1)<r - i;omega) Ei (.drop (.keep (bg fun q hq => ?_) (SubM.refl _)))
   rw [kd,hc2]; simp
  ·refine az (aa (ae (ai (El (aj Y) (El (ak 2 Y Y Y) (Em Y ?_))))))
   (refine El (aC Y Y ?_) ?_;omega)
   refine El (aM Y) (El (aW Y) (Em Y (Ep (aa (au ?_)))))
   refine cw (σ:=Nat) (fun j => [(3,one (.pointer (some ⟨ba,0,none⟩))),(5,one (slV (some bz) c c)),(6,one (.int .i64 (i:Nat))),(7,one (.pointer (some ⟨b,0,none⟩))),(13,slT (.agg 2) r (fun j=>aL (v j))),(14,one (.int .i64 r)),(15,one (.int .i64 (i:Nat))),(27,slT (.agg 2) c (fun j=>aL (G i j))),(28,one (.int .i64 c)),(29,one (.int .i64 (j:Nat)))])
    (fun j => [aP b 37 2 [(0, .agg 2,aL (v i))],aI (some bz) 37 (.agg 2) c c (fun q=>aL (if q<j then bh (i+1) (fun k=>v k*G k q) else bh i (fun k=>v k*G k q))),aP ba 30 3 [(0, .one,one (.int .i64 r)),(1, .one,one (.int .i64 c)),(2, .one,slT .one r (fun i=>slT (.agg 2) c (fun j=>aL (G i j))))]])
    (fun j=>j≤c) (fun j=>c - j) 0 (Nat.zero_le _) Ei (.keep Ek (.keep (bg fun q hq=>by rw [if_neg X]) (SubM.refl _))) (fun j hj => ?_)
   refine ae (ai (El (a7 Y Y) (Ep (aa (ae ?_)))))
   refine a5 Y (fun hc3 => ?_) (fun hc3 => ?_) <;> simp only [decide_eq_true_eq,decide_eq_false_iff_not,Int.ofNat_lt] at hc3
   ·refine az (aa (ae (au (ae (ai (Em Y ?_))))))
    (refine El (aC Y Y ?_) ?_;omega)
    refine El (aM Y) ?_
    refine aG (T:=37) Y (ltN Y) (fun b => ?_)
    refine En Y (aA 0 Y Y Y Y Y (leN Y) Y (Ep (aa (ae (ai (El (ak 0 Y Y Y) ?_))))))
    refine El (am (dc (G i j)) Y ⟨H,Er⟩) ?_
    refine El (dy Y Y) (Ep (aa ?_))
    refine a5 Y (fun hc4 => ?_) (fun hc4 => ?_) <;> simp only [decide_eq_true_eq,decide_eq_false_iff_not,ne_eq,Decidable.not_not,eF] at hc4
    ·skip
     refine a8 11 a4 Z S (Em Y (Em Y (Em Y (Em Y ?_))))
     (refine El (ao Y Y ?_) ?_;omega)
     (refine El (be 2 Y Y ?_) ?_;omega)
     refine El (ak 1 Y Y Y) (El (ak 0 Y Y Y) ?_)
     refine El (am (eY (v i) (G i j) (fP (hv i)) (fP (hG i j))) Y ⟨H,H,Er⟩) ?_
     rw [if_neg (Nat.lt_irrefl j)]
     refine El (am (j7 (bh i (fun k=>v k*G k j)) (v i*G i j) (mA X (fun k=>iO (hv k) (hG k j))) (cA (iO (hv i) (hG i j)) U)) Y ⟨H,H,Er⟩) ?_
     (refine El (ao Y Y ?_) ?_;omega)
     refine Ep ?_
     (refine aw 2 Y Y Y ?_ Y ?_;omega)
     refine Ep (aD (aa (ai ?_)))
     (refine El (ci Y Y (aO ?_ ?_)) ?_;omega;omega)
     refine Em Y (Ep ?_)
     refine bO (s:=j) (j+1) (show _ from by omega) (by show c - (j+1)<c - j;omega) Ei (.drop (.keep Ek (.keep (bg fun q hq => ?_) (SubM.refl _))))
     unfold upd
     by_cases h:q=j
     ·subst h;rw [if_pos Y,if_pos X]; rfl
     ·rw [if_neg h]
      have e:q<j+1↔q<j:=by omega
      simp only [e]
    ·refine az (aD (aa (ai ?_)))
     (refine El (ci Y Y (aO ?_ ?_)) ?_;omega;omega)
     refine Em Y (Ep ?_)
     refine bO (s:=j) (j+1) (show _ from by omega) (by show c - (j+1)<c - j;omega) Ei (.drop (.keep Ek (.keep (bg fun q hq => ?_) (SubM.refl _))))
     by_cases h:q=j
     ·subst h;rw [if_neg (Nat.lt_irrefl _),if_pos X,kd,hc4]; simp
     ·have e:q<j+1↔q<j:=by omega
      simp only [e]
   ·refine aX (av (av (aE (aD (aa (ai ?_))))))
    (refine El (ci Y Y (aO ?_ ?_)) ?_;omega;omega)
    refine Em Y (Ep ?_)
    refine bO (s:=i) (i+1) (show _ from by omega) (by show r - (i+1)<r - i;omega) Ei (.drop (.keep (bg fun q hq => ?_) (SubM.refl _)))
    rw [if_pos X]
 ·have hk:i=r:=by omega
  subst hk
  refine aX (av (av (aE (aa (ae (ai (Em Y (En Y (Ep ?_)))))))))
  refine aa (aF (cq (t:=4) (i:=0) Y Y ?_))
  exact aV Tryz.results143 (.tmp Y H)
end Tor
end
section
namespace Tor
open Go Go.RowKit Go.Proofs
instance:Idle Tryz.prog 179:=Idle.of Tryz.func179 Y Tryz.ntmps179 Tryz.results179
instance:Idle Tryz.prog 142:=Idle.of Tryz.func142 Y Tryz.ntmps142 Tryz.results142
def DI (ok:Bool) (e:Int) (n:Nat) (f:Nat→Int):VT:=bv [bA (if ok then n else 0) f,one (.int .i64 (if ok then 0 else e))]
attribute [local irreducible] J PJ aJ one slT bQ bC bv exT bZ eP aP aI slV VT.le Ret bJ
attribute [local irreducible] dD
theorem CS (r c:Nat) (hr:r≤1048576) (hc0:c≤1048576):OkM Tryz.prog 159 [one (.int .i64 r),one (.int .i64 c)] (mz r c) (fun s => [gB s.1.2.1 s.1.2.2 r c s.1.1,fd c s.1.1 (fun _ _=>0)]):=by
 refine OkM.enterD Tryz.func159 Y Tryz.ntmps159 Y (fun w O => ?_)
 have e1:max (r:Int) 0=r:=by omega
 have e2:max (c:Int) 0=c:=by omega
 refine ae (ai ?_)
 refine bj (T:=30) Y Y Y (fun b => ?_)
 refine Ep (aa (ae (ai (uY Y (Ep (aa (ae (ai (Em Y ?_)))))))))
 refine El (ph Y Y) (Em Y (El (ph Y Y) (En Y (En Y (Ep (aa (ae (ai (Em Y ?_)))))))))
 rw [e1,e2]
 refine bV r r Y Y Y Y (Nat.le_refl _) Y Y X Y Y (fun bo => ?_)
 refine En Y (Ep (aa (ae (ae (ai (Em Y (El (cv Y) (Em Y (Ep ?_)))))))))
 refine aa (au ?_)
 refine gn (ConvM.rows0 (T:=37) (L := .agg 2) (c:=c) (φ:=fun _ _=>aL 0) _) ?_
 refine cw (σ:=List Nat) (fun s => [(0,one (.int .i64 r)),(1,one (.int .i64 c)),(4,one (.pointer (some ⟨b,0,none⟩))),(5,one (slV (some bo) r r)),(14,one (.int .i64 r)),(15,one (.int .i64 s.length))])
  (fun s => [aI (some bo) 32 .one r r (fun q=>if q<s.length then one (slV (some (s.getD q 0)) c c) else bJ),aP b 30 3 (dk #[Value.int IntKind.i64 0,Value.int IntKind.i64 0,Value.slice none 0 0] [(0,Lay.one),(1,Lay.one),(2,Lay.one)]),fd c s (fun _ _=>0)])
  (fun s=>s.length≤r) (fun s=>r - s.length) [] (Nat.zero_le _) Ei (.keep (ee fun q hq=>by rw [if_neg (by simp)]; exact jE _) (SubM.refl _)) (fun bs hk => ?_)
 refine ae (ai (El (a7 Y Y) (Ep (aa (ae ?_)))))
 refine a5 Y (fun hc => ?_) (fun hc => ?_) <;> simp only [decide_eq_true_eq,decide_eq_false_iff_not,ne_eq,Decidable.not_not] at hc
 ·refine az (aa (ae (au (ae (ai (Em Y (En Y (Ep (aa ?_)))))))))
  refine ai (Em Y (Em Y (Em Y ?_)))
  refine bV c c Y Y Y Y (Nat.le_refl _) Y Y X Y Y (fun bz => ?_)
  (refine El (ao Y Y ?_) ?_;omega)
  (refine aw 1 Y Y Y ?_ Y ?_;omega)
  refine Ep (aD (aa (ai ?_)))
  (refine El (ci Y Y (aO ?_ ?_)) ?_;omega;omega)
  refine Em Y (Ep (fl (ConvM.row (k:=2) Y) (bO (s:=bs) (bs ++ [bz]) (by simp;omega) (by simp;omega) (.cons Y H (.cons Y H (.cons Y H (.cons Y H (.cons Y H (.cons Y (aq (by simp)) .nil)))))) ?_)))
  refine .keep (bg (fun q hq => ?_)) (.keep Ek (.keep (nK fun i j hi hj => ?_) .nil))
  ·unfold upd
   by_cases h:q=bs.length
   ·subst h;simp
   ·rw [if_neg h]
    show (if q<bs.length then one (slV (some (bs.getD q 0)) c c) else bJ)=_
    by_cases h2:q<bs.length
    ·rw [if_pos h2,if_pos (by simp;omega)]; simp [List.getElem?_append_left h2]
    ·rw [if_neg h2,if_neg (by simp;omega)]
  ·simp only
   split
   ·exact VT.le_refl _
   ·exact iT
 ·have hlen:bs.length=r:=by omega
  subst hlen
  refine aX (av (av (aE (aa (ae (ai (Em Y (Em Y (Em Y ?_)))))))))
  refine stB Y Y Y (BuildK.cons Y Y Y (BuildK.cons Y Y Y (BuildK.cons Y Y Y (BuildK.nil (aY 1 Y Y Y Y (Ep (aa (aF ?_))))))))
  refine qp (ks ⟨(bs,some bo,bs.length),rfl,fun h=>by cases h⟩ Tryz.results159 (.cellW 1 Y Y H) ?_)
  refine .keep (bg fun q hq => ?_) (.drop (SubM.refl _))
  rw [if_pos hq]
attribute [local irreducible] aL
theorem sK (n:Nat) (hn:n≤1048576):Ok Tryz.prog 137 [one (.int .i64 n)] (bP n n (fun i j=>if i=j then 1 else 0)):=by
 refine Ok.enter Tryz.func137 Y Tryz.ntmps137 Y (fun w O => ?_)
 refine ae (ai ?_)
 refine bj (T:=30) Y Y Y (fun b => ?_)
 refine Ep (aa (ae (ai (Em Y (Em Y ?_)))))
 refine fU (CS n n hn hn) Y ⟨H,H,Er⟩ Y Y (fun s => ?_)
 obtain ⟨⟨bs,sv1,cap1⟩,hlen,hsv⟩:=s
 simp only at hlen hsv
 unfold mz
 refine bj (T:=30) Y Y Y (fun b => ?_)
 refine aY 0 Y Y Y Y (Ep (aa (ae (ae (ai (El (aj Y) (El (ak 0 Y Y Y) (El (cv Y) (Em Y ?_)))))))))
 refine Ep (aa (au ?_))
 rename_i b2
 refine cw (σ:=Nat) (fun i => [(2,one (.pointer (some ⟨b2,0,none⟩))),(3,one (.pointer (some ⟨b,0,none⟩))),(10,one (.int .i64 n)),(11,one (.int .i64 (i:Nat)))])
  (fun i => [aP b 30 3 [(0, .one,one (.int .i64 n)),(1, .one,one (.int .i64 n)),(2, .one,one (slV sv1 n cap1))],gB sv1 cap1 n n bs,fd n bs (fun q k=>if q<i then (if q=k then 1 else 0) else 0),
   aP b2 30 3 (dk #[Value.int IntKind.i64 0,Value.int IntKind.i64 0,Value.slice none 0 0] [(0,Lay.one),(1,Lay.one),(2,Lay.one)])])
  (fun i=>i≤n) (fun i=>n - i) 0 (Nat.zero_le _) Ei (.keep Ek (.keep Ek (.keep (fY fun i j hi hj=>by simp) (SubM.refl _)))) (fun i hi => ?_)
 refine ae (ai (El (a7 Y Y) (Ep (aa (ae ?_)))))
 refine a5 Y (fun hc => ?_) (fun hc => ?_) <;> simp only [decide_eq_true_eq,decide_eq_false_iff_not,ne_eq,Decidable.not_not] at hc
 ·obtain ⟨bo,rfl⟩:=fZ hsv X
  refine az (aa (ae (au (ae (ai (Em Y (En Y (Ep (aa ?_)))))))))
  refine a8 8 a4 Z S (El (aj Y) (El (ak 0 Y Y Y) (Em Y ?_)))
  (refine El (ao Y Y ?_) ?_;omega)
  (refine El (be 1 Y Y ?_) ?_;omega)
  refine Em Y ?_
  refine El (am (jm 1 S S) Y ⟨H,Er⟩) ?_
  (refine El (ao Y Y ?_) ?_;omega)
  refine Ep ?_
  (refine iI 2 Y Y Y (sD ?_) ?_ Y ?_;omega;omega)
  refine Ep (aD (aa (ai ?_)))
  (refine El (ci Y Y (aO ?_ ?_)) ?_;omega;omega)
  refine Em Y (Ep ?_)
  refine bO (s:=i) (i+1) (show _ from by omega) X Ei (.keep Ek (.keep Ek (.keep (jy fun q k hq hk => ?_) (SubM.refl _))))
  unfold ld
  by_cases h:q=i
  ·subst h
   by_cases h2:k=q
   ·subst h2;simp
   ·have h3 : ¬ q=k:=fun e=>h2 e.symm
    simp [h2,h3]
  ·have h3:q<i+1↔q<i:=by omega
   simp [h,h3]
 ·have hin:i=n:=by omega
  subst hin
  refine aX (av (av (aE (aa (ae (ai (El (aQ 0 Y Y) (aY 3 Y Y Y Y (Ep ?_)))))))))
  refine aa (aF ?_)
  have hperm : ∀ (x y z u:Own), [x,y,z,u].Perm ([y,z] ++ [x,u]):=fun x y z u=>(List.Perm.swap y x _).trans (List.Perm.cons y (List.Perm.swap z x _))
  refine fV [gB sv1 cap1 i i bs,fd i bs (fun q k=>if q<i then (if q=k then 1 else 0) else 0)] (hperm _ _ _ _) (.keep (wd.refl _) (.keep (wd.box (gF hlen ⟨by simp,by simp,by simp⟩)) .nil)) (we.refl _) ?_
  refine aV Tryz.results137 (.cellW 1 Y Y ?_)
  exact lW fun a b ha hb=>by simp [ha]
theorem yU (n:Nat) (v:Nat→Int) (r c:Nat) (G:Nat→Nat→Int) (hr:r≤1048576) (hc0:c≤1048576) (hv : ∀ i,kH (v i)) (hG : ∀ i j,kH (G i j)) :
  Ok Tryz.prog 94 [bA n v,bP r c G] (DI (decide (n=r)) 50 c (fun j=>bh r (fun k=>v k*G k j))):=by
 unfold DI
 refine Ok.enterD Tryz.func94 Y Tryz.ntmps94 Y (fun w O => ?_)
 refine iy (t:=0) Y (fun _ _=>eE) (fun hb => ?_)
 unfold bP
 refine ae (ai ?_)
 refine aS Y Y (ltN Y) (fun b => ?_)
 refine En Y (En Y (Ep (aa (ae (ai (uY Y (Ep (aa (ae ?_)))))))))
 refine ae (ai (El (aQ 0 Y Y) ?_))
 refine El (am (fz r c G) Y ⟨H,Er⟩) ?_
 unfold bA
 refine El (cR Y) (Em Y (Eo (ab Y) (Eo (aW Y) (Eo (aj Y) (Eo (ak 0 Y Y Y) (Eo (dy Y Y) (El (bE Y Y) (Ep (aa ?_)))))))))
 refine a5 Y (fun hc => ?_) (fun hc => ?_) <;> simp only [decide_eq_true_eq,decide_eq_false_iff_not,ne_eq,Decidable.not_not] at hc
 ·have hne : ¬ n=r:=by omega
  refine ae (ai (En Y (En Y (Ep (aa (aF (aU ?_)))))))
  refine qp (cT Tryz.results94 (.tmp Y ?_) (.tmp Y (aq ?_)))
  ·rw [decide_eq_false hne]; exact eX
  ·rw [decide_eq_false hne]; rfl
 ·have he:n=r:=by omega
  subst he
  refine az (aa (ae (ai (Em Y (El (aQ 0 Y Y) ?_)))))
  refine El (am (wM n c v G hr hc0 hv hG) Y ⟨H,H,Er⟩) ?_
  refine En Y (En Y (Ep (aa (aF ?_))))
  refine qp (cT Tryz.results94 (.tmp Y ?_) (.tmp Y (aq ?_)))
  ·simp only [decide_true]; exact VT.le_refl _
  ·simp
end Tor
end
section
namespace Tor
open Go Go.RowKit Go.Proofs
def jI (ok:Bool) (e:Int) (r c:Nat) (F:Nat→Nat→Int):VT:=bv [bP (if ok then r else 0) (if ok then c else 0) F,one (.int .i64 (if ok then 0 else e))]
theorem jJ (F:Nat→Nat→Int):VT.le (bC 3 (dk #[Value.int IntKind.i64 0,Value.int IntKind.i64 0,Value.slice none 0 0] [(0,Lay.one),(1,Lay.one),(2,Lay.one)])) (bP 0 0 F):=by
 unfold bP
 refine eW (fun q hq => ?_)
 rcases List.mem_cons.1 hq with rfl | hq
 ·exact ⟨_,List.mem_cons_self,H⟩
 rcases List.mem_cons.1 hq with rfl | hq
 ·exact ⟨_,List.mem_cons_of_mem _ List.mem_cons_self,H⟩
 rcases List.mem_cons.1 hq with rfl | hq
 ·exact ⟨_,List.mem_cons_of_mem _ (List.mem_cons_of_mem _ List.mem_cons_self),eX⟩
 ·cases hq
theorem ke:VT.le (bC 2 (dk #[Value.bool false,Value.slice none 0 0] [(0,Lay.one),(1,Lay.one)])) (aL 0):=by
 unfold aL
 refine eW (fun q hq => ?_)
 rcases List.mem_cons.1 hq with rfl | hq
 ·exact ⟨_,List.mem_cons_self,H⟩
 rcases List.mem_cons.1 hq with rfl | hq
 ·exact ⟨_,List.mem_cons_of_mem _ List.mem_cons_self,eX⟩
 ·cases hq
attribute [local irreducible] J PJ aJ one slT bQ bC bv exT bZ eP aP aI slV VT.le Ret bJ
attribute [local irreducible] aL
theorem CT (n m:Nat) (f g:Nat→Int) (hn:n≤1048576) (hm:m≤1048576) (hf : ∀ i,kH (f i)) (hg : ∀ i,kH (g i)) :
  Ok Tryz.prog 130 [bA n f,bA m g] (bv [aL (if n=m then bh n (fun k=>f k*g k) else 0),one (.int .i64 (if n=m then 0 else 50))]):=by
 unfold bA
 refine Ok.enter Tryz.func130 Y Tryz.ntmps130 Y (fun w O => ?_)
 refine ae (ai ?_)
 refine aG (T:=37) Y (ltN Y) (fun b => ?_)
 refine En Y (Ep (aa (ae (ae (ai (Em Y (El (aW Y) (Em Y (El (aW Y) ?_)))))))))
 refine El (dy Y Y) (Ep (aa ?_))
 refine a5 Y (fun hc => ?_) (fun hc => ?_) <;> simp only [decide_eq_true_eq,decide_eq_false_iff_not,ne_eq,Decidable.not_not] at hc
 ·have hne : ¬ n=m:=by omega
  refine ae (ai (stB Y Y Y (BuildK.nil (aA 0 Y Y Y Y Y (leN Y) Y (En Y (Ep (aa (aF (aU ?_)))))))))
  refine cT Tryz.results130 (.cellB 0 Y Y Y ?_) (.tmp Y (aq ?_))
  ·rw [if_neg hne]; exact ke
  ·rw [if_neg hne]
 ·have he:n=m:=by omega
  subst he
  refine az (aa (ae (ai ?_)))
  refine aG (T:=37) Y (ltN Y) (fun b => ?_)
  refine Ep (aa (ae (ae (ai (Em Y (Em Y ?_))))))
  rename_i b4
  refine El (am (yS n (fun j=>aL (f j)) (fun j=>aL (g j)) (fun j=>aL (f j*g j)) (one (.func (.func 54) #[] #[])) hn (fun i hi=>fo.fn (eY _ _ (fP (hf i)) (fP (hg i))))) Y ⟨H,H,H,Er⟩) ?_
  refine El (aW Y) (Em Y (Ep (aa (au ?_))))
  refine cw (σ:=Nat) (fun i => [(4,one (.pointer (some ⟨b4,0,none⟩))),(6,one (.pointer (some ⟨b,0,none⟩))),(17,slT (.agg 2) n (fun j=>aL (f j*g j))),(18,one (.int .i64 n)),(19,one (.int .i64 (i:Nat)))])
   (fun i => [aP b 37 2 [(0, .agg 2,aL (bh i (fun k=>f k*g k)))],aP b4 37 2 [(0, .agg 2,one (.agg #[.bool false, .slice none 0 0]))]])
   (fun i=>i≤n) (fun i=>n - i) 0 (Nat.zero_le _) Ei (.keep (qj fun q hq=>by rcases List.mem_cons.1 hq with rfl | hq;exact ⟨_,List.mem_cons_self,iT⟩;cases hq) (SubM.refl _)) (fun i hi => ?_)
  refine ae (ai (El (a7 Y Y) (Ep (aa (ae ?_)))))
  refine a5 Y (fun hc => ?_) (fun hc => ?_) <;> simp only [decide_eq_true_eq,decide_eq_false_iff_not,Int.ofNat_lt] at hc
  ·refine az (aa (ae (au (ae (ai ?_)))))
   (refine El (aC Y Y ?_) ?_;omega)
   refine El (aM Y) ?_
   refine aG (T:=37) Y (ltN Y) (fun b => ?_)
   refine aA 0 Y Y Y Y Y (leN Y) Y (Ep (aa (ai (El (ak 1 Y Y Y) (El (ak 0 Y Y Y) ?_)))))
   refine El (am (j7 (bh i (fun k=>f k*g k)) (f i*g i) (mA X (fun k=>iO (hf k) (hg k))) (cA (iO (hf i) (hg i)) U)) Y ⟨H,H,Er⟩) ?_
   refine aA 1 Y Y Y Y Y (leN Y) Y (Ep (aD (aa (ai ?_))))
   (refine El (ci Y Y (aO ?_ ?_)) ?_;omega;omega)
   refine Em Y (Ep ?_)
   exact bO (s:=i) (i+1) (show _ from by omega) (by show n - (i+1)<n - i;omega) Ei (.drop (.keep Ek (SubM.refl _)))
  ·have hin:i=n:=by omega
   subst hin
   refine aX (av (av (aE (aa (ae (ai (El (ak 0 Y Y Y) (aA 1 Y Y Y Y Y (leN Y) Y (En Y ?_)))))))))
   refine Ep (aa (aF ?_))
   refine cT Tryz.results130 (.cellB 1 Y Y Y ?_) (.tmp Y (aq ?_))
   ·rw [if_pos Y]; exact VT.le_refl _
   ·rw [if_pos Y]
theorem wN (ra ca:Nat) (F:Nat→Nat→Int) (rb cb:Nat) (G:Nat→Nat→Int) (h1:ra≤1048576) (h2:ca≤1048576) (h4:cb≤1048576) (hF : ∀ i j,bm (F i j)) (hG : ∀ i j,bm (G i j)) :
  Ok Tryz.prog 136 [bP ra ca F,bP rb cb G] (jI (decide (ra=rb)) 50 ra (ca+cb) (fun i k=>if k<ca then F i k else G i (k - ca))):=by
 unfold jI
 refine Ok.enter Tryz.func136 Y Tryz.ntmps136 Y (fun w O => ?_)
 have hI : ∀ (φ:VT), φ=φ:=fun _=>rfl
 unfold bP
 refine ae (ai ?_)
 refine aS Y Y (ltN Y) (fun b => ?_)
 refine aS Y Y (ltN Y) (fun b => ?_)
 refine bj (T:=30) Y Y Y (fun b => ?_)
 refine En Y (Ep (aa (ae (ae (ai (El (aQ 2 Y Y) (El (aQ 1 Y Y) (stS Y Y Y Y (PartsK.cons Y ?_)))))))))
 refine PartsK.cons Y (PartsK.nil ?_)
 refine El (am (pP ra ca F rb cb G) Y ⟨sJ,Er⟩) ?_
 refine El (cR Y) (Em Y (Eo (aj Y) (Eo (ak 2 Y Y Y) (Eo (aj Y) (Eo (ak 1 Y Y Y) (Eo (dy Y Y) (El (bE Y Y) (Ep (aa ?_)))))))))
 refine a5 Y (fun hc => ?_) (fun hc => ?_) <;> simp only [decide_eq_true_eq,decide_eq_false_iff_not,ne_eq,Decidable.not_not] at hc
 ·have hne : ¬ ra=rb:=by omega
  refine ae (ai (stB Y Y Y (BuildK.nil (aY 0 Y Y Y Y (En Y (Ep (aa (aF (aU ?_)))))))))
  refine cT Tryz.results136 (.cellW 0 Y Y ?_) (.tmp Y (aq ?_))
  ·rw [decide_eq_false hne]; exact jJ _
  ·rw [decide_eq_false hne]; rfl
 ·have he:ra=rb:=by omega
  subst he
  refine az (aa (ae (a8 13 a4 Z S (El (aj Y) (El (ak 2 Y Y Y) (El (aj Y) (El (ak 2 Y Y Y) (El (aj Y) (El (ak 1 Y Y Y) ?_)))))))))
  (refine El (ci Y Y (aO ?_ ?_)) ?_;omega;omega)
  refine El (aj Y) (El (ak 2 Y Y Y) (El (aj Y) (El (ak 1 Y Y Y) ?_)))
  refine El (am (yT ra (fun i=>bA ca (F i)) (fun i=>bA cb (G i)) (fun i=>bA (ca+cb) (fun k=>if k<ca then F i k else G i (k - ca))) (hF:=fun i=>by unfold bA;infer_instance) (one (.func (.func 83) #[] #[])) h1 (fun i hi=>fo.fn (pQ ca cb (F i) (G i) h2 h4 (hF i) (hG i)))) Y ⟨H,H,H,Er⟩) ?_
  refine stB Y Y Y (BuildK.cons Y Y Y (BuildK.cons Y Y Y (BuildK.cons Y Y Y (BuildK.nil (Ep (aY 0 Y Y Y Y (En Y (Ep (aa ?_)))))))))
  refine aF ?_
  refine cT Tryz.results136 (.cellW 0 Y Y ?_) (.tmp Y (aq ?_))
  ·simp only [decide_true,if_true]
   exact VT.le_refl _
  ·simp
end Tor
end
section
namespace Tor
open Go Go.RowKit Go.Proofs
def ei (F:Nat→Nat→Int) (i j:Nat):Nat→Nat→Int:=fun q k=>if q<i∨(q=i∧k<j) then F q k else 0
theorem pR {T:TypeId} {c:Nat} {bs:List Nat} {F:Nat→Nat→Int} {i j:Nat} (x:Int) (hx:x=F i j) :
  Own.le (dD T (.agg 2) c bs (ld (fun q k=>aL (ei F i j q k)) i j (aL x))) (dD T (.agg 2) c bs (fun q k=>aL (ei F i (j+1) q k))):=by
 subst hx
 refine jy fun q k hq hk => ?_
 unfold ld ei
 by_cases h:q=i∧k=j
 ·obtain ⟨rfl,rfl⟩:=h;simp
 ·rw [if_neg h]
  have e:(q<i∨q=i∧k<j+1)↔(q<i∨q=i∧k<j):=by omega
  simp only [e]
theorem kM {c:Nat} {bs:List Nat} {F:Nat→Nat→Int} {i:Nat} : Own.le (fd c bs (ei F i c)) (fd c bs (ei F (i+1) 0)):=by
 refine fY fun q k hq hk => ?_
 unfold ei
 have e:(q<i∨q=i∧k<c)↔(q<i+1∨q=i+1∧k<0):=by omega
 simp only [e]
attribute [local irreducible] J PJ aJ one slT bQ bC bv exT bZ eP aP aI slV VT.le Ret bJ
attribute [local irreducible] aL dD
end Tor
end
section
namespace Tor
open Go Go.RowKit Go.Proofs
theorem ConvM.nilSl {T:TypeId} {L:Lay} {φ:Nat→VT} (M:Mem):ConvM M (aI none T L 0 0 φ :: M) :=
 ⟨by simp [aI],fun g h Ef o ho=>by
  rcases List.mem_cons.1 ho with rfl | ho
  ·exact ⟨Nat.le_refl _,by decide,fun _=>rfl,fun b hb=>by cases hb⟩
  ·exact Ef o ho⟩
def kr (ra rb i:Nat):Nat:=if i=0 then 0 else if i=1 then ra else ra+rb
def dx (ra:Nat) (F G:Nat→Nat→Int):Nat→Nat→Int:=fun i k=>if i<ra then F i k else G (i - ra) k
attribute [local irreducible] J PJ aJ one slT bQ bC bv exT bZ eP aP aI slV VT.le Ret bJ
theorem yV (ra ca:Nat) (F:Nat→Nat→Int) (rb cb:Nat) (G:Nat→Nat→Int) (h1:ra≤1048576) (h2:ca≤1048576) (h3:rb≤1048576) (hF : ∀ i j,bm (F i j)) (hG : ∀ i j,bm (G i j)) :
  Ok Tryz.prog 52 [bP ra ca F,bP rb cb G] (jI (decide (ca=cb)) 50 (ra+rb) ca (dx ra F G)):=by
 unfold jI
 refine Ok.enter Tryz.func52 Y Tryz.ntmps52 Y (fun w O => ?_)
 unfold bP
 refine ae (ai ?_)
 refine aS Y Y (ltN Y) (fun b => ?_)
 refine aS Y Y (ltN Y) (fun b => ?_)
 refine bj (T:=30) Y Y Y (fun b => ?_)
 refine En Y (Ep (aa (ae (ae (ai (El (aQ 2 Y Y) (El (aQ 1 Y Y) (stS Y Y Y Y (PartsK.cons Y ?_)))))))))
 refine PartsK.cons Y (PartsK.nil ?_)
 refine El (am (pP ra ca F rb cb G) Y ⟨sJ,Er⟩) ?_
 refine El (cR Y) (Em Y (Eo (aj Y) (Eo (ak 2 Y Y Y) (Eo (aj Y) (Eo (ak 1 Y Y Y) (Eo (dy Y Y) (El (bE Y Y) (Ep (aa ?_)))))))))
 refine a5 Y (fun hc => ?_) (fun hc => ?_) <;> simp only [decide_eq_true_eq,decide_eq_false_iff_not,ne_eq,Decidable.not_not] at hc
 ·have hne : ¬ ca=cb:=by omega
  refine ae (ai (stB Y Y Y (BuildK.nil (aY 0 Y Y Y Y (En Y (Ep (aa (aF (aU ?_)))))))))
  refine cT Tryz.results52 (.cellW 0 Y Y ?_) (.tmp Y (aq ?_))
  ·rw [decide_eq_false hne]; exact jJ _
  ·rw [decide_eq_false hne]; rfl
 ·have he:ca=cb:=by omega
  subst he
  refine az (aa (ae (ai (El (aj Y) (El (ak 2 Y Y Y) (El (aj Y) (El (ak 1 Y Y Y) ?_)))))))
  (refine El (ci Y Y (aO ?_ ?_)) ?_;omega;omega)
  refine El (aj Y) (El (ak 2 Y Y Y) (stB Y Y Y (BuildK.cons Y Y Y (BuildK.cons Y Y Y (BuildK.nil ?_)))))
  refine bj (T:=30) Y Y Y (fun b => ?_)
  refine aY 0 Y Y Y Y (Ep (aa (ae (ae (ai (El (aQ 3 Y Y) (El (aQ 2 Y Y) (stB Y Y Y (BuildK.cons Y Y Y ?_)))))))))
  refine BuildK.cons Y Y Y (BuildK.nil (Em Y (Ep (aa (au ?_)))))
  rename_i b2 b3 b4
  have hlk1 : ∀ i,i<2→eM [(0,Lay.agg 3,bP ra ca F),(3,Lay.agg 3,bP rb ca G)] (i*(Lay.agg 3).sz)=some (.agg 3,bP (if i=0 then ra else rb) ca (if i=0 then F else G)):=fun i hi=>by
   rcases i with _ | _ | i
   ·rfl
   ·rfl
   ·omega
  have hsm1 : ∀ i j k,bm ((if i=0 then F else G) j k):=fun i j k=>by split <;> first | exact hF _ _ | exact hG _ _
  revert b
  intro b6
  refine gn (ConvM.nilSl (T:=32) (L := .one) (φ:=fun q=>bA ca (dx ra F G q)) _) ?_
  refine cw (σ:=Nat × Option Nat × Nat) (fun s => [(4,one (.pointer (some ⟨b4,0,none⟩))),(6,one (.pointer (some ⟨b6,0,none⟩))),(34,bC 6 [(0, .agg 3,bP ra ca F),(3, .agg 3,bP rb ca G)]),(35,one (.int .i64 (s.1:Nat)))])
   (fun s => [aI s.2.1 32 .one s.2.2 (kr ra rb s.1) (fun q=>bA ca (dx ra F G q)),aP b6 30 3 [(0, .one,one (.int .i64 ((ra:Int)+rb))),(1, .one,one (.int .i64 ca)),(2, .one,one (slV s.2.1 (kr ra rb s.1) s.2.2))],
    aP b4 30 3 (dk #[Value.int IntKind.i64 0,Value.int IntKind.i64 0,Value.slice none 0 0] [(0,Lay.one),(1,Lay.one),(2,Lay.one)])])
   (fun s=>s.1≤2) (fun s=>2 - s.1) (0,none,0) (Nat.zero_le _) Ei (.keep Ek (.keep (qj fun q hq => ?_) (.keep Ek (SubM.nilR _)))) (fun s hs => ?_)
  ·rcases List.mem_cons.1 hq with rfl | hq
   ·exact ⟨_,List.mem_cons_self,H⟩
   rcases List.mem_cons.1 hq with rfl | hq
   ·exact ⟨_,List.mem_cons_of_mem _ List.mem_cons_self,H⟩
   rcases List.mem_cons.1 hq with rfl | hq
   ·exact ⟨one (.slice none 0 0),List.mem_cons_of_mem _ (List.mem_cons_of_mem _ List.mem_cons_self),aq (by simp [kr,slV])⟩
   ·cases hq
  obtain ⟨i,sv0,cap0⟩:=s
  simp only at hs ⊢
  refine ae (ai (El (a7 Y Y) (Ep (aa (ae ?_)))))
  refine a5 Y (fun hc => ?_) (fun hc => ?_) <;> simp only [decide_eq_true_eq,decide_eq_false_iff_not] at hc
  ·have hi2:i<2:=by omega
   have hup:kr ra rb i≤2097152∧kr ra rb i+(if i=0 then ra else rb)=kr ra rb (i+1)∧kr ra rb i+(if i=0 then ra else rb)≤2097152:=by
    unfold kr
    rcases i with _ | _ | i
    ·simp;omega
    ·simp;omega
    ·omega
   have hrow : ∀ j,j<(if i=0 then ra else rb)→(if i=0 then F else G) j=dx ra F G (kr ra rb i+j):=fun j hj=>by
    unfold kr dx
    rcases i with _ | _ | i
    ·simp at hj ⊢; funext k;rw [if_pos hj]
    ·simp;funext k;rw [if_neg X]
    ·omega
   have hlk:=hlk1 i hi2
   have hsm:=fun j k=>hsm1 i j k
   generalize (if i=0 then F else G)=Ef at *
   generalize (if i=0 then ra else rb)=R at *
   refine az (aa (ae (au (ae (ai (El (rH Y Y hi2 hlk) ?_))))))
   unfold bP
   refine bj (T:=30) Y Y Y (fun b => ?_)
   refine aY 0 Y Y Y Y (Ep (aa (ae (ai (El (aj Y) (El (ak 0 Y Y Y) (El (aW Y) (Em Y (Ep ?_)))))))))
   refine aa (au ?_)
   refine cw (σ:=Nat × Option Nat × Nat) (fun s => [(4,one (.pointer (some ⟨b4,0,none⟩))),(6,one (.pointer (some ⟨b6,0,none⟩))),(34,bC 6 [(0, .agg 3,bP ra ca F),(3, .agg 3,bP rb ca G)]),(35,one (.int .i64 (i:Nat))),(39,slT .one R (fun q=>bA ca (Ef q))),(40,one (.int .i64 R)),(41,one (.int .i64 (s.1:Nat)))])
    (fun s => [aI s.2.1 32 .one s.2.2 (kr ra rb i+s.1) (fun q=>bA ca (dx ra F G q)),aP b6 30 3 [(0, .one,one (.int .i64 ((ra:Int)+rb))),(1, .one,one (.int .i64 ca)),(2, .one,one (slV s.2.1 (kr ra rb i+s.1) s.2.2))],
     aP b4 30 3 (dk #[Value.int IntKind.i64 0,Value.int IntKind.i64 0,Value.slice none 0 0] [(0,Lay.one),(1,Lay.one),(2,Lay.one)])])
    (fun s=>s.1≤R) (fun s=>R - s.1) (0,sv0,cap0) (Nat.zero_le _) (by unfold bP;repeat (first | exact dJ.nil | refine dJ.cons Y H ?_ | (refine dJ.cons Y (aq ?_) ?_;(congr 1;first | omega | (simp;omega) | simp)))) (.drop (.keep Ek (.keep Ek (SubM.refl _)))) (fun s hs2 => ?_)
   obtain ⟨j,sv1,cap1⟩:=s
   simp only at hs2 ⊢
   refine ae (ai (El (a7 Y Y) (Ep (aa (ae ?_)))))
   refine a5 Y (fun hc2 => ?_) (fun hc2 => ?_) <;> simp only [decide_eq_true_eq,decide_eq_false_iff_not,Int.ofNat_lt] at hc2
   ·refine az (aa (ae (au (ae (ai ?_)))))
    (refine El (aC Y Y ?_) ?_;omega)
    refine El (aM Y) (En Y (Ep (aa (fm 5 a4 Z S (El (aj Y) (El (ak 1 Y Y Y) (Em Y ?_)))))))
    refine El (am (pQ ca 0 (Ef j) (fun _=>0) h2 S (hsm j) (fun _=>dU U)) Y ⟨H,eX,Er⟩) ?_
    have hfl:Flat (bA (ca+0) fun k=>if k<ca then Ef j k else 0) .one:=by unfold bA;infer_instance
    have hfl2 : ∀ q,Flat (bA ca (dx ra F G q)) .one:=fun q=>by unfold bA;infer_instance
    refine gm Y Y Y Y (Ep ?_)
    (refine cW 0 Y Y Y (leN Y) ?_ ?_ Y (ltN Y) (fun sv cap => ?_);omega;omega)
    refine El (aj Y) (aA 1 Y Y Y Y Y (leN Y) Y (Ep (aD (aa (ai ?_)))))
    (refine El (ci Y Y (aO ?_ ?_)) ?_;omega;omega)
    refine Em Y (Ep ?_)
    refine bO (s:=(j,sv1,cap1)) (j+1,sv,cap) (show _ from by simp only;omega) (by show R - (j+1)<R - j;omega) (by unfold bP;repeat (first | exact dJ.nil | refine dJ.cons Y H ?_ | (refine dJ.cons Y (aq ?_) ?_;(congr 1;first | omega | (simp;omega) | simp)))) (.keep (ee fun q hq => ?_) (.keep Ek (SubM.refl _)))
    by_cases h:q<kr ra rb i+j
    ·rw [if_pos h]; exact VT.le_refl _
    ·have e:q=kr ra rb i+j:=by omega
     subst e
     rw [if_neg h, ← hrow j hc2]
     unfold bA
     exact cB (by simp) (fun k hk=>by show aL (if k<ca then Ef j k else 0)=_;rw [if_pos X])
   ·have hj:j=R:=by omega
    subst hj
    refine aX (av (av (aE (aD (aa (ai ?_))))))
    (refine El (ci Y Y (aO ?_ ?_)) ?_;omega;omega)
    refine Em Y (Ep ?_)
    have e:=hup.2.1
    rw [e]
    exact bO (s:=(i,sv0,cap0)) (i+1,sv1,cap1) (show _ from by simp only;omega) (by show 2 - (i+1)<2 - i;omega) (by unfold bP;repeat (first | exact dJ.nil | refine dJ.cons Y H ?_ | (refine dJ.cons Y (aq ?_) ?_;(congr 1;first | omega | (simp;omega) | simp)))) (.keep Ek (.keep Ek (SubM.refl _)))
  ·have hi2:i=2:=by omega
   subst hi2
   refine aX (av (av (aE (aa (ae (ai (El (aQ 1 Y Y) (aY 2 Y Y Y Y (En Y ?_)))))))))
   refine Ep (aa (aF ?_))
   have e2:kr ra rb 2=ra+rb:=by simp [kr]
   rw [e2]
   refine fV [aI sv0 32 .one cap0 (ra+rb) (fun q=>bA ca (dx ra F G q))] (List.Perm.refl _) (.keep (wd.refl _) (.keep (wd.box (cs' := [(0, .one,one (.int .i64 ((ra+rb:Nat):Int))),(1, .one,one (.int .i64 ca)),(2, .one,slT .one (ra+rb) (fun q=>bA ca (dx ra F G q)))])
    (.cons List.mem_cons_self (Ent.le (aq (by simp))) (.cons (List.mem_cons_of_mem _ List.mem_cons_self) (Ent.refl _) (.cons (List.mem_cons_of_mem _ (List.mem_cons_of_mem _ List.mem_cons_self)) (Ent.sl List.mem_cons_self) .nil)))) .nil)) (we.refl _) ?_
   refine cT Tryz.results52 (.cellW 1 Y Y ?_) (.tmp Y (aq ?_))
   ·simp only [decide_true,if_true]
    exact VT.le_refl _
   ·simp
end Tor
end
section
namespace Tor
open Go Go.RowKit Go.Proofs
attribute [local irreducible] J PJ aJ one slT bQ bC bv exT bZ eP aP aI slV VT.le Ret bJ
attribute [local irreducible] aL dD
theorem pS (r c:Nat) (F:Nat→Nat→Int) (k:Int) (hr0:r≤1048576) (hc0:c≤1048576) (hF : ∀ i j,bm (F i j)) (hk:bm k):Ok Tryz.prog 29 [bP r c F,aL k] (bP r c (fun i j=>F i j*k)):=by
 unfold bP
 refine Ok.enter Tryz.func29 Y Tryz.ntmps29 Y (fun w O => ?_)
 refine ae (ai ?_)
 refine aS Y Y (ltN Y) (fun b => ?_)
 refine gL Y Y (ltN Y) (fun b => ?_)
 refine bj (T:=30) Y Y Y (fun b => ?_)
 refine Ep (aa (ae (ai (El (aj Y) (El (ak 2 Y Y Y) (El (aj Y) (El (ak 2 Y Y Y) ?_)))))))
 refine fU (kc r c hr0 hc0) Y ⟨H,H,Er⟩ Y Y (fun s => ?_)
 obtain ⟨⟨bs,sv1,cap1⟩,hlen,hsv⟩:=s
 simp only at hlen hsv
 unfold mz
 refine bj (T:=30) Y Y Y (fun b => ?_)
 refine aY 0 Y Y Y Y (Ep (aa (ae (ae (ai (En Y (Ep (aa (au ?_)))))))))
 rename_i b2 b3 b4
 refine cw (σ:=Nat) (fun i => [(2,one (.pointer (some ⟨b2,0,none⟩))),(3,one (.pointer (some ⟨b3,0,none⟩))),(4,one (.pointer (some ⟨b4,0,none⟩))),(5,one (.pointer (some ⟨b,0,none⟩))),(6,one (.int .i64 (i:Nat)))])
  (fun i => [aP b 30 3 [(0, .one,one (.int .i64 r)),(1, .one,one (.int .i64 c)),(2, .one,one (slV sv1 r cap1))],gB sv1 cap1 r c bs,fd c bs (ei (fun i j=>F i j*k) i 0),
   aP b4 30 3 (dk #[Value.int IntKind.i64 0,Value.int IntKind.i64 0,Value.slice none 0 0] [(0,Lay.one),(1,Lay.one),(2,Lay.one)]),
   aP b3 37 2 [(0, .agg 2,aL k)],
   aP b2 30 3 [(0, .one,one (.int .i64 r)),(1, .one,one (.int .i64 c)),(2, .one,slT .one r (fun i=>bA c (F i)))]])
  (fun i=>i≤r) (fun i=>r - i) 0 (Nat.zero_le _) Ei (.keep Ek (.keep Ek (.keep (fY fun i j hi hj=>by simp [ei]) (SubM.refl _)))) (fun i hi => ?_)
 refine ae (ae (ai (Em Y (El (aj Y) (El (ak 5 Y Y Y) (El (a7 Y Y) (Ep (aa ?_))))))))
 refine a5 Y (fun hc => ?_) (fun hc => ?_) <;> simp only [decide_eq_true_eq,decide_eq_false_iff_not,Int.ofNat_lt] at hc
 ·obtain ⟨bo,rfl⟩:=fZ hsv X
  refine az (aa (ae (au (ae (ai (En Y (Ep (aa (au ?_)))))))))
  refine cw (σ:=Nat) (fun j => [(2,one (.pointer (some ⟨b2,0,none⟩))),(3,one (.pointer (some ⟨b3,0,none⟩))),(4,one (.pointer (some ⟨b4,0,none⟩))),(5,one (.pointer (some ⟨b,0,none⟩))),(6,one (.int .i64 (i:Nat))),(7,one (.int .i64 (j:Nat)))])
   (fun j => [aP b 30 3 [(0, .one,one (.int .i64 r)),(1, .one,one (.int .i64 c)),(2, .one,one (slV (some bo) r cap1))],gB (some bo) cap1 r c bs,fd c bs (ei (fun i j=>F i j*k) i j),
   aP b4 30 3 (dk #[Value.int IntKind.i64 0,Value.int IntKind.i64 0,Value.slice none 0 0] [(0,Lay.one),(1,Lay.one),(2,Lay.one)]),
   aP b3 37 2 [(0, .agg 2,aL k)],
   aP b2 30 3 [(0, .one,one (.int .i64 r)),(1, .one,one (.int .i64 c)),(2, .one,slT .one r (fun i=>bA c (F i)))]])
   (fun j=>j≤c) (fun j=>c - j) 0 (Nat.zero_le _) Ei (SubM.refl _) (fun j hj => ?_)
  refine ae (ae (ai (Em Y (El (aj Y) (El (ak 5 Y Y Y) (El (a7 Y Y) (Ep (aa ?_))))))))
  refine a5 Y (fun hc2 => ?_) (fun hc2 => ?_) <;> simp only [decide_eq_true_eq,decide_eq_false_iff_not,Int.ofNat_lt] at hc2
  ·refine az (aa (ae (au (a8 17 a4 Z S ?_))))
   unfold bA
   refine El (aj Y) (El (ak 0 Y Y Y) (Em Y ?_))
   (refine El (ao Y Y ?_) ?_;omega)
   (refine El (be 1 Y Y ?_) ?_;omega)
   refine Em Y (El (aj Y) (El (ak 5 Y Y Y) (Em Y ?_)))
   (refine El (aC Y Y ?_) ?_;omega)
   refine El (aM Y) (Em Y ?_)
   (refine El (aC Y Y ?_) ?_;omega)
   refine El (aM Y) (El (ak 4 Y Y Y) ?_)
   refine El (am (d6 (F i j) k (hF i j) hk) Y ⟨H,H,Er⟩) ?_
   (refine El (ao Y Y ?_) ?_;omega)
   refine Ep ?_
   (refine iI 2 Y Y Y (sD ?_) ?_ Y ?_;omega;omega)
   refine Ep (aD (aa (ai (Em Y ?_))))
   (refine El (ci Y Y (aO ?_ ?_)) ?_;omega;omega)
   refine En Y (Ep ?_)
   exact bO (s:=j) (j+1) (show _ from by omega) (by show c - (j+1)<c - j;omega) Ei (.keep Ek (.keep Ek (.keep (pR _ Y) (SubM.refl _))))
  ·have hjm:j=c:=by omega
   subst hjm
   refine aX (av (av (aE (aD (aa (ai (Em Y ?_)))))))
   (refine El (ci Y Y (aO ?_ ?_)) ?_;omega;omega)
   refine En Y (Ep ?_)
   exact bO (s:=i) (i+1) (show _ from by omega) (by show r - (i+1)<r - i;omega) Ei (.keep Ek (.keep Ek (.keep kM (SubM.refl _))))
 ·have hin:i=r:=by omega
  subst hin
  refine aX (av (av (aE (aa (ae (ai (El (aQ 0 Y Y) (aY 3 Y Y Y Y (Ep ?_)))))))))
  refine aa (aF ?_)
  have hperm : ∀ (x y z u t s:Own), [x,y,z,u,t,s].Perm ([y,z] ++ [x,u,t,s]):=fun x y z u t s=>(List.Perm.swap y x _).trans (List.Perm.cons y (List.Perm.swap z x _))
  refine fV [gB sv1 cap1 i c bs,fd c bs (ei (fun i j=>F i j*k) i 0)] (hperm _ _ _ _ _ _) (.keep (wd.refl _) (.keep (wd.box (gF hlen ⟨by simp,by simp,by simp⟩)) (.keep (wd.refl _) (.keep (wd.refl _) .nil)))) (we.refl _) ?_
  refine aV Tryz.results29 (.cellW 1 Y Y ?_)
  exact lW fun a b ha hb=>by simp [ei,ha]
end Tor
end
section
namespace Tor
open Go Go.RowKit Go.Proofs
attribute [local irreducible] J PJ aJ one slT bQ bC bv exT bZ eP aP aI slV VT.le Ret bJ
attribute [local irreducible] aL dD
theorem yW (ra ca:Nat) (F:Nat→Nat→Int) (rb cb:Nat) (G:Nat→Nat→Int) (hr0:ra≤1048576) (hc0:ca≤1048576) (hF : ∀ i j,bm (F i j)) (hG : ∀ i j,bm (G i j)) :
  Ok Tryz.prog 33 [bP ra ca F,bP rb cb G] (jI (decide (ra=rb∧ca=cb)) 50 ra ca (fun i j=>F i j+G i j)):=by
 unfold jI bP
 refine Ok.enter Tryz.func33 Y Tryz.ntmps33 Y (fun w O => ?_)
 refine ae (ai ?_)
 refine aS Y Y (ltN Y) (fun b => ?_)
 refine aS Y Y (ltN Y) (fun b => ?_)
 refine bj (T:=30) Y Y Y (fun b => ?_)
 refine En Y (Ep (aa (ae (ae (ai (El (aj Y) (El (ak 2 Y Y Y) (El (aj Y) (El (ak 1 Y Y Y) ?_)))))))))
 refine El (dy Y Y) (Em Y ?_)
 refine m6 (t:=13) Y (fun o1 h1 => ?_)
 rw [h1]
 cases o1
 ·have e1:ra=rb:=by simp at h1;omega
  subst e1
  refine Eo (aj Y) (Eo (ak 2 Y Y Y) (Eo (aj Y) (Eo (ak 1 Y Y Y) (Eo (dy Y Y) (El (bE Y Y) (Ep (aa ?_)))))))
  refine a5 Y (fun hc => ?_) (fun hc => ?_) <;> simp only [decide_eq_true_eq,decide_eq_false_iff_not,ne_eq,Decidable.not_not] at hc
  ·have hne : ¬ (ra=ra∧ca=cb):=by omega
   refine ae (ai (stB Y Y Y (BuildK.nil (aY 0 Y Y Y Y (En Y (Ep (aa (aF (aU ?_)))))))))
   refine cT Tryz.results33 (.cellW 0 Y Y ?_) (.tmp Y (aq ?_))
   ·rw [decide_eq_false hne]; exact jJ _
   ·rw [decide_eq_false hne]; rfl
  ·have e2:ca=cb:=by omega
   subst e2
   refine az (aa (ae (ai (El (aj Y) (El (ak 2 Y Y Y) (El (aj Y) (El (ak 2 Y Y Y) ?_)))))))
   refine fU (kc ra ca hr0 hc0) Y ⟨H,H,Er⟩ Y Y (fun s => ?_)
   obtain ⟨⟨bs,sv1,cap1⟩,hlen,hsv⟩:=s
   simp only at hlen hsv
   unfold mz
   refine bj (T:=30) Y Y Y (fun b => ?_)
   refine aY 0 Y Y Y Y (Ep (aa (ae (ae (ai (En Y (Ep (aa (au ?_)))))))))
   rename_i b2 b3 b4
   refine cw (σ:=Nat) (fun i => [(2,one (.pointer (some ⟨b2,0,none⟩))),(3,one (.pointer (some ⟨b3,0,none⟩))),(4,one (.pointer (some ⟨b4,0,none⟩))),(6,one (.pointer (some ⟨b,0,none⟩))),(7,one (.int .i64 (i:Nat)))])
    (fun i => [aP b 30 3 [(0, .one,one (.int .i64 ra)),(1, .one,one (.int .i64 ca)),(2, .one,one (slV sv1 ra cap1))],gB sv1 cap1 ra ca bs,fd ca bs (ei (fun i j=>F i j+G i j) i 0),aP b4 30 3 (dk #[Value.int IntKind.i64 0,Value.int IntKind.i64 0,Value.slice none 0 0] [(0,Lay.one),(1,Lay.one),(2,Lay.one)]),aP b3 30 3 [(0, .one,one (.int .i64 ra)),(1, .one,one (.int .i64 ca)),(2, .one,slT .one ra (fun i=>bA ca (G i)))],aP b2 30 3 [(0, .one,one (.int .i64 ra)),(1, .one,one (.int .i64 ca)),(2, .one,slT .one ra (fun i=>bA ca (F i)))]])
    (fun i=>i≤ra) (fun i=>ra - i) 0 (Nat.zero_le _) Ei (.keep Ek (.keep Ek (.keep (fY fun i j hi hj=>by simp [ei]) (SubM.refl _)))) (fun i hi => ?_)
   refine ae (ae (ai (Em Y (El (aj Y) (El (ak 5 Y Y Y) (El (a7 Y Y) (Ep (aa ?_))))))))
   refine a5 Y (fun hc => ?_) (fun hc => ?_) <;> simp only [decide_eq_true_eq,decide_eq_false_iff_not,Int.ofNat_lt] at hc
   ·obtain ⟨bo,rfl⟩:=fZ hsv X
    refine az (aa (ae (au (ae (ai (En Y (Ep (aa (au ?_)))))))))
    refine cw (σ:=Nat) (fun j => [(2,one (.pointer (some ⟨b2,0,none⟩))),(3,one (.pointer (some ⟨b3,0,none⟩))),(4,one (.pointer (some ⟨b4,0,none⟩))),(6,one (.pointer (some ⟨b,0,none⟩))),(7,one (.int .i64 (i:Nat))),(8,one (.int .i64 (j:Nat)))])
     (fun j => [aP b 30 3 [(0, .one,one (.int .i64 ra)),(1, .one,one (.int .i64 ca)),(2, .one,one (slV (some bo) ra cap1))],gB (some bo) cap1 ra ca bs,fd ca bs (ei (fun i j=>F i j+G i j) i j),aP b4 30 3 (dk #[Value.int IntKind.i64 0,Value.int IntKind.i64 0,Value.slice none 0 0] [(0,Lay.one),(1,Lay.one),(2,Lay.one)]),aP b3 30 3 [(0, .one,one (.int .i64 ra)),(1, .one,one (.int .i64 ca)),(2, .one,slT .one ra (fun i=>bA ca (G i)))],aP b2 30 3 [(0, .one,one (.int .i64 ra)),(1, .one,one (.int .i64 ca)),(2, .one,slT .one ra (fun i=>bA ca (F i)))]])
     (fun j=>j≤ca) (fun j=>ca - j) 0 (Nat.zero_le _) Ei (SubM.refl _) (fun j hj => ?_)
    refine ae (ae (ai (Em Y (El (aj Y) (El (ak 5 Y Y Y) (El (a7 Y Y) (Ep (aa ?_))))))))
    refine a5 Y (fun hc2 => ?_) (fun hc2 => ?_) <;> simp only [decide_eq_true_eq,decide_eq_false_iff_not,Int.ofNat_lt] at hc2
    ·refine az (aa (ae (au (a8 24 a4 Z S ?_))))
     unfold bA
     refine El (aj Y) (El (ak 0 Y Y Y) (Em Y ?_))
     (refine El (ao Y Y ?_) ?_;omega)
     (refine El (be 1 Y Y ?_) ?_;omega)
     refine Em Y (El (aj Y) (El (ak 5 Y Y Y) (Em Y ?_)))
     (refine El (aC Y Y ?_) ?_;omega)
     refine El (aM Y) (Em Y ?_)
     (refine El (aC Y Y ?_) ?_;omega)
     refine El (aM Y) (El (aj Y) (El (ak 4 Y Y Y) (Em Y ?_)))
     (refine El (aC Y Y ?_) ?_;omega)
     refine El (aM Y) (Em Y ?_)
     (refine El (aC Y Y ?_) ?_;omega)
     refine El (aM Y) ?_
     refine El (am (iN (F i j) (G i j) (hF i j) (hG i j)) Y ⟨H,H,Er⟩) ?_
     (refine El (ao Y Y ?_) ?_;omega)
     refine Ep ?_
     (refine iI 2 Y Y Y (sD ?_) ?_ Y ?_;omega;omega)
     refine Ep (aD (aa (ai (Em Y ?_))))
     (refine El (ci Y Y (aO ?_ ?_)) ?_;omega;omega)
     refine En Y (Ep ?_)
     exact bO (s:=j) (j+1) (show _ from by omega) (by show ca - (j+1)<ca - j;omega) Ei (.keep Ek (.keep Ek (.keep (pR _ Y) (SubM.refl _))))
    ·have hjm:j=ca:=by omega
     subst hjm
     refine aX (av (av (aE (aD (aa (ai (Em Y ?_)))))))
     (refine El (ci Y Y (aO ?_ ?_)) ?_;omega;omega)
     refine En Y (Ep ?_)
     exact bO (s:=i) (i+1) (show _ from by omega) (by show ra - (i+1)<ra - i;omega) Ei (.keep Ek (.keep Ek (.keep kM (SubM.refl _))))
   ·have hin:i=ra:=by omega
    subst hin
    refine aX (av (av (aE (aa (ae (ai (El (aQ 0 Y Y) (aY 3 Y Y Y Y (En Y ?_)))))))))
    refine Ep (aa (aF ?_))
    have hperm : ∀ (x y z u t s:Own), [x,y,z,u,t,s].Perm ([y,z] ++ [x,u,t,s]):=fun x y z u t s=>(List.Perm.swap y x _).trans (List.Perm.cons y (List.Perm.swap z x _))
    refine fV [gB sv1 cap1 i ca bs,fd ca bs (ei (fun i j=>F i j+G i j) i 0)] (hperm _ _ _ _ _ _) (.keep (wd.refl _) (.keep (wd.box (gF hlen ⟨by simp,by simp,by simp⟩)) (.keep (wd.refl _) (.keep (wd.refl _) .nil)))) (we.refl _) ?_
    refine cT Tryz.results33 (.cellW 1 Y Y ?_) (.tmp Y (aq ?_))
    ·simp only [and_self,decide_true,if_true]; exact lW fun a b ha hb=>by simp [ei,ha]
    ·simp
 ·have hne : ¬ (ra=rb∧ca=cb):=by simp at h1;omega
  refine sg0 Y Y Y Y (sg0 Y Y Y Y (sg0 Y Y Y Y (sg0 Y Y Y Y (sg0 Y Y Y Y (El (bp Y Y) (Ep (aa ?_)))))))
  refine a5 Y (fun hc => ?_) (fun hc => ?_)
  ·refine ae (ai (stB Y Y Y (BuildK.nil (aY 0 Y Y Y Y (En Y (Ep (aa (aF (aU ?_)))))))))
   refine cT Tryz.results33 (.cellW 0 Y Y ?_) (.tmp Y (aq ?_))
   ·rw [decide_eq_false hne]; exact jJ _
   ·rw [decide_eq_false hne]; rfl
  ·cases hc
end Tor
end
section
namespace Tor
open Go Go.RowKit Go.Proofs
def ku (F:Nat→Nat→Int) (i j:Nat) (x:Int):Nat→Nat→Int:=fun q k=>if q<i∨(q=i∧k<j) then F q k else if q=i∧k=j then x else 0
theorem ud (F:Nat→Nat→Int) (i j:Nat):ku F i j 0=ei F i j:=by
 funext q k;unfold ku ei;split
 ·rfl
 ·split <;> rfl
theorem ue (F:Nat→Nat→Int) (i j:Nat):ku F i j (F i j)=ei F i (j+1):=by
 funext q k;unfold ku ei
 by_cases h:q<i∨q=i∧k<j
 ·rw [if_pos h,if_pos X]
 ·rw [if_neg h]
  by_cases h2:q=i∧k=j
  ·obtain ⟨rfl,rfl⟩:=h2;rw [if_pos ⟨rfl,rfl⟩,if_pos X]
  ·rw [if_neg h2,if_neg X]
theorem yX (F:Nat→Nat→Int) (i j:Nat) (x:Int):ku F i j x i j=x:=by
 unfold ku;rw [if_neg X,if_pos ⟨rfl,rfl⟩]
theorem wO {T:TypeId} {c:Nat} {bs:List Nat} {F:Nat→Nat→Int} {i j:Nat} (x y:Int) :
  Own.le (dD T (.agg 2) c bs (ld (fun q k=>aL (ku F i j x q k)) i j (aL y))) (dD T (.agg 2) c bs (fun q k=>aL (ku F i j y q k))):=by
 refine jy fun q k hq hk => ?_
 unfold ld ku
 by_cases h:q=i∧k=j
 ·obtain ⟨rfl,rfl⟩:=h
  rw [if_pos ⟨rfl,rfl⟩,if_neg X,if_pos ⟨rfl,rfl⟩]
 ·simp only [if_neg h]
attribute [local irreducible] J PJ aJ one slT bQ bC bv exT bZ eP aP aI slV VT.le Ret bJ
attribute [local irreducible] aL dD
theorem yY (ra ca:Nat) (F:Nat→Nat→Int) (rb cb:Nat) (G:Nat→Nat→Int) (hr0:ra≤1048576) (hc0:ca≤1048576) (hd0:cb≤1048576) (hF : ∀ i j,kH (F i j)) (hG : ∀ i j,kH (G i j)) :
  Ok Tryz.prog 72 [bP ra ca F,bP rb cb G] (jI (decide (ca=rb)) 50 ra cb (kL ca F G)):=by
 unfold jI bP
 refine Ok.enter Tryz.func72 Y Tryz.ntmps72 Y (fun w O => ?_)
 refine ae (ai ?_)
 refine aS Y Y (ltN Y) (fun b => ?_)
 refine aS Y Y (ltN Y) (fun b => ?_)
 refine bj (T:=30) Y Y Y (fun b => ?_)
 refine En Y (Ep (aa (ae (ae (ai (El (aj Y) (El (ak 2 Y Y Y) (El (aj Y) (El (ak 1 Y Y Y) ?_)))))))))
 refine El (dy Y Y) (Ep (aa ?_))
 refine a5 Y (fun hc => ?_) (fun hc => ?_) <;> simp only [decide_eq_true_eq,decide_eq_false_iff_not,ne_eq,Decidable.not_not] at hc
 ·have hne : ¬ ca=rb:=by omega
  refine ae (ai (stB Y Y Y (BuildK.nil (aY 0 Y Y Y Y (En Y (Ep (aa (aF (aU ?_)))))))))
  refine cT Tryz.results72 (.cellW 0 Y Y ?_) (.tmp Y (aq ?_))
  ·rw [decide_eq_false hne]; exact jJ _
  ·rw [decide_eq_false hne]; rfl
 ·have e2:ca=rb:=by omega
  subst e2
  refine az (aa (ae (ai (El (aj Y) (El (ak 2 Y Y Y) (El (aj Y) (El (ak 1 Y Y Y) ?_)))))))
  refine fU (kc ra cb hr0 hd0) Y ⟨H,H,Er⟩ Y Y (fun s => ?_)
  obtain ⟨⟨bs,sv1,cap1⟩,hlen,hsv⟩:=s
  simp only at hlen hsv
  unfold mz
  refine bj (T:=30) Y Y Y (fun b => ?_)
  refine aY 0 Y Y Y Y (Ep (aa (ae (ae (ai (En Y (Ep (aa (au ?_)))))))))
  rename_i b2 b3 b4
  refine cw (σ:=Nat) (fun i => [(2,one (.pointer (some ⟨b2,0,none⟩))),(3,one (.pointer (some ⟨b3,0,none⟩))),(4,one (.pointer (some ⟨b4,0,none⟩))),(6,one (.pointer (some ⟨b,0,none⟩))),(7,one (.int .i64 (i:Nat)))])
   (fun i => [aP b 30 3 [(0, .one,one (.int .i64 ra)),(1, .one,one (.int .i64 cb)),(2, .one,one (slV sv1 ra cap1))],gB sv1 cap1 ra cb bs,fd cb bs (ei (kL ca F G) i 0),aP b4 30 3 (dk #[Value.int IntKind.i64 0,Value.int IntKind.i64 0,Value.slice none 0 0] [(0,Lay.one),(1,Lay.one),(2,Lay.one)]),aP b3 30 3 [(0, .one,one (.int .i64 ca)),(1, .one,one (.int .i64 cb)),(2, .one,slT .one ca (fun i=>bA cb (G i)))],aP b2 30 3 [(0, .one,one (.int .i64 ra)),(1, .one,one (.int .i64 ca)),(2, .one,slT .one ra (fun i=>bA ca (F i)))]])
   (fun i=>i≤ra) (fun i=>ra - i) 0 (Nat.zero_le _) Ei (.keep Ek (.keep Ek (.keep (fY fun i j hi hj=>by simp [ei]) (SubM.refl _)))) (fun i hi => ?_)
  refine ae (ae (ai (Em Y (El (aj Y) (El (ak 5 Y Y Y) (El (a7 Y Y) (Ep (aa ?_))))))))
  refine a5 Y (fun hc => ?_) (fun hc => ?_) <;> simp only [decide_eq_true_eq,decide_eq_false_iff_not,Int.ofNat_lt] at hc
  ·obtain ⟨bo,rfl⟩:=fZ hsv X
   refine az (aa (ae (au (ae (ai (En Y (Ep (aa (au ?_)))))))))
   refine cw (σ:=Nat) (fun j => [(2,one (.pointer (some ⟨b2,0,none⟩))),(3,one (.pointer (some ⟨b3,0,none⟩))),(4,one (.pointer (some ⟨b4,0,none⟩))),(6,one (.pointer (some ⟨b,0,none⟩))),(7,one (.int .i64 (i:Nat))),(8,one (.int .i64 (j:Nat)))])
    (fun j => [aP b 30 3 [(0, .one,one (.int .i64 ra)),(1, .one,one (.int .i64 cb)),(2, .one,one (slV (some bo) ra cap1))],gB (some bo) cap1 ra cb bs,fd cb bs (ei (kL ca F G) i j),aP b4 30 3 (dk #[Value.int IntKind.i64 0,Value.int IntKind.i64 0,Value.slice none 0 0] [(0,Lay.one),(1,Lay.one),(2,Lay.one)]),aP b3 30 3 [(0, .one,one (.int .i64 ca)),(1, .one,one (.int .i64 cb)),(2, .one,slT .one ca (fun i=>bA cb (G i)))],aP b2 30 3 [(0, .one,one (.int .i64 ra)),(1, .one,one (.int .i64 ca)),(2, .one,slT .one ra (fun i=>bA ca (F i)))]])
    (fun j=>j≤cb) (fun j=>cb - j) 0 (Nat.zero_le _) Ei (SubM.refl _) (fun j hj => ?_)
   refine ae (ae (ai (Em Y (El (aj Y) (El (ak 4 Y Y Y) (El (a7 Y Y) (Ep (aa ?_))))))))
   refine a5 Y (fun hc2 => ?_) (fun hc2 => ?_) <;> simp only [decide_eq_true_eq,decide_eq_false_iff_not,Int.ofNat_lt] at hc2
   ·refine az (aa (ae (au (ae (ai (En Y (Ep (aa (au ?_)))))))))
    refine cw (σ:=Nat) (fun k => [(2,one (.pointer (some ⟨b2,0,none⟩))),(3,one (.pointer (some ⟨b3,0,none⟩))),(4,one (.pointer (some ⟨b4,0,none⟩))),(6,one (.pointer (some ⟨b,0,none⟩))),(7,one (.int .i64 (i:Nat))),(8,one (.int .i64 (j:Nat))),(9,one (.int .i64 (k:Nat)))])
     (fun k => [aP b 30 3 [(0, .one,one (.int .i64 ra)),(1, .one,one (.int .i64 cb)),(2, .one,one (slV (some bo) ra cap1))],gB (some bo) cap1 ra cb bs,fd cb bs (ku (kL ca F G) i j (bh k (fun k=>F i k*G k j))),aP b4 30 3 (dk #[Value.int IntKind.i64 0,Value.int IntKind.i64 0,Value.slice none 0 0] [(0,Lay.one),(1,Lay.one),(2,Lay.one)]),aP b3 30 3 [(0, .one,one (.int .i64 ca)),(1, .one,one (.int .i64 cb)),(2, .one,slT .one ca (fun i=>bA cb (G i)))],aP b2 30 3 [(0, .one,one (.int .i64 ra)),(1, .one,one (.int .i64 ca)),(2, .one,slT .one ra (fun i=>bA ca (F i)))]])
     (fun k=>k≤ca) (fun k=>ca - k) 0 (Nat.zero_le _) Ei (.keep Ek (.keep Ek (.keep (by rw [show bh 0 (fun k=>F i k*G k j)=0 from rfl,ud]; exact Own.le_refl _) (SubM.refl _)))) (fun k hk => ?_)
    refine ae (ae (ai (Em Y (El (aj Y) (El (ak 5 Y Y Y) (El (a7 Y Y) (Ep (aa ?_))))))))
    refine a5 Y (fun hc3 => ?_) (fun hc3 => ?_) <;> simp only [decide_eq_true_eq,decide_eq_false_iff_not,Int.ofNat_lt] at hc3
    ·refine az (aa (ae (au (a8 33 a4 Z S ?_))))
     unfold bA
     refine El (aj Y) (El (ak 0 Y Y Y) (Em Y ?_))
     (refine El (ao Y Y ?_) ?_;omega)
     (refine El (be 1 Y Y ?_) ?_;omega)
     refine Em Y (El (aj Y) (El (ak 0 Y Y Y) (Em Y ?_)))
     (refine El (ao Y Y ?_) ?_;omega)
     (refine El (be 1 Y Y ?_) ?_;omega)
     refine Em Y ?_
     (refine El (ao Y Y ?_) ?_;omega)
     (refine El (Ao 2 Y Y (sD ?_) ?_) ?_;omega;omega)
     refine El (aj Y) (El (ak 5 Y Y Y) (Em Y ?_))
     (refine El (aC Y Y ?_) ?_;omega)
     refine El (aM Y) (Em Y ?_)
     (refine El (aC Y Y ?_) ?_;omega)
     refine El (aM Y) (El (aj Y) (El (ak 4 Y Y Y) (Em Y ?_)))
     (refine El (aC Y Y ?_) ?_;omega)
     refine El (aM Y) (Em Y ?_)
     (refine El (aC Y Y ?_) ?_;omega)
     refine El (aM Y) ?_
     refine El (am (d6 (F i k) (G k j) (fP (hF i k)) (fP (hG k j))) Y ⟨H,H,Er⟩) ?_
     rw [yX]
     refine El (am (iN (bh k (fun k=>F i k*G k j)) (F i k*G k j) (mA X (fun k=>iO (hF i k) (hG k j))) (cA (iO (hF i k) (hG k j)) U)) Y ⟨H,H,Er⟩) ?_
     (refine El (ao Y Y ?_) ?_;omega)
     refine Ep ?_
     (refine iI 2 Y Y Y (sD ?_) ?_ Y ?_;omega;omega)
     refine Ep (aD (aa (ai (Em Y ?_))))
     (refine El (ci Y Y (aO ?_ ?_)) ?_;omega;omega)
     refine En Y (Ep ?_)
     exact bO (s:=k) (k+1) (show _ from by omega) (by show ca - (k+1)<ca - k;omega) Ei (.keep Ek (.keep Ek (.keep (wO _ _) (SubM.refl _))))
    ·have hkm:k=ca:=by omega
     subst hkm
     refine aX (av (av (aE (aD (aa (ai (Em Y ?_)))))))
     (refine El (ci Y Y (aO ?_ ?_)) ?_;omega;omega)
     refine En Y (Ep ?_)
     exact bO (s:=j) (j+1) (show _ from by omega) (by show cb - (j+1)<cb - j;omega) Ei (.keep Ek (.keep Ek (.keep (by rw [← ue]; exact Own.le_refl _) (SubM.refl _))))
   ·have hjm:j=cb:=by omega
    subst hjm
    refine aX (av (av (aE (aD (aa (ai (Em Y ?_)))))))
    (refine El (ci Y Y (aO ?_ ?_)) ?_;omega;omega)
    refine En Y (Ep ?_)
    exact bO (s:=i) (i+1) (show _ from by omega) (by show ra - (i+1)<ra - i;omega) Ei (.keep Ek (.keep Ek (.keep kM (SubM.refl _))))
  ·have hin:i=ra:=by omega
   subst hin
   refine aX (av (av (aE (aa (ae (ai (El (aQ 0 Y Y) (aY 3 Y Y Y Y (En Y ?_)))))))))
   refine Ep (aa (aF ?_))
   have hperm : ∀ (x y z u t s:Own), [x,y,z,u,t,s].Perm ([y,z] ++ [x,u,t,s]):=fun x y z u t s=>(List.Perm.swap y x _).trans (List.Perm.cons y (List.Perm.swap z x _))
   refine fV [gB sv1 cap1 i cb bs,fd cb bs (ei (kL ca F G) i 0)] (hperm _ _ _ _ _ _) (.keep (wd.refl _) (.keep (wd.box (gF hlen ⟨by simp,by simp,by simp⟩)) (.keep (wd.refl _) (.keep (wd.refl _) .nil)))) (we.refl _) ?_
   refine cT Tryz.results72 (.cellW 1 Y Y ?_) (.tmp Y (aq ?_))
   ·simp only [decide_true,if_true]; exact lW fun a b ha hb=>by simp [ei,ha]
   ·simp
end Tor
end
section
namespace Tor
open Go Go.RowKit Go.Proofs
attribute [local irreducible] J PJ aJ one slT bQ bC bv exT bZ eP aP aI slV VT.le Ret bJ
attribute [local irreducible] aL
theorem sL (ra ca:Nat) (F:Nat→Nat→Int) (cb:Nat) (G:Nat→Nat→Int) (hr0:ra≤1048576) (hc0:ca≤1048576) (hd0:cb≤1048576) (hF : ∀ i j,kH (F i j)) (hG : ∀ i j,kH (G i j)) :
  Ok Tryz.prog 34 [bP ra ca F,bP ca cb G] (bP ra cb (kL ca F G)):=by
 unfold bP
 refine Ok.enter Tryz.func34 Y Tryz.ntmps34 Y (fun w O => ?_)
 refine ae (ai ?_)
 refine aS Y Y (ltN Y) (fun b => ?_)
 refine aS Y Y (ltN Y) (fun b => ?_)
 refine bj (T:=30) Y Y Y (fun b => ?_)
 refine Ep (aa (ae (ai (El (aQ 2 Y Y) (El (aQ 1 Y Y) ?_)))))
 have h:=(yY ra ca F ca cb G hr0 hc0 hd0 hF hG)
 rw [decide_eq_true (show ca=ca from rfl)] at h
 refine El (am h Y ⟨H,H,Er⟩) ?_
 unfold jI
 simp only [if_true]
 refine Em Y (El (ar Y Y) (El (ar Y Y) ?_))
 refine bj (T:=30) Y Y Y (fun b => ?_)
 refine aY 0 Y Y Y Y (En Y (Ep (aa (ae (ai (El (aQ 0 Y Y) (aY 1 Y Y Y Y (Ep (aa ?_)))))))))
 refine aF ?_
 exact aV Tryz.results34 (.cellW 1 Y Y H)
end Tor
end
section
namespace Tor
open Go Go.RowKit Go.Proofs
attribute [local irreducible] J PJ aJ one slT bQ bC bv exT bZ eP aP aI slV VT.le Ret bJ
attribute [local irreducible] aL
theorem vE (n:Nat) (f:Nat→Int):Ok Tryz.prog 30 [bA n f] (bP 1 n (fun _=>f)):=by
 unfold bA
 refine Ok.enter Tryz.func30 Y Tryz.ntmps30 Y (fun w O => ?_)
 refine ae (ai ?_)
 refine bj (T:=30) Y Y Y (fun b => ?_)
 refine Ep (aa (ae (ai (Em Y (El (aW Y) (Em Y (gm Y Y Y Y (stB Y Y Y (BuildK.cons Y Y Y ?_)))))))))
 refine BuildK.cons Y Y Y (BuildK.cons Y Y Y (BuildK.nil (aY 0 Y Y Y Y (Ep (aa (aF ?_))))))
 refine aV Tryz.results30 (.cellW 0 Y Y ?_)
 unfold bP bA
 refine eW (fun q hq => ?_)
 rcases List.mem_cons.1 hq with rfl | hq
 ·exact ⟨_,List.mem_cons_self,aq Y⟩
 rcases List.mem_cons.1 hq with rfl | hq
 ·exact ⟨_,List.mem_cons_of_mem _ List.mem_cons_self,H⟩
 rcases List.mem_cons.1 hq with rfl | hq
 ·exact ⟨_,List.mem_cons_of_mem _ (List.mem_cons_of_mem _ List.mem_cons_self),H⟩
 ·cases hq
end Tor
end
section
namespace Tor
open Go Go.RowKit Go.Proofs
attribute [local irreducible] J PJ aJ one slT bQ bC bv exT bZ eP aP aI slV VT.le Ret bJ
attribute [local irreducible] aL
theorem uf (l:List Int) (n:Nat) (hn:n≤16):Ok Tryz.prog 11 [ib .i8 l,one (.int .i64 n)] (bA n (dig l)):=by
 refine Ok.enter Tryz.func11 Y Tryz.ntmps11 Y (fun w O => ?_)
 refine ae (ai (En Y (Ep (aa (ae (ai (Em Y (Em Y ?_))))))))
 refine El (am (ot 1 n l S hn) Y ⟨aq Y,H,H,Er⟩) ?_
 unfold bP
 refine El (uS Y Y) ?_
 (refine El (f9 Y Y ?_ ?_) ?_;omega;omega)
 refine El (aM Y) (En Y (Ep (aa (aF ?_))))
 refine aV Tryz.results11 (.tmp Y ?_)
 unfold bA
 refine cB Y fun j hj => ?_
 simp
end Tor
end
section
namespace Tor.Lin
abbrev pv (e:ElS) (l:Nat):Nat:=e.piv.getD l 0
structure GJ (r w c:Nat) (full:Bool) (A:Nat→Nat→Int) (e:ElS) (V:Nat→Nat→Rat):Prop where
 d0:e.last≠0
 pr:e.piv.length≤r
 pc : ∀ l,l<e.piv.length→pv e l<c
 dP:(e.last:Rat)=det e.piv.length (fun a b=>(A a (pv e b):Rat))
 A2 : ∀ i,i<r → ∀ j,j<w→(A i j:Rat)=sm e.piv.length (fun k=>(A i (pv e k):Rat)*V k j)+(if i<e.piv.length then 0 else V i j)
 B3 : ∀ i,i<r → ∀ j,j<w→(full=true∨e.piv.length≤i)→(e.R i j:Rat)=(e.last:Rat)*V i j
 V4 : ∀ l,l<e.piv.length → ∀ i,i<r→V i (pv e l)=if i=l then 1 else 0
 V5 : ∀ c',c'<c → ∀ i,e.piv.length≤i→i<r→V i c'=0
 V6 : ∀ y:Nat→Rat,(∀ i,i<r→sm w (fun j=>y j*(A i j:Rat))=0) → ∀ i,i<r→sm w (fun j=>y j*V i j)=0
theorem ug {x:Int} (h:x≠0):(x:Rat)≠0:=fun e=>h (by exact_mod_cast e)
theorem GJ.int {r w c:Nat} {full:Bool} {A:Nat→Nat→Int} {d:Int} {piv:List Nat} {V:Nat→Nat→Rat}
  (dP:(d:Rat)=det piv.length (fun a b=>(A a (piv.getD b 0):Rat)))
  (A2 : ∀ i,i<r → ∀ j,j<w→(A i j:Rat)=sm piv.length (fun k=>(A i (piv.getD k 0):Rat)*V k j)+(if i<piv.length then 0 else V i j)) (pr:piv.length≤r)
  {i j:Nat} (hi:i<r) (hj:j<w) : ∃ N:Int,(N:Rat)=(d:Rat)*V i j:=by
 by_cases h:i<piv.length
 ·refine ⟨bW piv.length (fun a b=>if b=i then A a j else A a (piv.getD b 0)),?_⟩
  rw [dn,dP]
  have e:det piv.length (fun a b=>((if b=i then A a j else A a (piv.getD b 0):Int):Rat))=det piv.length (cE (fun a b=>(A a (piv.getD b 0):Rat)) i (fun a=>sm piv.length (fun l=>V l j*(A a (piv.getD l 0):Rat)))):=bG fun a b ha hb=>by
   unfold cE
   by_cases c:b=i
   ·rw [if_pos c,if_pos c,A2 a X j hj,if_pos ha,Rat.add_zero]
    exact bB fun l _=>Rat.mul_comm _ _
   ·rw [if_neg c,if_neg c]
  rw [e,r4 h (fun a b=>(A a (piv.getD b 0):Rat)) (fun l=>V l j),Rat.mul_comm]
 ·refine ⟨bW (piv.length+1) (fun a b=>A (if a<piv.length then a else i) (if b<piv.length then piv.getD b 0 else j)),?_⟩
  rw [dn,dP,r5 _ (fun l=>V l j) (V i j) (fun a ha => ?_),Rat.mul_comm]
  ·congr 1
   exact bG fun a b ha hb=>by rw [if_pos ha,if_pos hb]
  ·rw [if_neg (Nat.lt_irrefl _)]
   by_cases c:a<piv.length
   ·rw [if_pos c,if_neg (show a≠piv.length by omega),A2 a X j hj,if_pos c]
    congr 1
    exact bB fun l hl=>by rw [if_pos hl]; exact Rat.mul_comm _ _
   ·rw [if_neg c,if_pos (show a=piv.length by omega),A2 i hi j hj,if_neg h]
    congr 1
    exact bB fun l hl=>by rw [if_pos hl]; exact Rat.mul_comm _ _
theorem GJ.start {r w:Nat} {full:Bool} (A:Nat→Nat→Int):GJ r w 0 full A ⟨A,1,false, []⟩ (fun i j=>(A i j:Rat)) where
 d0:=(by decide:(1:Int)≠0)
 pr:=Nat.zero_le _
 pc:=fun l h=>absurd h (Nat.not_lt_zero _)
 dP:=rfl
 A2:=fun i hi j hj=>by
  show (A i j:Rat)=0+(if i<0 then 0 else (A i j:Rat))
  rw [if_neg (Nat.not_lt_zero _)]; grind
 B3:=fun i hi j hj _=>by
  show (A i j:Rat)=((1:Int):Rat)*(A i j:Rat)
  have:((1:Int):Rat)=1:=rfl
  rw [this]; grind
 V4:=fun l h=>absurd h (Nat.not_lt_zero _)
 V5:=fun c' h=>absurd h (Nat.not_lt_zero _)
 V6:=fun y h=>h
theorem GJ.skip {r w c:Nat} {full:Bool} {A:Nat→Nat→Int} {e:ElS} {V:Nat→Nat→Rat} (h:GJ r w c full A e V) (hc:c<w) (h0 : ∀ q,e.piv.length≤q→q<r→e.R q c=0):GJ r w (c+1) full A e V :=
 ⟨h.d0,h.pr,fun l hl=>Nat.lt_succ_of_lt (h.pc l hl),h.dP,h.A2,h.B3,h.V4,fun c' hc' i h1 h2=>by
  by_cases e1:c'=c
  ·subst e1
   have:=h.B3 i h2 c' hc (.inr h1)
   rw [h0 i h1 h2] at this
   have hd:=ug h.d0
   have h3:((0:Int):Rat)=0:=rfl
   rw [h3] at this
   grind
  ·exact h.V5 c' X i h1 h2,h.V6⟩
theorem GJ.swap {r w c:Nat} {full:Bool} {A:Nat→Nat→Int} {e:ElS} {V:Nat→Nat→Rat} (h:GJ r w c full A e V) {i:Nat} (hp:e.piv.length<r) (hk:e.piv.length≤i) (hi:i<r) (odd:Bool) :
  GJ r w c full (Tor.swp i e.piv.length A) ⟨Tor.swp i e.piv.length e.R,e.last,odd,e.piv⟩ (Tor.swp i e.piv.length V):=by
 have low : ∀ {α:Type} (φ:Nat→α) (q:Nat),q<e.piv.length→Tor.swp i e.piv.length φ q=φ q:=fun φ q hq=>by
  unfold Tor.swp;rw [if_neg X,if_neg X]
 have val : ∀ q,q<r → ∃ q',q'<r∧(q<e.piv.length↔q'<e.piv.length)∧(q<e.piv.length→q'=q) ∧ ∀ {α:Type} (φ:Nat→α),Tor.swp i e.piv.length φ q=φ q':=fun q hq=>by
  by_cases h1:q=i
  ·exact ⟨e.piv.length,hp,by omega,by omega,fun φ=>by unfold Tor.swp;rw [if_pos h1]⟩
  ·by_cases h2:q=e.piv.length
   ·exact ⟨i,hi,by omega,by omega,fun φ=>by unfold Tor.swp;rw [if_neg h1,if_pos h2]⟩
   ·exact ⟨q,hq,Iff.rfl,fun _=>rfl,fun φ=>by unfold Tor.swp;rw [if_neg h1,if_neg h2]⟩
 refine ⟨h.d0,h.pr,h.pc,?_,fun q hq j hj => ?_,fun q hq j hj hf => ?_,fun l hl q hq => ?_,fun c' hc' q h1 h2 => ?_,fun y hy q hq => ?_⟩
 ·show (e.last:Rat)=_
  rw [h.dP]
  exact bG fun a b ha hb=>by rw [low A a ha]
 ·obtain ⟨q',h1,h2,h3,h4⟩:=val q hq
  show ((Tor.swp i e.piv.length A q j:Int):Rat)=sm e.piv.length (fun k=>((Tor.swp i e.piv.length A q (pv e k):Int):Rat)*Tor.swp i e.piv.length V k j)+(if q<e.piv.length then 0 else Tor.swp i e.piv.length V q j)
  rw [h4 A,h4 V,h.A2 q' h1 j hj]
  congr 1
  ·exact bB fun k hk'=>by rw [low V k hk']
  ·by_cases c:q<e.piv.length
   ·rw [if_pos c,if_pos (h2.1 c)]
   ·rw [if_neg c,if_neg (fun k=>c (h2.2 k))]
 ·obtain ⟨q',h1,h2,h3,h4⟩:=val q hq
  show ((Tor.swp i e.piv.length e.R q j:Int):Rat)=(e.last:Rat)*Tor.swp i e.piv.length V q j
  rw [h4 e.R,h4 V]
  exact h.B3 q' h1 j hj (hf.imp id fun k=>by
   have k:e.piv.length≤q:=k
   omega)
 ·obtain ⟨q',h1,h2,h3,h4⟩:=val q hq
  have hl:l<e.piv.length:=hl
  show Tor.swp i e.piv.length V q (pv e l)=_
  rw [h4 V,h.V4 l hl q' h1]
  by_cases c:q<e.piv.length
  ·rw [h3 c]
  ·rw [if_neg X,if_neg X]
 ·obtain ⟨q',h3,h4,h5,h6⟩:=val q h2
  have h1:e.piv.length≤q:=h1
  show Tor.swp i e.piv.length V q c'=0
  rw [h6 V]
  exact h.V5 c' hc' q' X h3
 ·obtain ⟨q',h1,h2,h3,h4⟩:=val q hq
  show sm w (fun j=>y j*Tor.swp i e.piv.length V q j)=0
  rw [h4 V]
  refine h.V6 y (fun k hk' => ?_) q' h1
  obtain ⟨k',g1,g2,g3,g4⟩:=val k hk'
  have hb : ∃ q0,q0<r∧Tor.swp i e.piv.length A q0=A k:=by
   by_cases c1:k=i
   ·exact ⟨e.piv.length,hp,by rw [gT,c1]⟩
   ·by_cases c2:k=e.piv.length
    ·exact ⟨i,hi,by unfold Tor.swp;rw [if_pos Y,c2]⟩
    ·exact ⟨k,hk',by unfold Tor.swp;rw [if_neg c1,if_neg c2]⟩
  obtain ⟨q0,g5,g6⟩:=hb
  rw [← g6]; exact hy q0 g5
theorem jK {l:List Nat} {c k:Nat} (h:k<l.length):(l ++ [c]).getD k 0=l.getD k 0:=by
 simp [List.getD,List.getElem?_append_left h]
theorem f6 (l:List Nat) (c:Nat):(l ++ [c]).getD l.length 0=c:=by simp [List.getD]
theorem GJ.step {r w c:Nat} {full:Bool} {A:Nat→Nat→Int} {e:ElS} {V:Nat→Nat→Rat} (h:GJ r w c full A e V) (hc:c<w) (hp:e.piv.length<r) (hn:e.R e.piv.length c≠0) (odd:Bool) :
  GJ r w (c+1) full A ⟨gp e.piv.length c e.last full e.R,e.R e.piv.length c,odd,e.piv ++ [c]⟩ (fun i j=>if i=e.piv.length then V i j / V i c else V i j - V i c*(V e.piv.length j / V e.piv.length c))∧V e.piv.length c≠0:=by
 have hd:=ug h.d0
 have hpc:=h.B3 e.piv.length hp c hc (.inr (Nat.le_refl _))
 have hnq:=ug hn
 have hv:V e.piv.length c≠0:=fun k=>hnq (by rw [hpc,k]; grind)
 refine ⟨?_,hv⟩
 generalize hV':(fun i j=>if i=e.piv.length then V i j / V i c else V i j - V i c*(V e.piv.length j / V e.piv.length c))=V'
 have hlen:(e.piv ++ [c]).length=e.piv.length+1:=by simp
 have vp : ∀ j,V' e.piv.length j=V e.piv.length j / V e.piv.length c:=fun j=>by rw [← hV']; simp only [if_pos]
 have vi : ∀ i j,i≠e.piv.length→V' i j=V i j - V i c*V' e.piv.length j:=fun i j hi=>by rw [vp, ← hV']; simp only [if_neg hi]
 have vpm : ∀ j,V e.piv.length j=V e.piv.length c*V' e.piv.length j:=fun j=>by rw [vp]; grind
 have hA2 : ∀ i,i<r → ∀ j,j<w→(A i j:Rat)=sm (e.piv ++ [c]).length (fun k=>(A i ((e.piv ++ [c]).getD k 0):Rat)*V' k j)+(if i<(e.piv ++ [c]).length then 0 else V' i j):=fun i hi j hj=>by
  rw [hlen,sm,f6]
  have e1:sm e.piv.length (fun k=>(A i ((e.piv ++ [c]).getD k 0):Rat)*V' k j)=sm e.piv.length (fun k=>(A i (pv e k):Rat)*V k j) - sm e.piv.length (fun k=>(A i (pv e k):Rat)*V k c)*V' e.piv.length j:=by
   rw [← j5, ← mp]
   exact bB fun k hk=>by rw [jK hk,vi k j X]; grind
  rw [e1]
  have a1:=h.A2 i hi j hj
  have a2:=h.A2 i hi c hc
  by_cases c1:i<e.piv.length
  ·rw [if_pos c1] at a1 a2
   rw [if_pos X]
   grind
  ·rw [if_neg c1] at a1 a2
   by_cases c2:i=e.piv.length
   ·subst c2
    rw [if_pos X]
    have:=vpm j
    grind
   ·rw [if_neg X,vi i j c2]
    grind
 have hdP:((e.R e.piv.length c:Int):Rat)=det (e.piv ++ [c]).length (fun a b=>(A a ((e.piv ++ [c]).getD b 0):Rat)):=by
  rw [hlen,r5 _ (fun l=>V l c) (V e.piv.length c) (fun a ha => ?_),hpc,h.dP,Rat.mul_comm]
  ·congr 1
   exact bG fun a b ha hb=>by rw [jK hb]
  ·rw [f6,h.A2 a X c hc]
   have e2:sm e.piv.length (fun k=>(A a (pv e k):Rat)*V k c)=sm e.piv.length (fun l=>V l c*(A a ((e.piv ++ [c]).getD l 0):Rat)):=bB fun l hl=>by rw [jK hl]; exact Rat.mul_comm _ _
   rw [e2]
   congr 1
   by_cases c1:a<e.piv.length
   ·rw [if_pos c1,if_neg X]
   ·rw [if_neg c1,if_pos X,show a=e.piv.length by omega]
 refine ⟨hn,by rw [hlen]; exact hp,fun l hl => ?_,hdP,hA2,fun i hi j hj hf => ?_,fun l hl i hi => ?_,fun c' hc' i h1 h2 => ?_,fun y hy i hi => ?_⟩
 ·have hl:l<(e.piv ++ [c]).length:=hl
  show (e.piv ++ [c]).getD l 0<c+1
  rw [hlen] at hl
  by_cases c1:l<e.piv.length
  ·rw [jK c1]; exact Nat.lt_succ_of_lt (h.pc l c1)
  ·rw [show l=e.piv.length by omega,f6]; omega
 ·have hf:full=true∨(e.piv ++ [c]).length≤i:=hf
  show ((Tor.gp e.piv.length c e.last full e.R i j:Int):Rat)=((e.R e.piv.length c:Int):Rat)*V' i j
  unfold Tor.gp
  by_cases c1:i=e.piv.length
  ·subst c1
   rw [if_neg (by simp),hpc,vp,h.B3 _ hp j hj (.inr (Nat.le_refl _))]
   grind
  ·have hf':full=true∨e.piv.length≤i:=hf.imp id fun k=>by omega
   rw [if_pos (by
    rcases Nat.lt_or_ge e.piv.length i with h1 | h1
    ·simp [h1]
    ·rcases hf with h2 | h2
     ·have:i<e.piv.length:=by omega
      simp [h2,this]
     ·omega)]
   obtain ⟨N,hN⟩:=GJ.int (c:=c) (full:=full) hdP hA2 X hi hj
   have key:e.R e.piv.length c*e.R i j - e.R i c*e.R e.piv.length j=e.last*N:=by
    have:((e.R e.piv.length c*e.R i j - e.R i c*e.R e.piv.length j:Int):Rat)=((e.last*N:Int):Rat):=by
     rw [Rat.intCast_sub,Rat.intCast_mul,Rat.intCast_mul,Rat.intCast_mul,hN,hpc,h.B3 i hi j hj hf',h.B3 i hi c hc hf',h.B3 _ hp j hj (.inr (Nat.le_refl _)),vi i j c1]
     have:=vpm j
     grind
    exact_mod_cast this
   unfold jl
   rw [key,Int.mul_ediv_cancel_left _ h.d0,hN]
 ·have hl:l<(e.piv ++ [c]).length:=hl
  show V' i ((e.piv ++ [c]).getD l 0)=_
  rw [hlen] at hl
  by_cases c1:l<e.piv.length
  ·rw [jK c1]
   have v1:=h.V4 l c1 e.piv.length hp
   rw [if_neg X] at v1
   by_cases c2:i=e.piv.length
   ·subst c2
    rw [vp,v1,if_neg X]; grind
   ·rw [vi i _ c2,vp,v1,h.V4 l c1 i hi]
    split <;> grind
  ·rw [show l=e.piv.length by omega,f6]
   by_cases c2:i=e.piv.length
   ·subst c2
    rw [vp,if_pos Y]; grind
   ·rw [vi i _ c2,vp,if_neg c2]; grind
 ·have h1:(e.piv ++ [c]).length≤i:=h1
  rw [hlen] at h1
  rw [vi i c' X,vp]
  by_cases c1:c'=c
  ·subst c1;grind
  ·rw [h.V5 c' X i X h2,h.V5 c' X e.piv.length (Nat.le_refl _) hp]; grind
 ·have z:=h.V6 y hy
  have zp:sm w (fun j=>y j*V' e.piv.length j)=0:=by
   rw [bB (g:=fun j=>y j*V e.piv.length j*(1 / V e.piv.length c)) (fun j _=>by rw [vp]; grind),j5,z _ hp]; grind
  by_cases c2:i=e.piv.length
  ·rw [c2]; exact zp
  ·rw [bB (g:=fun j=>y j*V i j - y j*V' e.piv.length j*V i c) (fun j _=>by rw [vi i j c2]; grind),mp,j5,zp,z i hi]; grind
end Tor.Lin
end
section
namespace Tor.Lin
def mZ (r w:Nat) (F:Nat→Nat→Int) (c:Nat):Prop := ¬ ∃ y:Nat→Rat,y c=1∧(∀ j,c<j→y j=0) ∧ ∀ i,i<r→sm w (fun j=>y j*(F i j:Rat))=0
open Classical in
noncomputable def lX (r w:Nat) (F:Nat→Nat→Int) (n:Nat):List Nat:=(List.range n).filter fun c=>decide (mZ r w F c)
theorem o7 {r w:Nat} {F:Nat→Nat→Int} {n:Nat} (h:mZ r w F n):lX r w F (n+1)=lX r w F n ++ [n]:=by
 unfold lX;rw [List.range_succ,List.filter_append]; simp [h]
theorem o8 {r w:Nat} {F:Nat→Nat→Int} {n:Nat} (h : ¬ mZ r w F n):lX r w F (n+1)=lX r w F n:=by
 unfold lX;rw [List.range_succ,List.filter_append]; simp [h]
structure EL (r w c:Nat) (full:Bool) (F:Nat→Nat→Int) (e:ElS) (A:Nat→Nat→Int) (V:Nat→Nat→Rat):Prop where
 gj:GJ r w c full A e V
 p1 : ∀ i,i<r → ∃ k,k<r∧A i=F k
 p2 : ∀ k,k<r → ∃ i,i<r∧A i=F k
 sg:det r (fun i j=>(A i j:Rat))=(if e.odd then -1 else 1)*det r (fun i j=>(F i j:Rat))
 pl:e.piv=lX r w F c
theorem EL.rel {r w c:Nat} {full:Bool} {F:Nat→Nat→Int} {e:ElS} {A:Nat→Nat→Int} {V:Nat→Nat→Rat} (h:EL r w c full F e A V) {P:(Nat→Int)→Prop} : (∀ i,i<r→P (A i))↔(∀ i,i<r→P (F i)):=by
 constructor
 ·intro Ef k hk;obtain ⟨i,hi,e⟩:=h.p2 k hk;rw [← e]; exact Ef i hi
 ·intro Ef i hi;obtain ⟨k,hk,e⟩:=h.p1 i hi;rw [e]; exact Ef k hk
theorem CU {r w c:Nat} {full:Bool} {F:Nat→Nat→Int} {e:ElS} {A:Nat→Nat→Int} {V:Nat→Nat→Rat} (h:EL r w c full F e A V) (hc:c<w) (h0 : ∀ q,e.piv.length≤q→q<r→e.R q c=0) : ¬ mZ r w F c:=by
 intro hn
 have g':=h.gj.skip hc h0
 have hp : ∀ k,k<e.piv.length→pv e k<c:=h.gj.pc
 refine hn ⟨fun j=>(if j=c then 1 else 0) - sm e.piv.length (fun k=>if j=pv e k then V k c else 0),?_,fun j hj => ?_,?_⟩
 ·show (if c=c then (1:Rat) else 0) - _=1
  rw [if_pos Y,ip (fun k hk=>by rw [if_neg]; have:=hp k hk;omega)]; grind
 ·show (if j=c then (1:Rat) else 0) - _=0
  rw [if_neg X,ip (fun k hk=>by rw [if_neg]; have:=hp k hk;omega)]; grind
 ·refine (h.rel (P:=fun a=>sm w (fun j=>((if j=c then 1 else 0) - sm e.piv.length (fun k=>if j=pv e k then V k c else 0))*(a j:Rat))=0)).1 (fun i hi => ?_)
  have a2:=h.gj.A2 i hi c hc
  have a3:(if i<e.piv.length then 0 else V i c)=0:=by
   split
   ·rfl
   ·exact g'.V5 c X i X hi
  rw [a3] at a2
  have e1:sm w (fun j=>((if j=c then 1 else 0) - sm e.piv.length (fun k=>if j=pv e k then V k c else 0))*(A i j:Rat))=sm w (fun j=>(if j=c then (A i j:Rat) else 0)) - sm w (fun j=>sm e.piv.length (fun k=>if j=pv e k then V k c*(A i j:Rat) else 0)):=by
   rw [← mp]
   refine bB fun j _ => ?_
   have e2:sm e.piv.length (fun k=>if j=pv e k then V k c*(A i j:Rat) else 0)=sm e.piv.length (fun k=>if j=pv e k then V k c else 0)*(A i j:Rat):=by
    rw [← j5]; exact bB fun k _=>by split <;> grind
   rw [e2]; split <;> grind
  rw [e1,n6 hc,vg]
  have e3:sm e.piv.length (fun k=>sm w (fun j=>if j=pv e k then V k c*(A i j:Rat) else 0))=sm e.piv.length (fun k=>(A i (pv e k):Rat)*V k c):=bB fun k hk=>by
   rw [n6 (by have:=hp k hk;omega) (fun j=>V k c*(A i j:Rat))]; exact Rat.mul_comm _ _
  rw [e3]; grind
theorem CV {r w c:Nat} {full:Bool} {F:Nat→Nat→Int} {e:ElS} {A:Nat→Nat→Int} {V:Nat→Nat→Rat} (h:GJ r w c full A e V) (p2 : ∀ k,k<r → ∃ i,i<r∧A i=F k) (p1 : ∀ i,i<r → ∃ k,k<r∧A i=F k) (hc:c<w) (hp:e.piv.length<r) (hv:V e.piv.length c≠0):mZ r w F c:=by
 rintro ⟨y,y1,y2,y3⟩
 have z:=h.V6 y (fun i hi=>by obtain ⟨k,hk,ek⟩:=p1 i hi;rw [ek]; exact y3 k hk) _ hp
 rw [gR hc (fun j hj hne=>by
  rcases Nat.lt_or_ge j c with h1 | h1
  ·rw [h.V5 j h1 _ (Nat.le_refl _) hp]; grind
  ·rw [y2 j X]; grind),y1] at z
 exact hv (by grind)
theorem CW {i p:Nat} (A:Nat→Nat→Int):(fun a b=>((Tor.swp i p A a b:Int):Rat))=tw (fun a b=>(A a b:Rat)) i p (fun b=>(A p b:Rat)) (fun b=>(A i b:Rat)):=by
 funext a b
 unfold Tor.swp tw
 by_cases h1:a=i
 ·rw [if_pos h1,if_pos h1]
 ·rw [if_neg h1,if_neg h1]
  by_cases h2:a=p
  ·rw [if_pos h2,if_pos h2]
  ·rw [if_neg h2,if_neg h2]
theorem q7 (r w:Nat) (full:Bool) (F:Nat→Nat→Int) : ∀ c,c≤w → ∃ A V,EL r w c full F (elN r full F c) A V
 | 0, _ => ⟨F, _, GJ.start F, fun i hi => ⟨i, hi, rfl⟩, fun k hk => ⟨k, hk, rfl⟩, by show _ = (if false = true then (-1 : Rat) else 1) * _; rw [if_neg (by simp)]; grind, rfl⟩
 | c + 1, hc => by
  obtain ⟨A,V,h⟩:=q7 r w full F c X
  show ∃ A V,EL r w (c+1) full F (elR r full c (elN r full F c)) A V
  generalize elN r full F c=e at h
  rcases rY e.R c e.piv.length r with h0 | ⟨i,hk,hi,h0,hn⟩
  ·rw [nY h0]
   exact ⟨A,V,h.gj.skip X h0,h.p1,h.p2,h.sg,by rw [o8 (CU h X h0)]; exact h.pl⟩
  ·have hp:e.piv.length<r:=by omega
   rw [nZ hp hk hi h0 hn]
   have hs:=h.gj.swap hp hk hi (xor e.odd (decide (i≠e.piv.length)))
   obtain ⟨st,hv⟩:=hs.step X hp (by show Tor.swp i e.piv.length e.R e.piv.length c≠0;rw [gT]; exact hn) (xor e.odd (decide (i≠e.piv.length)))
   have q1 : ∀ q,q<r → ∃ k,k<r∧Tor.swp i e.piv.length A q=F k:=fun q hq=>by
    unfold Tor.swp;split
    ·exact h.p1 _ hp
    ·split
     ·exact h.p1 _ hi
     ·exact h.p1 q hq
   have q2 : ∀ k,k<r → ∃ q,q<r∧Tor.swp i e.piv.length A q=F k:=fun k hk'=>by
    obtain ⟨q,hq,eq⟩:=h.p2 k hk'
    by_cases c1:q=i
    ·exact ⟨e.piv.length,hp,by rw [gT, ← c1]; exact eq⟩
    ·by_cases c2:q=e.piv.length
     ·exact ⟨i,hi,by unfold Tor.swp;rw [if_pos Y, ← c2]; exact eq⟩
     ·exact ⟨q,hq,by unfold Tor.swp;rw [if_neg c1,if_neg c2]; exact eq⟩
   refine ⟨_,_,st,q1,q2,?_,?_⟩
   ·show det r (fun a b=>((Tor.swp i e.piv.length A a b:Int):Rat))=(if (xor e.odd (decide (i≠e.piv.length)))=true then (-1:Rat) else 1)*_
    by_cases c1:i=e.piv.length
    ·rw [← c1,gS,h.sg]; simp
    ·rw [CW,rV fX c1 hi hp,h.sg]
     cases e.odd <;> simp [c1] <;> grind
   ·show e.piv ++ [c]=lX r w F (c+1)
    rw [o7 (CV hs q2 q1 X hp hv), ← h.pl]
theorem vF {n c:Nat} {F:Nat→Nat→Rat} {y:Nat→Rat} (hc:c<n) (h1:y c=1) (h : ∀ i,i<n→sm n (fun j=>y j*F i j)=0):det n F=0:=by
 have e:det n F=det n (cE F c (fun a=>sm n (fun l=>(if l=c then 0 else - y l)*F a l))):=bG fun i j hi hj=>by
  unfold cE
  by_cases hj':j=c
  ·rw [if_pos hj',hj']
   have e1:sm n (fun l=>(if l=c then 0 else - y l)*F i l)=sm n (fun l=>(if l=c then F i l else 0)) - sm n (fun l=>y l*F i l):=by
    rw [← mp]
    exact bB fun l _=>by
     by_cases hl:l=c
     ·rw [if_pos hl,if_pos hl,hl,h1]; grind
     ·rw [if_neg hl,if_neg hl]; grind
   show F i c=sm n (fun l=>(if l=c then 0 else - y l)*F i l)
   rw [e1,n6 hc,h i hi]; grind
  ·rw [if_neg hj']
 rw [e,r4 hc F (fun l=>if l=c then 0 else - y l),if_pos Y]; grind
theorem uh {α:Type} {p:α→Bool} {l:List α} (h : ¬ (l.filter p).length<l.length):l.filter p=l:=by
 have h1:=List.length_filter_le p l
 exact List.filter_eq_self.2 (List.length_filter_eq_length_iff.1 X)
theorem pT {r w n:Nat} {F:Nat→Nat→Int} (h : ¬ (lX r w F n).length<n):lX r w F n=List.range n:=by
 unfold lX at *
 have:=uh (l:=List.range n) (p:=fun c => @decide (mZ r w F c) (Classical.propDecidable _)) (by rw [List.length_range]; exact h)
 exact this
theorem ov {r w n:Nat} {F:Nat→Nat→Int} (h:(lX r w F n).length<n) : ∃ c,c<n ∧ ¬ mZ r w F c:=by
 refine Classical.byContradiction fun hn => ?_
 have:lX r w F n=List.range n:=by
  unfold lX
  rw [List.filter_eq_self]
  intro c hc
  have h1:mZ r w F c:=Classical.byContradiction fun k=>hn ⟨c,List.mem_range.1 hc,k⟩
  simp [h1]
 rw [this,List.length_range] at h
 omega
def yZ (r:Nat) (F:Nat→Nat→Int):Int:=if (elN r false F r).piv.length<r then 0 else if (elN r false F r).odd then -(elN r false F r).last else (elN r false F r).last
theorem vG (r:Nat) (F:Nat→Nat→Int):yZ r F=bW r F:=by
 have key:((yZ r F:Int):Rat)=((bW r F:Int):Rat):=by
  rw [dn]
  obtain ⟨A,V,h⟩:=q7 r r false F r (Nat.le_refl _)
  unfold yZ
  split
  ·rename_i hp
   rw [h.pl] at hp
   obtain ⟨c,hc,hn⟩:=ov hp
   obtain ⟨y,y1,y2,y3⟩:=Classical.not_not.1 hn
   rw [vF hc y1 y3]; rfl
  ·rename_i hp
   have hl:(elN r false F r).piv.length=r:=by have:=h.gj.pr;omega
   have hr:=pT (by rw [← h.pl]; exact hp)
   have hd:=h.gj.dP
   rw [hl] at hd
   have e1:det r (fun a b=>(A a (pv (elN r false F r) b):Rat))=det r (fun a b=>(A a b:Rat)):=bG fun a b ha hb=>by
    show ((A a ((elN r false F r).piv.getD b 0):Int):Rat)=_
    rw [h.pl,hr]
    simp [List.getD,hb]
   rw [e1,h.sg] at hd
   cases ho:(elN r false F r).odd
   ·rw [ho] at hd
    simp at hd ⊢
    rw [hd]
   ·rw [ho] at hd
    simp at hd ⊢
    rw [hd]; grind
 exact_mod_cast key
end Tor.Lin
end
section
namespace Tor
open Go Go.RowKit Go.Proofs
theorem A8 (i k:Nat) (φ:Nat→VT) (h:i≠k):upd (upd φ i (φ k)) k (φ i)=swp i k φ:=by
 funext q;unfold upd swp
 by_cases h1:q=k
 ·subst h1;rw [if_pos Y,if_neg (fun e=>h e.symm),if_pos Y]
 ·rw [if_neg h1]; by_cases h2:q=i
  ·rw [if_pos h2,if_pos h2]
  ·rw [if_neg h2,if_neg h2,if_neg h1]
abbrev eI (b:Nat) (sv:Option Nat) (r cap:Nat) (last:Int) (odd:Bool) (ψ:VT):Own:=aP b 117 5 [(0, .one,one (slV sv r cap)),(1, .agg 2,aL last),(3, .one,one (.bool odd)),(4, .one, ψ)]
attribute [local irreducible] J PJ aJ one slT bQ bC bv exT bZ eP aP aI slV VT.le Ret bJ
attribute [local irreducible] aL
theorem A9 (b bs r cap:Nat) (last:Int) (odd:Bool) (ψ:VT) (φ:Nat→VT) [hF : ∀ i,Flat (φ i) .one] (i k:Nat) (hi:i<r) (hk:k<r) (hne:(i:Int)≠(k:Int)) :
  OkI Tryz.prog 126 [one (.pointer (some ⟨b,0,none⟩)),one (.int .i64 (i:Nat)),one (.int .i64 (k:Nat))] [eI b (some bs) r cap last odd ψ,aI (some bs) 32 .one cap r φ]
   (fun _:Unit=>bv []) (fun _ => [eI b (some bs) r cap last (!odd) ψ,aI (some bs) 32 .one cap r (swp i k φ)]):=by
 refine OkI.enter Tryz.func126 Y Tryz.ntmps126 Y (fun w O => ?_)
 refine ae (ai (Em Y (Em Y (El (sT (by assumption) (dy Y Y)) (Ep (aa (aH Y (ae ?_))))))))
 refine iC (Γ1 := [(0,one (.pointer (some ⟨b,0,none⟩)))]) (M1 := [eI b (some bs) r cap last odd ψ,aI (some bs) 32 .one cap r (upd (upd φ i (φ k)) k (φ i))]) 24 5 [9] [] a4 Z S ?_ ?_
 ·refine Em Y (El (bH Y) (El (aj Y) (El (ak 0 Y Y Y) (Em Y (Em Y (El (bH Y) (El (aj Y) (El (ak 0 Y Y Y) (Em Y ?_)))))))))
  refine Em Y (El (bH Y) (El (aj Y) (El (ak 0 Y Y Y) (Em Y (El (ao Y Y X) (El (be 1 Y Y X) (Em Y (El (bH Y) (El (aj Y) ?_)))))))))
  refine El (ak 0 Y Y Y) (Em Y (El (ao Y Y X) (El (be 1 Y Y X) (Ep ?_))))
  refine ye (Γe := [(0,_),(12,_),(13,_),(25,_),(17,_),(32,_),(2,_)]) (Γe' := [(0,_),(12,_),(13,_),(25,_),(17,_),(32,_),(18,_)]) (rem := [24,25,26,27]) Y Ej Y Ej Y ?_ ?_
  ·refine bL (rem' := [24,25,26,27]) (rem'' := [9,25,26,27]) (i:=9) (j:=24) Z Y Y Y Y ?_ ?_ iB.nil
   refine Em Y (Ep ?_)
   refine ⟨rfl,?_⟩
   refine an (rem' := [25,26,27]) (i:=24) Z Y Y ?_ iB.nil
   refine El (ao Y Y X) (Ep ?_)
   refine ⟨rfl,?_⟩
   refine an (rem' := [26,27]) (i:=25) Z Y Y ?_ iB.nil
   (refine aw 1 Y Y Y ?_ Y ?_;omega)
   refine Ep ?_
   refine ⟨rfl,?_⟩
   refine an (rem' := [27]) (i:=26) Z Y Y ?_ iB.nil
   refine El (ao Y Y X) (Ep ?_)
   refine ⟨rfl,?_⟩
   refine an (rem' := []) (i:=27) Z Y Y ?_ iB.nil
   (refine aw 1 Y Y Y ?_ Y ?_;omega)
   refine Ep ?_
   refine ⟨rfl,?_⟩
   refine aT Ej (SubM.refl _) iB.nil
   refine El (ao Y Y X) (Ep ?_)
   refine ⟨rfl,?_⟩
   refine bL (rem' := [25,26,27]) (rem'' := [9,26,27]) (i:=9) (j:=25) Z Y Y Y Y ?_ ?_ iB.nil
   refine Em Y (Ep ?_)
   refine ⟨rfl,?_⟩
   refine an (rem' := [26,27]) (i:=25) Z Y Y ?_ iB.nil
   (refine aw 1 Y Y Y ?_ Y ?_;omega)
   refine Ep ?_
   refine ⟨rfl,?_⟩
   refine an (rem' := [27]) (i:=26) Z Y Y ?_ iB.nil
   refine El (ao Y Y X) (Ep ?_)
   refine ⟨rfl,?_⟩
   refine an (rem' := []) (i:=27) Z Y Y ?_ iB.nil
   (refine aw 1 Y Y Y ?_ Y ?_;omega)
   refine Ep ?_
   refine ⟨rfl,?_⟩
   refine aT Ej (SubM.refl _) iB.nil
   (refine aw 1 Y Y Y ?_ Y ?_;omega)
   refine Ep ?_
   refine ⟨rfl,?_⟩
   refine an (rem' := [26,27]) (i:=9) Z Y Y ?_ iB.nil
   refine Em Y (Ep ?_)
   refine ⟨rfl,?_⟩
   refine an (rem' := [27]) (i:=26) Z Y Y ?_ iB.nil
   refine El (ao Y Y X) (Ep ?_)
   refine ⟨rfl,?_⟩
   refine an (rem' := []) (i:=27) Z Y Y ?_ iB.nil
   (refine aw 1 Y Y Y ?_ Y ?_;omega)
   refine Ep ?_
   refine ⟨rfl,?_⟩
   refine aT Ej (SubM.refl _) iB.nil
  ·refine an (rem' := [25,26,27]) (i:=24) Z Y Y ?_ iB.nil
   refine El (ao Y Y X) (Ep ?_)
   refine ⟨rfl,?_⟩
   refine an (rem' := [26,27]) (i:=25) Z Y Y ?_ iB.nil
   (refine aw 1 Y Y Y ?_ Y ?_;omega)
   refine Ep ?_
   refine ⟨rfl,?_⟩
   refine an (rem' := [27]) (i:=26) Z Y Y ?_ iB.nil
   refine El (ao Y Y X) (Ep ?_)
   refine ⟨rfl,?_⟩
   refine an (rem' := []) (i:=27) Z Y Y ?_ iB.nil
   (refine aw 1 Y Y Y ?_ Y ?_;omega)
   refine Ep ?_
   refine ⟨rfl,?_⟩
   refine aT Ej (SubM.refl _) iB.nil
 ·rw [A8 i k φ X]
  refine aa (ai (Em Y (Em Y (El (bH Y) (El (aj Y) (El (ak 0 Y Y Y) (El (cR Y) (El (bH Y) (El (aj Y) ?_)))))))))
  refine aA 0 Y Y Y Y Y (leN Y) Y (Ep (i6 ?_))
  exact ln (σ:=Unit) (ψ:=fun _=>bv []) () Tryz.results126 H (SubM.refl _)
theorem y4 (b bs r cap:Nat) (last:Int) (odd:Bool) (ψ:VT) (φ:Nat→VT) [hF : ∀ i,Flat (φ i) .one] (i:Nat) (hi:i<r) :
  OkI Tryz.prog 126 [one (.pointer (some ⟨b,0,none⟩)),one (.int .i64 (i:Nat)),one (.int .i64 (i:Nat))] [eI b (some bs) r cap last odd ψ,aI (some bs) 32 .one cap r φ]
   (fun _:Unit=>bv []) (fun _ => [eI b (some bs) r cap last odd ψ,aI (some bs) 32 .one cap r φ]):=by
 refine OkI.enter Tryz.func126 Y Tryz.ntmps126 Y (fun w O => ?_)
 refine ae (ai (Em Y (Em Y (El (sF X (dy Y Y)) (Ep (aa (aB Y (az (i6 ?_)))))))))
 exact ln (σ:=Unit) (ψ:=fun _=>bv []) () Tryz.results126 H (SubM.refl _)
theorem y5 (b bs r cap:Nat) (last:Int) (odd:Bool) (ψ:VT) (φ:Nat→VT) [hF : ∀ i,Flat (φ i) .one] (i k:Nat) (hi:i<r) (hk:k<r) :
  OkI Tryz.prog 126 [one (.pointer (some ⟨b,0,none⟩)),one (.int .i64 (i:Nat)),one (.int .i64 (k:Nat))] [eI b (some bs) r cap last odd ψ,aI (some bs) 32 .one cap r φ]
   (fun _:Unit=>bv []) (fun _ => [eI b (some bs) r cap last (xor odd (decide (i≠k))) ψ,aI (some bs) 32 .one cap r (swp i k φ)]):=by
 by_cases h:i=k
 ·subst h
  rw [gS,show xor odd (decide (i≠i))=odd by simp]
  exact y4 b bs r cap last odd ψ φ i hi
 ·rw [show xor odd (decide (i≠k)) = !odd by simp [h]]
  exact A9 b bs r cap last odd ψ φ i k hi hk X
end Tor
end
section
namespace Tor
open Go Go.RowKit Go.Proofs
abbrev jb (w:Nat) (f:Nat→Nat):VT:=slT .one w (fun j=>one (.int .u64 (f j:Nat)))
abbrev wP (p n w:Nat) (W:Nat→Nat→Nat):VT:=bC 3 [(0, .one,one (.int .u64 (p:Nat))),(1, .one,one (.int .i64 (w:Nat))),(2, .one,slT .one n (fun i=>jb w (W i)))]
theorem ui {sv:Option Nat} {T:TypeId} {cap c j p k:Nat} {f g:Nat→Nat} : Own.le (aI sv T .one cap c (upd (fun q=>one (.int .u64 ((if q<j then (f q+k*g q % p) % p else f q:Nat)))) j (one (.int .u64 ((f j+k*g j % p) % p:Nat))))) (aI sv T .one cap c (fun q=>one (.int .u64 ((if q<j+1 then (f q+k*g q % p) % p else f q:Nat))))):=bg fun q _=>by
 unfold upd
 by_cases h:q=j
 ·subst h;rw [if_pos Y,if_pos (Nat.lt_succ_self q)]
 ·rw [if_neg h]
  dsimp only
  by_cases h2:q<j
  ·rw [if_pos h2,if_pos X]
  ·rw [if_neg h2,if_neg X]
attribute [local irreducible] J PJ aJ one slT bQ bC bv exT bZ eP aP aI slV VT.le Ret bJ
theorem uj (p x:Nat) (hx:x<p):Ok Tryz.prog 192 [one (.int .u64 (x:Nat)),bQ .one (one (.int .u64 (p:Nat)))] (one (.bool false)):=by
 refine Ok.enter Tryz.func192 Y Tryz.ntmps192 Y (fun w O => ?_)
 refine ae (ai (En Y (Ep (aa (ae (ai (Em Y (El (aM Y) (El (sF X (fh Y Y)) ?_)))))))))
 refine En Y (Ep (aa (aF ?_)))
 refine aV Tryz.results192 (.tmp Y H)
theorem wQ (p c:Nat) (f:Nat→Nat) (hf : ∀ j,j<c→f j<p) (hc:c≤1048576):Ok Tryz.prog 194 [jb c f,iZ 192 [bQ .one (one (.int .u64 (p:Nat)))]] (one (.int .i64 (-1))):=by
 have hC:=fun i (hi:i<c)=>(fo.clo (uj p (f i) (hf i hi)):fo Tryz.prog (iZ 192 [bQ .one (one (.int .u64 (p:Nat)))]) [one (.int .u64 (f i:Nat))] (one (.bool false)))
 generalize iZ 192 [bQ .one (one (.int .u64 (p:Nat)))]=cl at *
 refine Ok.enter Tryz.func194 Y Tryz.ntmps194 Y (fun w O => ?_)
 refine ae (ai (En Y (Ep (aa (ae (ae (ai (Em Y (El (aW Y) ?_)))))))))
 refine Em Y (Ep (aa (au (cp (Γ' := [(0,_),(1,_),(4,_),(7,_),(8,_)]) Eg (SubM.refl _) ?_))))
 refine bD (σ:=Nat) (Γk := [(0,_),(1,_),(7,_)]) Eg (fun i => [(8,one (.int .i64 (i:Nat)))]) (fun i M0=>M0) (fun i=>i≤c) (fun i=>c - i) (0) (Nat.zero_le _) Eh (.nil) (fun i hi => ?_)
 refine bU (Γ' := [(8,_),(0,_),(1,_),(7,_)]) (M' := []) Y Y ?_
 by_cases hi':i<c
 ·have h1:=hC i hi'
  refine ae (ai (El (sT X (a7 Y Y)) (Ep (aa (ae (aH Y (az (aa (ae ?_)))))))))
  refine au (ae (ai (Em Y (En Y (Ep (aa (ae (ai (Em Y ?_)))))))))
  refine Em Y (Em Y (El (aC Y Y X) (El (aM Y) ?_)))
  refine El (lg h1 Y Y ⟨H,Er⟩) ?_
  refine Ep (aa (aB Y (az (aD (aa (ai (El (bI _ 1 Y Y X) (Em Y (Ep ?_)))))))))
  refine aR (i+1) X X Eh (.nil)
 ·refine ae (ai (El (sF X (a7 Y Y)) (Ep (aa (ae (aB Y (aX (av (av ?_)))))))))
  refine aE (aa (ae (ai (En Y (Ep (aa (aF ?_)))))))
  refine aV Tryz.results194 (.tmp Y H)
theorem q8 (p c:Nat) (f:Nat→Nat) (hf : ∀ j,j<c→f j<p) (hc:c≤1048576):Ok Tryz.prog 191 [jb c f,iZ 192 [bQ .one (one (.int .u64 (p:Nat)))]] (one (.bool false)):=by
 have hi:=wQ p c f hf hc
 refine Ok.enter Tryz.func191 Y Tryz.ntmps191 Y (fun w O => ?_)
 refine ae (ai (En Y (Ep (aa (ae (ai (Em Y (Em Y ?_))))))))
 refine El (am (hi) Y ⟨H,H,Er⟩) ?_
 refine El (sF X (fh Y Y)) (En Y (Ep (aa (aF ?_))))
 refine aV Tryz.results191 (.tmp Y H)
theorem uk (p c:Nat) (f:Nat→Nat) (hf : ∀ j,j<c→f j<p) (hc:c≤1048576):Ok Tryz.prog 180 [one (.int .u64 (p:Nat)),jb c f] (one (.bool true)):=by
 have hi:=q8 p c f hf hc
 refine Ok.enter Tryz.func180 Y Tryz.ntmps180 Y (fun w O => ?_)
 refine ae (ai ?_)
 refine gL Y Y (ltN Y) (fun b2 => ?_)
 refine En Y (Ep (aa (ae (ai (Em Y (El (kx Y) (rC [aP b2 44 1 [(0, .one,one (.int .u64 (p:Nat)))]] (Kp := []) (Kp' := []) (List.Perm.refl _) (EntM.refl []) (we.set (t:=6) Y (Ent.clo1 (Ent.ptr List.mem_cons_self List.mem_cons_self))) ?_)))))))
 refine El (am (hi) Y ⟨H,H,Er⟩) ?_
 refine El (cR Y) (En Y (Ep (aa (aF ?_))))
 refine aV Tryz.results180 (.tmp Y H)
theorem wR (p n c:Nat) (W:Nat→Nat→Nat) (hp:cC p=true) (hp':p<2147483648) (hW : ∀ i j,i<n→j<c→W i j<p) (hn:n≤1048576) (hc:c≤1048576):Ok Tryz.prog 160 [wP p n c W] (one (.bool true)):=by
 have h1:=j9 p X
 rw [hp] at h1
 refine Ok.enter Tryz.func160 Y Tryz.ntmps160 Y (fun w O => ?_)
 refine ae (ai ?_)
 refine aS Y Y (ltN Y) (fun b1 => ?_)
 refine En Y (Ep (aa (ae (ae (ai (El (aj Y) (El (ak 0 Y Y Y) ?_)))))))
 refine El (am (h1) Y ⟨H,Er⟩) ?_
 refine El (cR Y) (Em Y (Eo (aj Y) (Eo (ak 0 Y Y Y) (Eo (sF X (a7 Y Y)) (El (bE Y Y) (Ep (aa (aB Y (az ?_)))))))))
 refine aa (ae (ae (ai (El (aj Y) (El (ak 0 Y Y Y) (El (aW Y) (Em Y (Ep (aa ?_)))))))))
 refine au (cp (Γ' := [(1,_),(2,_),(15,_),(16,_),(17,_)]) Eg (SubM.refl _) ?_)
 refine bD (σ:=Nat) (Γk := [(1,_),(15,_),(16,_)]) Eg (fun i => [(17,one (.int .i64 (i:Nat)))]) (fun i M0=>M0) (fun i=>i≤n) (fun i=>n - i) (0) (Nat.zero_le _) Eh (.keep Ek (.nil)) (fun i hi => ?_)
 refine bU (Γ' := [(17,_),(1,_),(15,_),(16,_)]) (M' := [_]) Y Y ?_
 by_cases hi':i<n
 ·have h2:=uk p c (W i) (fun j hj=>hW i j hi' hj) hc
  refine ae (ai (El (sT X (a7 Y Y)) (Ep (aa (ae (aH Y (az (aa (ae ?_)))))))))
  refine au (ae (ai (El (aC Y Y X) (El (aM Y) (En Y (Ep (aa (ae (ai ?_)))))))))
  refine Em Y (El (aW Y) (El (aj Y) (El (ak 0 Y Y Y) (El (sF X (dy Y Y)) (Em Y (Eo (aj Y) (Eo (ak 0 Y Y Y) (Eo (ab Y) ?_))))))))
  refine Eo (am (h2) Y ⟨H,H,Er⟩) ?_
  refine Eo (cR Y) (El (bE Y Y) (Ep (aa (aB Y (az (aD (aa (ai (El (bI _ 1 Y Y X) ?_)))))))))
  refine Em Y (Ep ?_)
  refine aR (i+1) X X Eh (.keep Ek (.nil))
 ·refine ae (ai (El (sF X (a7 Y Y)) (Ep (aa (ae (aB Y (aX (av (av ?_)))))))))
  refine aE (aa (ae (ai (En Y (Ep (aa (aF ?_)))))))
  refine aV Tryz.results160 (.tmp Y H)
theorem wS (c:Nat) (f:Nat→Nat) (hc0:0<c) (hc:c≤1048576):OkM (σ:=Nat × Nat) Tryz.prog 181 [jb c f] (fun s=>one (slV (some s.1) c s.2)) (fun s => [aI (some s.1) 44 .one s.2 c (fun j=>one (.int .u64 (f j:Nat)))]):=by
 refine OkM.enter Tryz.func181 Y Tryz.ntmps181 Y (fun w O => ?_)
 refine ae (ai (En Y (Ep (aa (ae (ae (ai (Em Y (El (qq Y) ?_)))))))))
 refine Ep (aa ?_)
 refine wb (t:=4) Y (fun b => ?_)
 refine po (t:=4) Y (fun hb => ?_)
 refine a5 Y (fun hc => ?_) (fun hc => ?_)
 ·exact absurd (hb hc) X
 ·refine az (aa (ae (ai (nJ (n:=0) Y Y Y Y Y ?_))))
  refine PartsK.nil (fun bl => ?_)
  refine Em Y ?_
  (refine cW 0 Y Y Y (leN Y) ?_ ?_ Y (ltN Y) (fun sv7 cap7 => ?_);omega;omega)
  refine En Y (Ep (aa (aF ?_)))
  refine yo (i:=0) (F:=sv7=none→0+c=0) Y (fun g h hp he=>iU hp he) (fun hsv => ?_)
  obtain ⟨bo,rfl⟩:=fZ hsv X
  exact ks (bo,cap7) Tryz.results181 (.tmp Y (lM (Nat.zero_add c))) (.keep (gY (Nat.zero_add c) (fun q hq=>by rw [if_neg (Nat.not_lt_zero q),Nat.sub_zero])) .nil)
theorem y6 (p c b1 b2 cap1 cap2 k:Nat) (f g:Nat→Nat) (hp0:0<p) (hp:p<4294967296) (hk:k<p) (hf : ∀ j,j<c→f j<p) (hg : ∀ j,j<c→g j<p) (hc:c≤1048576) :
  OkI Tryz.prog 184 [one (.int .u64 (p:Nat)),one (slV (some b1) c cap1),one (slV (some b2) c cap2),one (.int .u64 (k:Nat))] [aI (some b1) 44 .one cap1 c (fun j=>one (.int .u64 (f j:Nat))),aI (some b2) 44 .one cap2 c (fun j=>one (.int .u64 (g j:Nat)))]
   (fun _:Unit=>bv []) (fun _ => [aI (some b1) 44 .one cap1 c (fun j=>one (.int .u64 ((f j+k*g j % p) % p:Nat))),aI (some b2) 44 .one cap2 c (fun j=>one (.int .u64 (g j:Nat)))]):=by
 refine OkI.enter Tryz.func184 Y Tryz.ntmps184 Y (fun w O => ?_)
 by_cases h0:k=0
 ·subst h0
  refine ae (ae (ai (Em Y (El (sT X (cm Y Y)) (Ep (aa (aH Y (aF (aU ?_)))))))))
  exact ln (σ:=Unit) (ψ:=fun _=>bv []) () Tryz.results184 H (.keep (bg fun q hq=>by rw [Nat.zero_mul,Nat.zero_mod,Nat.add_zero,Nat.mod_eq_of_lt (hf q hq)]) (SubM.refl _))
 ·refine ae (ae (ai (Em Y (El (sF X (cm Y Y)) (Ep (aa (aB Y (az (aa ?_)))))))))
  refine ae (ai (Em Y (El (cv Y) (Em Y (Ep (aa (au (cp (Γ' := [(0,_),(1,_),(3,_),(12,_),(13,_),(14,_)]) Eg (SubM.refl _) ?_))))))))
  refine bD (σ:=Nat) (Γk := [(0,_),(1,_),(3,_),(12,_),(13,_)]) Eg (fun j => [(14,one (.int .i64 (j:Nat)))]) (fun j M0=>(M0.set 0 (aI (some b1) 44 .one cap1 c (fun q=>one (.int .u64 ((if q<j then (f q+k*g q % p) % p else f q:Nat))))))) (fun j=>j≤c) (fun j=>c - j) (0) (Nat.zero_le _) Eh (.keep Ek (.keep Ek (.nil))) (fun j hj => ?_)
  refine bU (Γ' := [(14,_),(0,_),(1,_),(3,_),(12,_),(13,_)]) (M' := [_,_]) Y Y ?_
  by_cases hj:j<c
  ·have h1:=hf j hj
   have h2:=hg j hj
   have h3:k*g j % p<p:=Nat.mod_lt _ hp0
   have hm:=it p k (g j) hp0 hp X X
   have ha:=vC p (f j) (k*g j % p) hp0 hp X X
   refine ae (ai (El (sT X (a7 Y Y)) (Ep (aa (ae (aH Y (az (aa (ae ?_)))))))))
   refine au (ae (ai (Em Y (El (ao Y Y X) (El (be 1 Y Y X) (En Y (En Y (Ep (aa ?_)))))))))
   refine a8 12 a4 Z S (Em Y (Em Y (Em Y (Em Y (Em Y (El (ao Y Y X) (El (be 0 Y Y X) (Em Y (Em Y ?_)))))))))
   refine Em Y ?_
   refine El (am (hm) Y ⟨H,H,H,Er⟩) ?_
   refine El (am (ha) Y ⟨H,(aq (by rw [if_neg (Nat.lt_irrefl j)])),H,Er⟩) ?_
   refine Ep (El (ao Y Y X) ?_)
   (refine aw 0 Y Y Y ?_ Y ?_;omega)
   refine Ep (aD (aa (ai (El (bI _ 1 Y Y X) (Em Y (Ep ?_))))))
   refine aR (j+1) X X Eh (.keep (ui) (.keep Ek (.nil)))
  ·refine ae (ai (El (sF X (a7 Y Y)) (Ep (aa (ae (aB Y (aX (av (av ?_)))))))))
   refine aE (i6 ?_)
   exact ln (σ:=Unit) (ψ:=fun _=>bv []) () Tryz.results184 H (.keep (bg fun q hq=>by rw [if_pos X]) (SubM.refl _))
end Tor
end
section
namespace Tor
open Go Go.RowKit Go.Proofs
abbrev wT (W:Nat→Nat→Nat):Nat→Nat→VT:=fun i j=>one (.int .u64 (W i j:Nat))
abbrev sM (bz n:Nat) (c:Nat) (B C:Nat→Nat):Own:=aI (some bz) 173 .one n n (fun q=>one (slV (some (B q)) c (C q)))
abbrev ow (c n:Nat) (B C:Nat→Nat) (W:Nat→Nat→Nat) (Ed:Nat→Bool):Own:=rwO 44 .one c n B C (wT W) Ed
theorem wU {bz n c i b cap:Nat} {B C:Nat→Nat} {φ:Nat→VT} (hφ:φ=fun q=>if q<i then one (slV (some (B q)) c (C q)) else one (.slice none 0 0)):Own.le (aI (some bz) 173 .one n n (upd φ i (one (slV (some b) c cap)))) (aI (some bz) 173 .one n n (fun q=>if q<i+1 then one (slV (some (if q=i then b else B q)) c (if q=i then cap else C q)) else one (.slice none 0 0))):=bg fun q _=>by
 subst hφ
 unfold upd
 by_cases h:q=i
 ·subst h;rw [if_pos Y,if_pos (Nat.lt_succ_self q),if_pos Y,if_pos Y]
 ·rw [if_neg h]
  dsimp only
  by_cases h2:q<i
  ·rw [if_pos h2,if_pos X,if_neg h,if_neg h]
  ·rw [if_neg h2,if_neg X]
theorem wV {n c i b cap:Nat} {B C:Nat→Nat} {W:Nat→Nat→Nat} : Own.le (rwO 44 .one c n (fun q=>if q=i then b else B q) (fun q=>if q=i then cap else C q) (fun q=>if q=i then (fun j=>one (.int .u64 (W i j:Nat))) else wT W q) (fun q=>if q=i then false else decide (i≤q))) (ow c n (fun q=>if q=i then b else B q) (fun q=>if q=i then cap else C q) W (fun q=>decide (i+1≤q))):=kE (fun q _=>by
  by_cases h:q=i
  ·rw [if_pos h,decide_eq_false X]
  ·rw [if_neg h]; exact decide_eq_decide.2 X) (fun q _ _=>⟨rfl,rfl⟩) (fun q j _ _ _=>by
  by_cases h:q=i
  ·rw [if_pos h,h]; exact VT.le_refl _
  ·rw [if_neg h]; exact VT.le_refl _)
abbrev DJ:Type:=(Nat→Nat) × (Nat→Nat) × Nat
theorem y7 {a b a' b':Own} (h1:Own.le a a') (h2:Own.le b b'):ConvM [a,b] [b',a']:=by
 refine ⟨?_,fun g h Ef o ho => ?_⟩
 ·show (a.bl ++ (b.bl ++ [])).Perm (b'.bl ++ (a'.bl ++ []))
  rw [← h1.1, ← h2.1,List.append_nil,List.append_nil]; exact List.perm_append_comm
 ·rcases List.mem_cons.1 ho with rfl | ho
  ·exact h2.2 _ _ (Ef _ (List.mem_cons_of_mem _ List.mem_cons_self))
  ·rcases List.mem_singleton.1 ho with rfl
   exact h1.2 _ _ (Ef _ List.mem_cons_self)
attribute [local irreducible] J PJ aJ one slT bQ bC bv exT bZ eP aP aI slV VT.le Ret bJ
attribute [local irreducible] rwO
theorem sN (n c:Nat) (W:Nat→Nat→Nat) (hc0:0<n→0<c) (hn:n≤1048576) (hc:c≤1048576):OkM (σ:=DJ) Tryz.prog 161 [slT .one n (fun i=>jb c (W i))] (fun s=>one (slV (some s.2.2) n n)) (fun s => [sM s.2.2 n c s.1 s.2.1,ow c n s.1 s.2.1 W (fun _=>false)]):=by
 refine OkM.enter Tryz.func161 Y Tryz.ntmps161 Y (fun w O => ?_)
 refine ae (ai (En Y (Ep (aa (ae (ai (Em Y (El (aW Y) ?_))))))))
 refine bV n n Y Y Y Y (Nat.le_refl _) Y Y X Y Y (fun bz => ?_)
 refine En Y (Ep (aa (ae (ae (ai (Em Y (El (aW Y) (Em Y (Ep ?_)))))))))
 refine aa (au ?_)
 refine gn (ym (T:=44) (L := .one) (c:=c) (n:=n) (B:=fun _=>0) (C:=fun _=>0) (φ:=wT W) (Ed:=fun q=>decide (0≤q)) (fun i _=>decide_eq_true (Nat.zero_le i))) ?_
 refine cp (Γ' := [(2,_),(3,_),(9,_),(10,_),(11,_)]) Eg (SubM.refl _) ?_
 refine bD (σ:=Nat × (Nat→Nat) × (Nat→Nat)) (Γk := [(2,_),(3,_),(9,_),(10,_)]) Eg (fun s => [(11,one (.int .i64 (s.1:Nat)))]) (fun s M0=>((M0.set 1 (aI (some bz) 173 .one n n (fun q=>if q<s.1 then one (slV (some (s.2.1 q)) c (s.2.2 q)) else one (.slice none 0 0)))).set 0 (ow c n s.2.1 s.2.2 W (fun q=>decide (s.1≤q))))) (fun s=>s.1≤n) (fun s=>n - s.1) ((0,fun _=>0,fun _=>0)) (Nat.zero_le _) Eh (.keep Ek (.keep Ek (.nil))) (fun s hs => ?_)
 refine bU (Γ' := [(11,_),(2,_),(3,_),(9,_),(10,_)]) (M' := [_,_]) Y Y ?_
 obtain ⟨i,B,C⟩:=s
 dsimp only at hs ⊢
 by_cases hi:i<n
 ·have h1:=wS c (W i) (hc0 X) hc
  refine ae (ai (El (sT X (a7 Y Y)) (Ep (aa (ae (aH Y (az (aa (ae ?_)))))))))
  refine au (ae (ai (Em Y (El (aC Y Y X) (El (aM Y) (En Y (En Y (Ep (aa ?_)))))))))
  refine ai (Em Y (Em Y (Em Y ?_)))
  refine fU (h1) Y ⟨H,Er⟩ Y Y (fun s19 => ?_)
  refine El (ao Y Y X) ?_
  (refine aw 2 Y Y Y ?_ Y ?_;omega)
  refine Ep (aD (aa (ai (El (bI _ 1 Y Y X) (Em Y (Ep (fl (lG (i:=i) hi (decide_eq_true (Nat.le_refl i))) ?_)))))))
  refine aR ((i+1,(fun q=>if q=i then s19.1 else B q),fun q=>if q=i then s19.2 else C q)) X X Eh (.keep (wV) (.keep (wU Y) (.nil)))
 ·have he:i=n:=by omega
  subst he
  refine ae (ai (El (sF X (a7 Y Y)) (Ep (aa (ae (aB Y (aX (av (av ?_)))))))))
  refine aE (aa (ae (ai (Em Y (En Y (Ep (aa (aF ?_))))))))
  refine fl (y7 (a':=ow c i B C W (fun _=>false)) (b':=sM bz i c B C) (kE (fun q hq=>decide_eq_false X) (fun q _ _=>⟨rfl,rfl⟩) (fun q j _ _ _=>VT.le_refl _)) (bg fun q hq=>by rw [if_pos hq])) ?_
  exact ks ((B,C,bz):DJ) Tryz.results161 (.tmp Y H) (SubM.refl _)
def CX (W:Nat→Nat→Nat) (n k c i:Nat):Prop:=k≤i∧i<n∧W i c≠0 ∧ ∀ q,k≤q→q<i→W q c=0
theorem wW (bz n c k e i:Nat) (B C:Nat→Nat) (W:Nat→Nat→Nat) (he:e<c) (hn:n≤1048576) (hf:CX W n k e i) :
  OkI Tryz.prog 182 [one (slV (some bz) n n),one (.int .i64 (k:Nat)),one (.int .i64 (e:Nat))] [sM bz n c B C,ow c n B C W (fun _=>false)]
   (fun _:Unit=>one (.int .i64 (i:Nat))) (fun _ => [sM bz n c B C,ow c n B C W (fun _=>false)]):=by
 obtain ⟨f1,f2,f3,f4⟩:=hf
 refine OkI.enter Tryz.func182 Y Tryz.ntmps182 Y (fun w O => ?_)
 refine ae (ai (En Y (Ep (aa (ij (ae (ai (En Y (Ep ?_)))))))))
 refine aa (ae (jU (aa (ae (ae (ai (Em Y (En Y (Ep ?_)))))))))
 refine aa (au (cp (Γ' := [(0,_),(2,_),(6,_),(7,_),(8,_)]) Eg (SubM.refl _) ?_))
 refine bD (σ:=Nat) (Γk := [(0,_),(2,_),(6,_)]) Eg (fun j => [(8,one (.int .i64 (j:Nat)))]) (fun j M0=>M0) (fun j=>k≤j∧j≤i) (fun j=>n - j) (k) (⟨Nat.le_refl _,f1⟩) Eh (.keep Ek (.keep Ek (.nil))) (fun j hj => ?_)
 refine bU (Γ' := [(8,_),(0,_),(2,_),(6,_)]) (M' := [_,_]) Y Y ?_
 obtain ⟨hj1,hj2⟩:=hj
 have hjn:j<n:=by omega
 by_cases hji:j=i
 ·subst hji
  have hz:(W j e:Int)≠0:=by omega
  refine ae (ae (ai (Em Y (Em Y (El (cv Y) (El (sT X (a7 Y Y)) (Ep (aa (aH Y ?_)))))))))
  refine az (aa (ae (au (ae (ai (Em Y (Em Y (El (ao Y Y X) (El (be 0 Y Y X) ?_)))))))))
  refine Em Y (El (ao Y Y X) (El (n7 1 Y Y X Y X) (Ep (aa (au (ae (ai (El (sF (by assumption) (cm Y Y)) (En Y ?_)))))))))
  refine Ep (aa (aB Y (ae (ai (Em Y (En Y (Ep (aa (aX ?_)))))))))
  refine c9 Y (c9 Y (av (av (aE (aa (ae (ai (Em Y (En Y ?_)))))))))
  refine Ep (aa (aF (eh ?_)))
  exact pw (σ:=Unit) () Tryz.results182 (.tmp Y H) (SubM.refl _)
 ·have hz:(W j e:Int)=0:=by have:=f4 j hj1 X;omega
  refine ae (ae (ai (Em Y (Em Y (El (cv Y) (El (sT X (a7 Y Y)) (Ep (aa (aH Y ?_)))))))))
  refine az (aa (ae (au (ae (ai (Em Y (Em Y (El (ao Y Y X) (El (be 0 Y Y X) ?_)))))))))
  refine Em Y (El (ao Y Y X) (El (n7 1 Y Y X Y X) (Ep (aa (au (ae (ai (El (sT (by assumption) (cm Y Y)) (En Y ?_)))))))))
  refine Ep (aa (aH Y (az (aD (aD (aa (ai (Em Y (El (bI _ 1 Y Y X) ?_)))))))))
  refine En Y (Ep ?_)
  refine aR (j+1) X X Eh (.keep Ek (.keep Ek (.nil)))
end Tor
end
section
namespace Tor
theorem f7 (n:Nat) (f g:Nat→Int):bh n (fun k=>f k+g k)=bh n f+bh n g:=by
 induction n with
 | zero => rfl
 | succ n ih => rw [bh, bh, bh, ih]; omega
theorem du (n:Nat) (a:Int) (f:Nat→Int):bh n (fun k=>a*f k)=a*bh n f:=by
 induction n with
 | zero => simp [bh]
 | succ n ih => rw [bh, bh, ih, Int.mul_add]
theorem q9 {p:Int} {n:Nat} {f:Nat→Int} (h : ∀ k,k<n→p∣f k):p∣bh n f:=by
 induction n with
 | zero => exact Int.dvd_zero p
 | succ n ih => rw [bh]; exact Int.dvd_add (ih fun k hk => h k X) (h n X)
theorem gk {p:Int} {n:Nat} {f g:Nat→Int} (h : ∀ k,k<n→p∣f k - g k):p∣bh n f - bh n g:=by
 have h1:=q9 h
 rw [show (fun k=>f k - g k)=(fun k=>f k+(-1)*g k) by funext k;omega,f7,du] at h1
 rwa [show bh n f - bh n g=bh n f + -1*bh n g by omega]
theorem ie {n i:Nat} {f:Nat→Int} (hi:i<n) (h : ∀ k,k<n→k≠i→f k=0):bh n f=f i:=by
 induction n with
 | zero => exact absurd hi (Nat.not_lt_zero _)
 | succ n ih =>
  rw [bh]
  by_cases e:i=n
  ·subst e
   have : ∀ m,m≤i→bh m f=0:=fun m=>by
    induction m with
    | zero => exact fun _ => rfl
    | succ m ihm => intro hm; rw [bh, ihm X, h m X X]; rfl
   rw [this i (Nat.le_refl i),Int.zero_add]
  ·rw [ih X (fun k hk hne=>h k X hne),h n X X,Int.add_zero]
theorem d7 (x p:Nat):(p:Int)∣((x % p:Nat):Int) - (x:Int):=⟨-((x / p:Nat):Int),by
 have h:=Nat.div_add_mod x p
 have:(x:Int)=(p:Int)*((x / p:Nat):Int)+((x % p:Nat):Int):=by rw [← Int.natCast_mul, ← Int.natCast_add,h]
 rw [this,Int.mul_neg]; omega⟩
theorem fA {p a b c:Int} (h1:p∣a - b) (h2:p∣b - c):p∣a - c:=by
 have:=Int.dvd_add h1 h2
 rwa [show a - b+(b - c)=a - c by omega] at this
theorem fB {p a b:Int} (h:p∣a - b):p∣b - a:=by
 have:=Int.dvd_neg.2 h
 rwa [show -(a - b)=b - a by omega] at this
theorem iu {p a b:Int} (h:p∣a - b) (hb:p∣b):p∣a:=by
 have:=Int.dvd_add h hb
 rwa [show a - b+b=a by omega] at this
theorem c8 {p a b:Int} (c:Int) (h:p∣a - b):p∣a*c - b*c:=by rw [← Int.sub_mul]; exact Int.dvd_mul_of_dvd_left h
def ig (p inv k:Nat) (W:Nat→Nat→Nat):Nat→Nat→Nat:=fun h j=>if h=k then inv*W k j % p else (W h j+(0+p - W h k) % p*(inv*W k j % p) % p) % p
theorem Ba {p inv k:Nat} {W:Nat→Nat→Nat} (hp:0<p) (h j:Nat):ig p inv k W h j<p:=by
 unfold ig;split <;> exact Nat.mod_lt _ hp
theorem kN {p inv k:Nat} {W:Nat→Nat→Nat} (j:Nat):(p:Int)∣(ig p inv k W k j:Int) - (inv:Int)*(W k j:Int):=by
 unfold ig;rw [if_pos Y, ← Int.natCast_mul]; exact d7 _ _
theorem ox {p inv k:Nat} {W:Nat→Nat→Nat} {h:Nat} (hne:h≠k) (hW:W h k<p) (j:Nat):(p:Int)∣(ig p inv k W h j:Int) - ((W h j:Int) - (W h k:Int)*((inv:Int)*(W k j:Int))):=by
 unfold ig;rw [if_neg hne]
 have h1:=d7 (W h j+(0+p - W h k) % p*(inv*W k j % p) % p) p
 have h2:=d7 ((0+p - W h k) % p*(inv*W k j % p)) p
 have h3:=d7 (0+p - W h k) p
 have h4:=d7 (inv*W k j) p
 rw [Int.natCast_add] at h1
 rw [Int.natCast_mul] at h2 h4
 rw [show ((0+p - W h k:Nat):Int)=(p:Int) - (W h k:Int) by omega] at h3
 have h5:(p:Int)∣(((0+p - W h k) % p:Nat):Int) - (-(W h k:Int)):=by
  have:=Int.dvd_add h3 (Int.dvd_refl (p:Int))
  rwa [show (((0+p - W h k) % p:Nat):Int) - ((p:Int) - (W h k:Int))+(p:Int)=(((0+p - W h k) % p:Nat):Int) - (-(W h k:Int)) by omega] at this
 have h6:(p:Int)∣(((0+p - W h k) % p:Nat):Int)*((inv*W k j % p:Nat):Int) - -(W h k:Int)*((inv:Int)*(W k j:Int)):=by
  refine fA (c8 _ h5) ?_
  rw [Int.mul_comm (-(W h k:Int)),Int.mul_comm (-(W h k:Int))]
  exact c8 _ h4
 have h7:=fA h2 h6
 refine fA h1 ?_
 rw [show (W h j:Int)+((((0+p - W h k) % p*(inv*W k j % p) % p:Nat)):Int) - ((W h j:Int) - (W h k:Int)*((inv:Int)*(W k j:Int)))=((((0+p - W h k) % p*(inv*W k j % p) % p:Nat)):Int) - -(W h k:Int)*((inv:Int)*(W k j:Int)) by rw [Int.neg_mul]; omega]
 exact h7
structure EchI (p n:Nat) (F:Nat→Nat→Int) (k:Nat) (W:Nat→Nat→Nat):Prop where
 lt : ∀ i j,i<n→j<n+n→W i j<p
 unit : ∀ h j,h<n→j<k→W h j=if h=j then 1 else 0
 rel : ∀ h j,h<n→j<n→(p:Int)∣(W h j:Int) - bh n (fun t=>(W h (n+t):Int)*F t j)
 ker : ∀ u:Nat→Int,(∀ h,h<n→(p:Int)∣bh n (fun j=>(W h j:Int)*u j)) → ∀ h,h<n→(p:Int)∣bh n (fun j=>F h j*u j)
theorem EchI.swap {p n k i:Nat} {F:Nat→Nat→Int} {W:Nat→Nat→Nat} (h:EchI p n F k W) (hk:k<n) (hi:i<n) (hki:k≤i):EchI p n F k (swp i k W):=by
 have hrow : ∀ q,q<n → ∃ q',q'<n∧swp i k W q=W q':=fun q hq=>by
  unfold swp
  by_cases e1:q=i
  ·exact ⟨k,hk,by rw [if_pos e1]⟩
  ·by_cases e2:q=k
   ·exact ⟨i,hi,by rw [if_neg e1,if_pos e2]⟩
   ·exact ⟨q,hq,by rw [if_neg e1,if_neg e2]⟩
 have hinv : ∀ q,q<n → ∃ q',q'<n∧W q=swp i k W q':=fun q hq=>by
  unfold swp
  by_cases e1:q=i
  ·exact ⟨k,hk,by
    by_cases e:k=i
    ·rw [if_pos e,e1,e]
    ·rw [if_neg e,if_pos Y,e1]⟩
  ·by_cases e2:q=k
   ·exact ⟨i,hi,by rw [if_pos Y,e2]⟩
   ·exact ⟨q,hq,by rw [if_neg e1,if_neg e2]⟩
 refine ⟨fun q j hq hj => ?_,fun q j hq hj => ?_,fun q j hq hj => ?_,fun u hu q hq=>h.ker u (fun q hq => ?_) q hq⟩
 ·obtain ⟨q',h1,h2⟩:=hrow q hq;rw [h2]; exact h.lt q' j h1 hj
 ·unfold swp
  by_cases e1:q=i
  ·rw [if_pos e1,h.unit k j hk hj,if_neg X,if_neg X]
  ·by_cases e2:q=k
   ·rw [if_neg e1,if_pos e2,h.unit i j hi hj,if_neg X,if_neg X]
   ·rw [if_neg e1,if_neg e2]; exact h.unit q j hq hj
 ·obtain ⟨q',h1,h2⟩:=hrow q hq;rw [h2]; exact h.rel q' j h1 hj
 ·obtain ⟨q',h1,h2⟩:=hinv q hq;rw [h2]; exact hu q' h1
theorem EchI.step {p n k inv:Nat} {F:Nat→Nat→Int} {W:Nat→Nat→Nat} (h:EchI p n F k W) (hp:2≤p) (hk:k<n) (hinv:inv*W k k % p=1):EchI p n F (k+1) (ig p inv k W):=by
 have hlt:=fun q (hq:q<n)=>h.lt q k hq X
 have hc1:(p:Int)∣(inv:Int)*(W k k:Int) - 1:=by
  have:=fB (d7 (inv*W k k) p)
  rw [hinv,Int.natCast_mul] at this
  exact this
 refine ⟨fun q j hq hj=>Ba X q j,fun q j hq hj => ?_,fun q j hq hj => ?_,fun u hu=>h.ker u fun q hq => ?_⟩
 ·by_cases hjk:j<k
  ·have h0:W k j=0:=by rw [h.unit k j hk hjk,if_neg X]
   unfold ig
   rw [h0,Nat.mul_zero,Nat.zero_mod,Nat.mul_zero,Nat.zero_mod,Nat.add_zero]
   by_cases e:q=k
   ·rw [if_pos e,if_neg X]
   ·rw [if_neg e,Nat.mod_eq_of_lt (h.lt q j hq X)]; exact h.unit q j hq hjk
  ·have hjk:j=k:=by omega
   subst hjk
   unfold ig
   rw [hinv]
   by_cases e:q=j
   ·rw [if_pos e,if_pos e]
   ·rw [if_neg e,if_neg e,Nat.mul_one,Nat.mod_mod]
    have:=hlt q hq
    by_cases hz:W q j=0
    ·rw [hz,Nat.zero_add,Nat.zero_add,Nat.sub_zero,Nat.mod_mod,Nat.mod_self]
    ·rw [Nat.mod_eq_of_lt (show 0+p - W q j<p by omega),show W q j+(0+p - W q j)=p by omega,Nat.mod_self]
 ·by_cases e:q=k
  ·subst e
   refine fA (kN j) ?_
   have h1:=c8 (inv:Int) (h.rel q j hq hj)
   rw [Int.mul_comm _ (inv:Int),Int.mul_comm _ (inv:Int), ← du] at h1
   refine fA h1 (gk fun t ht => ?_)
   have h2:=fB (c8 (F t j) (kN (p:=p) (inv:=inv) (k:=q) (W:=W) (n+t)))
   rwa [Int.mul_assoc] at h2
  ·refine fA (ox e (hlt q hq) j) ?_
   have h1:=h.rel q j hq hj
   have h2:=c8 ((W q k:Int)*(inv:Int)) (h.rel k j hk hj)
   have h3:=Int.dvd_sub h1 h2
   have h4:(p:Int)∣bh n (fun t=>(W q (n+t):Int)*F t j+(-((W q k:Int)*(inv:Int)))*((W k (n+t):Int)*F t j)) - bh n (fun t=>(ig p inv k W q (n+t):Int)*F t j):=gk fun t ht=>by
    have h5:=fB (c8 (F t j) (ox (p:=p) (inv:=inv) e (hlt q hq) (n+t)))
    rwa [show ((W q (n+t):Int) - (W q k:Int)*((inv:Int)*(W k (n+t):Int)))*F t j=(W q (n+t):Int)*F t j+(-((W q k:Int)*(inv:Int)))*((W k (n+t):Int)*F t j) by grind] at h5
   rw [f7,du] at h4
   have h5:=Int.dvd_add h3 h4
   generalize bh n (fun t=>(W q (n+t):Int)*F t j)=A at *
   generalize bh n (fun t=>(W k (n+t):Int)*F t j)=B at *
   generalize bh n (fun t=>(ig p inv k W q (n+t):Int)*F t j)=C at *
   rwa [show (W q j:Int) - A - ((W k j:Int)*((W q k:Int)*(inv:Int)) - B*((W q k:Int)*(inv:Int)))+(A + -((W q k:Int)*(inv:Int))*B - C)=(W q j:Int) - (W q k:Int)*((inv:Int)*(W k j:Int)) - C by grind] at h5
 ·have hpk:(p:Int)∣(inv:Int)*bh n (fun j=>(W k j:Int)*u j):=by
   have h1:=hu k hk
   rw [← du]
   refine iu (gk fun j hj => ?_) h1
   have h2:=fB (c8 (u j) (kN (p:=p) (inv:=inv) (k:=k) (W:=W) j))
   rwa [Int.mul_assoc] at h2
  by_cases e:q=k
  ·subst e
   have h1:=Int.dvd_trans hpk (Int.dvd_mul_right _ (W q q:Int))
   have h2:=c8 (bh n (fun j=>(W q j:Int)*u j)) hc1
   generalize bh n (fun j=>(W q j:Int)*u j)=A at *
   have h3:=Int.dvd_sub h1 h2
   rwa [show (inv:Int)*A*(W q q:Int) - ((inv:Int)*(W q q:Int)*A - 1*A)=A by grind] at h3
  ·have h1:=hu q hq
   have h2:(p:Int)∣bh n (fun j=>(W q j:Int)*u j+(-(W q k:Int))*((inv:Int)*((W k j:Int)*u j))) - bh n (fun j=>(ig p inv k W q j:Int)*u j):=gk fun j hj=>by
    have h5:=fB (c8 (u j) (ox (p:=p) (inv:=inv) e (hlt q hq) j))
    rwa [show ((W q j:Int) - (W q k:Int)*((inv:Int)*(W k j:Int)))*u j=(W q j:Int)*u j+(-(W q k:Int))*((inv:Int)*((W k j:Int)*u j)) by grind] at h5
   rw [f7,du,du] at h2
   have h3:=Int.dvd_trans hpk (Int.dvd_mul_left (W q k:Int) _)
   have h4:=Int.dvd_add (iu h2 h1) h3
   generalize bh n (fun j=>(W q j:Int)*u j)=A at *
   generalize (inv:Int)*bh n (fun j=>(W k j:Int)*u j)=B at *
   rwa [show A + -(W q k:Int)*B+(W q k:Int)*B=A by grind] at h4
theorem EchI.first {p n k:Nat} {F:Nat→Nat→Int} {W:Nat→Nat→Nat} (h:EchI p n F k W) (hp:2≤p) (hk:k<n) (hF : ∀ u:Nat→Int,(∀ h,h<n→(p:Int)∣bh n (fun j=>F h j*u j)) → ∀ j,j<n→(p:Int)∣u j) : ∃ i,k≤i∧i<n∧W i k≠0 ∧ ∀ q,k≤q→q<i→W q k=0:=by
 by_cases hz : ∀ q,k≤q→q<n→W q k=0
 ·exfalso
  have h1:=hF (fun j=>if j=k then 1 else if j<k then -(W j k:Int) else 0) (h.ker _ fun q hq => ?_) k hk
  ·rw [if_pos Y] at h1
   have:=Int.le_of_dvd S h1
   omega
  ·have hsum:bh n (fun j=>(W q j:Int)*(if j=k then 1 else if j<k then -(W j k:Int) else 0))=0:=by
    by_cases hqk:q<k
    ·rw [show (fun j=>(W q j:Int)*(if j=k then 1 else if j<k then -(W j k:Int) else 0))=(fun j=>(W q j:Int)*(if j=k then 1 else 0)+(W q j:Int)*(if j<k then -(W j k:Int) else 0)) by
       funext j
       by_cases e:j=k
       ·rw [if_pos e,if_pos e,if_neg X,Int.mul_zero,Int.add_zero]
       ·rw [if_neg e,if_neg e,Int.mul_zero,Int.zero_add],f7,
      ie hk (fun j hj hne=>by rw [if_neg hne,Int.mul_zero]),if_pos Y,Int.mul_one,
      ie hq (fun j hj hne=>by
       by_cases e:j<k
       ·rw [h.unit q j hq e,if_neg (Ne.symm hne)]; simp
       ·rw [if_neg e,Int.mul_zero]),if_pos hqk,h.unit q q hq hqk,if_pos Y]
     omega
    ·rw [c7 (g:=fun _=>(0:Int)*0) (fun j hj=>by
      by_cases e:j=k
      ·rw [e,hz q X hq]; simp
      ·by_cases e2:j<k
       ·rw [h.unit q j hq e2,if_neg X]; simp
       ·rw [if_neg e,if_neg e2,Int.mul_zero,Int.mul_zero]),du,Int.zero_mul]
   rw [hsum]; exact Int.dvd_zero _
 ·have : ∃ i,k≤i∧i<n∧W i k≠0:=Classical.byContradiction fun hc=>hz fun q h1 h2=>Classical.byContradiction fun h3=>hc ⟨q,h1,h2,h3⟩
  obtain ⟨i,h1,h2,h3⟩:=this
  induction i using Nat.strongRecOn with
  | _ i ih =>
   by_cases hall : ∀ q,k≤q→q<i→W q k=0
   ·exact ⟨i,h1,h2,h3,hall⟩
   ·have : ∃ q,k≤q∧q<i∧W q k≠0:=Classical.byContradiction fun hc=>hall fun q h4 h5=>Classical.byContradiction fun h6=>hc ⟨q,h4,h5,h6⟩
    obtain ⟨q,h4,h5,h6⟩:=this
    exact ih q h5 h4 X h6
theorem EchI.done {p n:Nat} {F:Nat→Nat→Int} {W:Nat→Nat→Nat} (h:EchI p n F n W) : ∀ i j,i<n→j<n→(p:Int)∣bh n (fun t=>(W i (n+t):Int)*F t j) - (if i=j then 1 else 0):=fun i j hi hj=>by
 have h1:=h.rel i j hi hj
 rw [h.unit i j hi hj] at h1
 refine fB ?_
 by_cases e:i=j
 ·rw [if_pos e] at h1 ⊢; exact h1
 ·rw [if_neg e] at h1 ⊢; exact h1
theorem EchI.start {p n:Nat} {F:Nat→Nat→Int} {W:Nat→Nat→Nat} (hp:0<p) (h1 : ∀ i j,i<n→j<n→(W i j:Int)=F i j % (p:Int)) (h2 : ∀ i t,i<n→t<n→W i (n+t)=if i=t then 1 else 0) (hp1:1<p):EchI p n F 0 W:=by
 have hcong : ∀ i j,i<n→j<n→(p:Int)∣(W i j:Int) - F i j:=fun i j hi hj=>by
  rw [h1 i j hi hj]
  exact ⟨-(F i j / (p:Int)),by have:=Int.mul_ediv_add_emod (F i j) (p:Int);rw [Int.mul_neg]; omega⟩
 refine ⟨fun i j hi hj => ?_,fun h j _ hj=>absurd hj (Nat.not_lt_zero _),fun i j hi hj => ?_,fun u hu i hi => ?_⟩
 ·by_cases e:j<n
  ·have:=h1 i j hi e
   have:=Int.emod_lt_of_pos (F i j) (show 0<(p:Int) by omega)
   omega
  ·have:=h2 i (j - n) hi X
   rw [show n+(j - n)=j by omega] at this
   rw [this]; split <;> omega
 ·rw [ie (f:=fun t=>(W i (n+t):Int)*F t j) hi (fun t ht hne=>by rw [h2 i t hi ht,if_neg (Ne.symm hne)]; simp),h2 i i hi hi,if_pos Y]
  have:=hcong i j hi hj
  simpa using this
 ·exact iu (gk fun j hj=>by
   have:=fB (c8 (u j) (hcong i j hi hj))
   exact this) (hu i hi)
end Tor
end
