/-
  Theorems that the proofs of laws of this seat rest on.
  No condition.
-/
import Derived.Test.YtbgloceimmbliaaGreatEB6
set_option maxHeartbeats 20000000
set_option linter.unusedVariables false
set_option linter.unusedSimpArgs false
section
namespace Tor
open Go Go.RowKit Go.Proofs
attribute [local irreducible] J PJ aM one slT bW bH bj exT cn eP aX aH slV VT.le Ret bP
theorem Ap (n:Nat) (φ ψ χ:Nat→VT) [hF : ∀ i,Flat (χ i) (.agg 2)] (cl:VT) (hn:n≤1048576) (hC : ∀ i,i<n→fO Tryz.prog cl [φ i, ψ i] (χ i)):Ok Tryz.prog 153 [slT (.agg 2) n φ,slT (.agg 2) n ψ,cl] (slT (.agg 2) n χ):=by
 refine Ok.enter Tryz.func153 Y Tryz.ntmps153 Y (fun w O => ?_)
 refine ae (ai (FJ Y (FL (aa (ae (ai (FI Y (FH (aY Y) ?_))))))))
 refine bY n n Y Y Y Y (Nat.le_refl _) Y Y X Y Y (fun bz => ?_)
 refine FJ Y (FL (aa (ae (ae (ai (FI Y (FH (cB Y) (FI Y (FL ?_)))))))))
 refine aa (au ?_)
 refine cO (σ:=Nat) (fun i => [(0,slT (.agg 2) n φ),(1,slT (.agg 2) n ψ),(2,cl),(7,one (slV (some bz) n n)),(13,one (.int .i64 n)),(14,one (.int .i64 (i:Nat)))])
  (fun i => [aH (some bz) 37 (.agg 2) n n (fun q=>if q<i then χ q else bP)]) (fun i=>i≤n) (fun i=>n - i) 0 (Nat.zero_le _) FE (.keep (ez fun q hq=>by rw [if_neg X]; exact kC _) .nil) (fun i hi => ?_)
 refine ae (ai (FH (a6 Y Y) (FL (aa (ae ?_)))))
 refine bm Y (fun hc => ?_) (fun hc => ?_) <;> simp only [decide_eq_true_eq,decide_eq_false_iff_not,ne_eq,Decidable.not_not] at hc
 ·refine aw (aa (ae (au (ae (ai (FI Y (FJ Y (FL (aa ?_)))))))))
  refine be 13 a4 Z U (FI Y (FI Y (FI Y (FI Y (FI Y ?_)))))
  (refine FH (aC Y Y ?_) ?_;omega)
  refine FH (aN Y) (FI Y (FI Y ?_))
  (refine FH (aC Y Y ?_) ?_;omega)
  refine FH (aN Y) ?_
  refine FH (mj (hC i X) Y Y ⟨S,S,FM⟩) ?_
  (refine FH (aq Y Y ?_) ?_;omega)
  refine FL ?_
  (refine az 0 Y Y Y ?_ Y ?_;omega)
  refine FL (aF (aa (ai ?_)))
  (refine FH (cA Y Y (aR ?_ ?_)) ?_;omega;omega)
  refine FI Y (FL ?_)
  refine ci (s:=i) (i+1) (show _ from by omega) (by show n - (i+1)<n - i;omega) FE (.keep (a7 fun q hq => ?_) .nil)
  unfold upd
  by_cases h:q=i
  ·subst h;rw [if_pos Y,if_pos X]
  ·rw [if_neg h]
   have e:q<i+1↔q<i:=by omega
   simp only [e]
 ·have hk:i=n:=by omega
  subst hk
  refine aV (av (av (aE (aa (ae (ai (FI Y (FJ Y (FL ?_)))))))))
  refine aa (aG (bZ (t:=6) (i:=0) Y Y ?_))
  refine aT Tryz.results153 (.tmp Y (dE fun q hq => ?_))
  rw [if_pos hq]; exact VT.le_refl _
theorem Aq (n:Nat) (φ ψ χ:Nat→VT) [hF : ∀ i,Flat (χ i) .one] (cl:VT) (hn:n≤1048576) (hC : ∀ i,i<n→fO Tryz.prog cl [φ i, ψ i] (χ i)):Ok Tryz.prog 158 [slT .one n φ,slT .one n ψ,cl] (slT .one n χ):=by
 refine Ok.enter Tryz.func158 Y Tryz.ntmps158 Y (fun w O => ?_)
 refine ae (ai (FJ Y (FL (aa (ae (ai (FI Y (FH (aY Y) ?_))))))))
 refine bY n n Y Y Y Y (Nat.le_refl _) Y Y X Y Y (fun bz => ?_)
 refine FJ Y (FL (aa (ae (ae (ai (FI Y (FH (cB Y) (FI Y (FL ?_)))))))))
 refine aa (au ?_)
 refine cO (σ:=Nat) (fun i => [(0,slT .one n φ),(1,slT .one n ψ),(2,cl),(7,one (slV (some bz) n n)),(13,one (.int .i64 n)),(14,one (.int .i64 (i:Nat)))])
  (fun i => [aH (some bz) 32 .one n n (fun q=>if q<i then χ q else bP)]) (fun i=>i≤n) (fun i=>n - i) 0 (Nat.zero_le _) FE (.keep (ez fun q hq=>by rw [if_neg X]; exact kC _) .nil) (fun i hi => ?_)
 refine ae (ai (FH (a6 Y Y) (FL (aa (ae ?_)))))
 refine bm Y (fun hc => ?_) (fun hc => ?_) <;> simp only [decide_eq_true_eq,decide_eq_false_iff_not,ne_eq,Decidable.not_not] at hc
 ·refine aw (aa (ae (au (ae (ai (FI Y (FJ Y (FL (aa ?_)))))))))
  refine be 13 a4 Z U (FI Y (FI Y (FI Y (FI Y (FI Y ?_)))))
  (refine FH (aC Y Y ?_) ?_;omega)
  refine FH (aN Y) (FI Y (FI Y ?_))
  (refine FH (aC Y Y ?_) ?_;omega)
  refine FH (aN Y) ?_
  refine FH (mj (hC i X) Y Y ⟨S,S,FM⟩) ?_
  (refine FH (aq Y Y ?_) ?_;omega)
  refine FL ?_
  (refine az 0 Y Y Y ?_ Y ?_;omega)
  refine FL (aF (aa (ai ?_)))
  (refine FH (cA Y Y (aR ?_ ?_)) ?_;omega;omega)
  refine FI Y (FL ?_)
  refine ci (s:=i) (i+1) (show _ from by omega) (by show n - (i+1)<n - i;omega) FE (.keep (a7 fun q hq => ?_) .nil)
  unfold upd
  by_cases h:q=i
  ·subst h;rw [if_pos Y,if_pos X]
  ·rw [if_neg h]
   have e:q<i+1↔q<i:=by omega
   simp only [e]
 ·have hk:i=n:=by omega
  subst hk
  refine aV (av (av (aE (aa (ae (ai (FI Y (FJ Y (FL ?_)))))))))
  refine aa (aG (bZ (t:=6) (i:=0) Y Y ?_))
  refine aT Tryz.results158 (.tmp Y (dE fun q hq => ?_))
  rw [if_pos hq]; exact VT.le_refl _
end Tor
end
section
namespace Tor
open Go Go.RowKit Go.Proofs
def bD:Nat→(Nat→Int)→Int
 | 0, _ => 0
 | n + 1, f => bD n f + f n
theorem dO {n:Nat} {f g:Nat→Int} (h : ∀ i,i<n→f i=g i):bD n f=bD n g:=by
 induction n with
 | zero => rfl
 | succ n ih => rw [bD, bD, ih (fun i hi => h i X), h n X]
theorem vq {n B:Nat} {f:Nat→Int} (h : ∀ i,(f i).natAbs≤B):(bD n f).natAbs≤n*B:=by
 induction n with
 | zero => simp [bD]
 | succ n ih =>
  rw [bD,Nat.succ_mul]
  have:=h n
  omega
theorem qX {n:Nat} {f:Nat→Int} (hn:n≤1048576) (h : ∀ i,(f i).natAbs≤2^800):bE (bD n f) :=
 dM (vq h) (Nat.lt_of_le_of_lt (Nat.mul_le_mul_right _ hn) H)
def vr (n:Nat) (F G:Nat→Nat→Int):Nat→Nat→Int:=fun i j=>bD n (fun k=>F i k*G k j)
theorem lc {n:Nat} {f:Nat→Int} : bD (n+1) f=bD n f+f n:=rfl
attribute [local irreducible] J PJ aM one slT bW bH bj exT cn eP aX aH slV VT.le Ret bP
attribute [local irreducible] aO
theorem x6 (r c:Nat) (v:Nat→Int) (G:Nat→Nat→Int) (hr:r≤1048576) (hc0:c≤1048576) (hv : ∀ i,pt (v i)) (hG : ∀ i j,pt (G i j)) :
  Ok Tryz.prog 143 [bw r v,bO r c G] (bw c (fun j=>bD r (fun k=>v k*G k j))):=by
 unfold bw bO
 refine Ok.enter Tryz.func143 Y Tryz.ntmps143 Y (fun w O => ?_)
 refine ae (ai ?_)
 refine aQ Y Y (ltN Y) (fun b => ?_)
 refine FJ Y (FL (aa (ae (ai (FH (aj Y) (FH (ak 0 Y Y Y) ?_))))))
 refine bY c c Y Y Y Y (Nat.le_refl _) Y Y X Y Y (fun bz => ?_)
 refine FJ Y (FL (aa (ae (ae (ai (FI Y (FH (aY Y) (FI Y (FL ?_)))))))))
 refine aa (au ?_)
 refine cO (σ:=Nat) (fun i => [(3,one (.pointer (some ⟨b,0,none⟩))),(5,one (slV (some bz) c c)),(13,slT (.agg 2) r (fun j=>aO (v j))),(14,one (.int .i64 r)),(15,one (.int .i64 (i:Nat)))])
  (fun i => [aH (some bz) 37 (.agg 2) c c (fun q=>aO (bD i (fun k=>v k*G k q))),aX b 30 3 [(0, .one,one (.int .i64 r)),(1, .one,one (.int .i64 c)),(2, .one,slT .one r (fun i=>bw c (G i)))]])
  (fun i=>i≤r) (fun i=>r - i) 0 (Nat.zero_le _) FE (.keep (ez fun q hq=>jA) (SubM.refl _)) (fun i hi => ?_)
 unfold bw
 refine ae (ai (FH (a6 Y Y) (FL (aa (ae ?_)))))
 refine bm Y (fun hc => ?_) (fun hc => ?_) <;> simp only [decide_eq_true_eq,decide_eq_false_iff_not,ne_eq,Decidable.not_not] at hc
 ·refine aw (aa (ae (au (ae (ai (FI Y ?_))))))
  (refine FH (aC Y Y ?_) ?_;omega)
  refine FH (aN Y) ?_
  refine aJ (T:=37) Y (ltN Y) (fun b => ?_)
  refine FJ Y (aB 0 Y Y Y Y Y (leN Y) Y (FL (aa (ae (ae (ai (FH (ak 0 Y Y Y) ?_)))))))
  rename_i ba
  refine FH (am (dg (v i)) Y ⟨S,FM⟩) ?_
  refine FH (bV Y Y) (FL (aa ?_))
  refine bm Y (fun hc2 => ?_) (fun hc2 => ?_) <;> simp only [decide_eq_true_eq,decide_eq_false_iff_not,dY] at hc2
  ·refine aV (av (aE (aa (ai ?_))))
   (refine FH (cA Y Y (aR ?_ ?_)) ?_;omega;omega)
   refine FI Y (FL ?_)
   refine ci (s:=i) (i+1) (show _ from by omega) (by show r - (i+1)<r - i;omega) FE (.drop (.keep (a7 fun q hq => ?_) (SubM.refl _)))
   rw [lc,hc2]; simp
  ·refine aw (aa (ae (ai (FH (aj Y) (FH (ak 2 Y Y Y) (FI Y ?_))))))
   (refine FH (aC Y Y ?_) ?_;omega)
   refine FH (aN Y) (FH (aY Y) (FI Y (FL (aa (au ?_)))))
   refine cO (σ:=Nat) (fun j => [(3,one (.pointer (some ⟨ba,0,none⟩))),(5,one (slV (some bz) c c)),(6,one (.int .i64 (i:Nat))),(7,one (.pointer (some ⟨b,0,none⟩))),(13,slT (.agg 2) r (fun j=>aO (v j))),(14,one (.int .i64 r)),(15,one (.int .i64 (i:Nat))),(27,slT (.agg 2) c (fun j=>aO (G i j))),(28,one (.int .i64 c)),(29,one (.int .i64 (j:Nat)))])
    (fun j => [aX b 37 2 [(0, .agg 2,aO (v i))],aH (some bz) 37 (.agg 2) c c (fun q=>aO (if q<j then bD (i+1) (fun k=>v k*G k q) else bD i (fun k=>v k*G k q))),aX ba 30 3 [(0, .one,one (.int .i64 r)),(1, .one,one (.int .i64 c)),(2, .one,slT .one r (fun i=>slT (.agg 2) c (fun j=>aO (G i j))))]])
    (fun j=>j≤c) (fun j=>c - j) 0 (Nat.zero_le _) FE (.keep FG (.keep (a7 fun q hq=>by rw [if_neg X]) (SubM.refl _))) (fun j hj => ?_)
   refine ae (ai (FH (a6 Y Y) (FL (aa (ae ?_)))))
   refine bm Y (fun hc3 => ?_) (fun hc3 => ?_) <;> simp only [decide_eq_true_eq,decide_eq_false_iff_not,Int.ofNat_lt] at hc3
   ·refine aw (aa (ae (au (ae (ai (FI Y ?_))))))
    (refine FH (aC Y Y ?_) ?_;omega)
    refine FH (aN Y) ?_
    refine aJ (T:=37) Y (ltN Y) (fun b => ?_)
    refine FJ Y (aB 0 Y Y Y Y Y (leN Y) Y (FL (aa (ae (ai (FH (ak 0 Y Y Y) ?_))))))
    refine FH (am (dg (G i j)) Y ⟨S,FM⟩) ?_
    refine FH (dj Y Y) (FL (aa ?_))
    refine bm Y (fun hc4 => ?_) (fun hc4 => ?_) <;> simp only [decide_eq_true_eq,decide_eq_false_iff_not,ne_eq,Decidable.not_not,dY] at hc4
    ·skip
     refine be 11 a4 Z U (FI Y (FI Y (FI Y (FI Y ?_))))
     (refine FH (aq Y Y ?_) ?_;omega)
     (refine FH (bg 2 Y Y ?_) ?_;omega)
     refine FH (ak 1 Y Y Y) (FH (ak 0 Y Y Y) ?_)
     refine FH (am (fo (v i) (G i j) (jM (hv i)) (jM (hG i j))) Y ⟨S,S,FM⟩) ?_
     rw [if_neg (Nat.lt_irrefl j)]
     refine FH (am (kV (bD i (fun k=>v k*G k j)) (v i*G i j) (qX X (fun k=>mK (hv k) (hG k j))) (dM (mK (hv i) (hG i j)) H)) Y ⟨S,S,FM⟩) ?_
     (refine FH (aq Y Y ?_) ?_;omega)
     refine FL ?_
     (refine az 2 Y Y Y ?_ Y ?_;omega)
     refine FL (aF (aa (ai ?_)))
     (refine FH (cA Y Y (aR ?_ ?_)) ?_;omega;omega)
     refine FI Y (FL ?_)
     refine ci (s:=j) (j+1) (show _ from by omega) (by show c - (j+1)<c - j;omega) FE (.drop (.keep FG (.keep (a7 fun q hq => ?_) (SubM.refl _))))
     unfold upd
     by_cases h:q=j
     ·subst h;rw [if_pos Y,if_pos X]; rfl
     ·rw [if_neg h]
      have e:q<j+1↔q<j:=by omega
      simp only [e]
    ·refine aw (aF (aa (ai ?_)))
     (refine FH (cA Y Y (aR ?_ ?_)) ?_;omega;omega)
     refine FI Y (FL ?_)
     refine ci (s:=j) (j+1) (show _ from by omega) (by show c - (j+1)<c - j;omega) FE (.drop (.keep FG (.keep (a7 fun q hq => ?_) (SubM.refl _))))
     by_cases h:q=j
     ·subst h;rw [if_neg (Nat.lt_irrefl _),if_pos X,lc,hc4]; simp
     ·have e:q<j+1↔q<j:=by omega
      simp only [e]
   ·refine aV (av (av (aE (aF (aa (ai ?_))))))
    (refine FH (cA Y Y (aR ?_ ?_)) ?_;omega;omega)
    refine FI Y (FL ?_)
    refine ci (s:=i) (i+1) (show _ from by omega) (by show r - (i+1)<r - i;omega) FE (.drop (.keep (a7 fun q hq => ?_) (SubM.refl _)))
    rw [if_pos X]
 ·have hk:i=r:=by omega
  subst hk
  refine aV (av (av (aE (aa (ae (ai (FI Y (FJ Y (FL ?_)))))))))
  refine aa (aG (bZ (t:=4) (i:=0) Y Y ?_))
  exact aT Tryz.results143 (.tmp Y S)
end Tor
end
section
namespace Tor
open Go Go.RowKit Go.Proofs
instance:Idle Tryz.prog 179:=Idle.of Tryz.func179 Y Tryz.ntmps179 Tryz.results179
instance:Idle Tryz.prog 142:=Idle.of Tryz.func142 Y Tryz.ntmps142 Tryz.results142
def E4 (ok:Bool) (e:Int) (n:Nat) (f:Nat→Int):VT:=bj [bw (if ok then n else 0) f,one (.int .i64 (if ok then 0 else e))]
attribute [local irreducible] J PJ aM one slT bW bH bj exT cn eP aX aH slV VT.le Ret bP
attribute [local irreducible] eC
theorem Ee (r c:Nat) (hr:r≤1048576) (hc0:c≤1048576):OkM Tryz.prog 159 [one (.int .i64 r),one (.int .i64 c)] (nv r c) (fun s => [kg s.1.2.1 s.1.2.2 r c s.1.1,iN c s.1.1 (fun _ _=>0)]):=by
 refine OkM.enterD Tryz.func159 Y Tryz.ntmps159 Y (fun w O => ?_)
 have e1:max (r:Int) 0=r:=by omega
 have e2:max (c:Int) 0=c:=by omega
 refine ae (ai ?_)
 refine bF (T:=30) Y Y Y (fun b => ?_)
 refine FL (aa (ae (ai (wg Y (FL (aa (ae (ai (FI Y ?_)))))))))
 refine FH (qt Y Y) (FI Y (FH (qt Y Y) (FJ Y (FJ Y (FL (aa (ae (ai (FI Y ?_)))))))))
 rw [e1,e2]
 refine bY r r Y Y Y Y (Nat.le_refl _) Y Y X Y Y (fun bo => ?_)
 refine FJ Y (FL (aa (ae (ae (ai (FI Y (FH (cB Y) (FI Y (FL ?_)))))))))
 refine aa (au ?_)
 refine gM (ConvM.rows0 (T:=37) (L := .agg 2) (c:=c) (φ:=fun _ _=>aO 0) _) ?_
 refine cO (σ:=List Nat) (fun s => [(0,one (.int .i64 r)),(1,one (.int .i64 c)),(4,one (.pointer (some ⟨b,0,none⟩))),(5,one (slV (some bo) r r)),(14,one (.int .i64 r)),(15,one (.int .i64 s.length))])
  (fun s => [aH (some bo) 32 .one r r (fun q=>if q<s.length then one (slV (some (s.getD q 0)) c c) else bP),aX b 30 3 (dT #[Value.int IntKind.i64 0,Value.int IntKind.i64 0,Value.slice none 0 0] [(0,Lay.one),(1,Lay.one),(2,Lay.one)]),iN c s (fun _ _=>0)])
  (fun s=>s.length≤r) (fun s=>r - s.length) [] (Nat.zero_le _) FE (.keep (ez fun q hq=>by rw [if_neg (by simp)]; exact kC _) (SubM.refl _)) (fun bs hk => ?_)
 refine ae (ai (FH (a6 Y Y) (FL (aa (ae ?_)))))
 refine bm Y (fun hc => ?_) (fun hc => ?_) <;> simp only [decide_eq_true_eq,decide_eq_false_iff_not,ne_eq,Decidable.not_not] at hc
 ·refine aw (aa (ae (au (ae (ai (FI Y (FJ Y (FL (aa ?_)))))))))
  refine ai (FI Y (FI Y (FI Y ?_)))
  refine bY c c Y Y Y Y (Nat.le_refl _) Y Y X Y Y (fun bz => ?_)
  (refine FH (aq Y Y ?_) ?_;omega)
  (refine az 1 Y Y Y ?_ Y ?_;omega)
  refine FL (aF (aa (ai ?_)))
  (refine FH (cA Y Y (aR ?_ ?_)) ?_;omega;omega)
  refine FI Y (FL (fN (ConvM.row (k:=2) Y) (ci (s:=bs) (bs ++ [bz]) (by simp;omega) (by simp;omega) (.cons Y S (.cons Y S (.cons Y S (.cons Y S (.cons Y S (.cons Y (ar (by simp)) .nil)))))) ?_)))
  refine .keep (a7 (fun q hq => ?_)) (.keep FG (.keep (oU fun i j hi hj => ?_) .nil))
  ·unfold upd
   by_cases h:q=bs.length
   ·subst h;simp
   ·rw [if_neg h]
    show (if q<bs.length then one (slV (some (bs.getD q 0)) c c) else bP)=_
    by_cases h2:q<bs.length
    ·rw [if_pos h2,if_pos (by simp;omega)]; simp [List.getElem?_append_left h2]
    ·rw [if_neg h2,if_neg (by simp;omega)]
  ·simp only
   split
   ·exact VT.le_refl _
   ·exact jA
 ·have hlen:bs.length=r:=by omega
  subst hlen
  refine aV (av (av (aE (aa (ae (ai (FI Y (FI Y (FI Y ?_)))))))))
  refine stB Y Y Y (BuildK.cons Y Y Y (BuildK.cons Y Y Y (BuildK.cons Y Y Y (BuildK.nil (a8 1 Y Y Y Y (FL (aa (aG ?_))))))))
  refine rB (kb ⟨(bs,some bo,bs.length),rfl,fun h=>by cases h⟩ Tryz.results159 (.cellW 1 Y Y S) ?_)
  refine .keep (a7 fun q hq => ?_) (.drop (SubM.refl _))
  rw [if_pos hq]
attribute [local irreducible] aO
theorem tU (n:Nat) (hn:n≤1048576):Ok Tryz.prog 137 [one (.int .i64 n)] (bO n n (fun i j=>if i=j then 1 else 0)):=by
 refine Ok.enter Tryz.func137 Y Tryz.ntmps137 Y (fun w O => ?_)
 refine ae (ai ?_)
 refine bF (T:=30) Y Y Y (fun b => ?_)
 refine FL (aa (ae (ai (FI Y (FI Y ?_)))))
 refine gz (Ee n n hn hn) Y ⟨S,S,FM⟩ Y Y (fun s => ?_)
 obtain ⟨⟨bs,sv1,cap1⟩,hlen,hsv⟩:=s
 simp only at hlen hsv
 unfold nv
 refine bF (T:=30) Y Y Y (fun b => ?_)
 refine a8 0 Y Y Y Y (FL (aa (ae (ae (ai (FH (aj Y) (FH (ak 0 Y Y Y) (FH (cB Y) (FI Y ?_)))))))))
 refine FL (aa (au ?_))
 rename_i b2
 refine cO (σ:=Nat) (fun i => [(2,one (.pointer (some ⟨b2,0,none⟩))),(3,one (.pointer (some ⟨b,0,none⟩))),(10,one (.int .i64 n)),(11,one (.int .i64 (i:Nat)))])
  (fun i => [aX b 30 3 [(0, .one,one (.int .i64 n)),(1, .one,one (.int .i64 n)),(2, .one,one (slV sv1 n cap1))],kg sv1 cap1 n n bs,iN n bs (fun q k=>if q<i then (if q=k then 1 else 0) else 0),
   aX b2 30 3 (dT #[Value.int IntKind.i64 0,Value.int IntKind.i64 0,Value.slice none 0 0] [(0,Lay.one),(1,Lay.one),(2,Lay.one)])])
  (fun i=>i≤n) (fun i=>n - i) 0 (Nat.zero_le _) FE (.keep FG (.keep FG (.keep (i9 fun i j hi hj=>by simp) (SubM.refl _)))) (fun i hi => ?_)
 refine ae (ai (FH (a6 Y Y) (FL (aa (ae ?_)))))
 refine bm Y (fun hc => ?_) (fun hc => ?_) <;> simp only [decide_eq_true_eq,decide_eq_false_iff_not,ne_eq,Decidable.not_not] at hc
 ·obtain ⟨bo,rfl⟩:=fu hsv X
  refine aw (aa (ae (au (ae (ai (FI Y (FJ Y (FL (aa ?_)))))))))
  refine be 8 a4 Z U (FH (aj Y) (FH (ak 0 Y Y Y) (FI Y ?_)))
  (refine FH (aq Y Y ?_) ?_;omega)
  (refine FH (bg 1 Y Y ?_) ?_;omega)
  refine FI Y ?_
  refine FH (am (kd 1 U U) Y ⟨S,FM⟩) ?_
  (refine FH (aq Y Y ?_) ?_;omega)
  refine FL ?_
  (refine mh 2 Y Y Y (Aj ?_) ?_ Y ?_;omega;omega)
  refine FL (aF (aa (ai ?_)))
  (refine FH (cA Y Y (aR ?_ ?_)) ?_;omega;omega)
  refine FI Y (FL ?_)
  refine ci (s:=i) (i+1) (show _ from by omega) X FE (.keep FG (.keep FG (.keep (mg fun q k hq hk => ?_) (SubM.refl _))))
  unfold oc
  by_cases h:q=i
  ·subst h
   by_cases h2:k=q
   ·subst h2;simp
   ·have h3 : ¬ q=k:=fun e=>h2 e.symm
    simp [h2,h3]
  ·have h3:q<i+1↔q<i:=by omega
   simp [h,h3]
 ·have hin:i=n:=by omega
  subst hin
  refine aV (av (av (aE (aa (ae (ai (FH (aI 0 Y Y) (a8 3 Y Y Y Y (FL ?_)))))))))
  refine aa (aG ?_)
  have hperm : ∀ (x y z u:Own), [x,y,z,u].Perm ([y,z] ++ [x,u]):=fun x y z u=>(List.Perm.swap y x _).trans (List.Perm.cons y (List.Perm.swap z x _))
  refine iW [kg sv1 cap1 i i bs,iN i bs (fun q k=>if q<i then (if q=k then 1 else 0) else 0)] (hperm _ _ _ _) (.keep (xv.refl _) (.keep (xv.box (k9 hlen ⟨by simp,by simp,by simp⟩)) .nil)) (xw.refl _) ?_
  refine aT Tryz.results137 (.cellW 1 Y Y ?_)
  exact sb fun a b ha hb=>by simp [ha]
theorem Ar (n:Nat) (v:Nat→Int) (r c:Nat) (G:Nat→Nat→Int) (hr:r≤1048576) (hc0:c≤1048576) (hv : ∀ i,pt (v i)) (hG : ∀ i j,pt (G i j)) :
  Ok Tryz.prog 94 [bw n v,bO r c G] (E4 (decide (n=r)) 50 c (fun j=>bD r (fun k=>v k*G k j))):=by
 unfold E4
 refine Ok.enterD Tryz.func94 Y Tryz.ntmps94 Y (fun w O => ?_)
 refine jE (t:=0) Y (fun _ _=>fB) (fun hb => ?_)
 unfold bO
 refine ae (ai ?_)
 refine aQ Y Y (ltN Y) (fun b => ?_)
 refine FJ Y (FJ Y (FL (aa (ae (ai (wg Y (FL (aa (ae ?_)))))))))
 refine ae (ai (FH (aI 0 Y Y) ?_))
 refine FH (am (fX r c G) Y ⟨S,FM⟩) ?_
 unfold bw
 refine FH (dk Y) (FI Y (FK (ab Y) (FK (aY Y) (FK (aj Y) (FK (ak 0 Y Y Y) (FK (dj Y Y) (FH (bG Y Y) (FL (aa ?_)))))))))
 refine bm Y (fun hc => ?_) (fun hc => ?_) <;> simp only [decide_eq_true_eq,decide_eq_false_iff_not,ne_eq,Decidable.not_not] at hc
 ·have hne : ¬ n=r:=by omega
  refine ae (ai (FJ Y (FJ Y (FL (aa (aG (aS ?_)))))))
  refine rB (c9 Tryz.results94 (.tmp Y ?_) (.tmp Y (ar ?_)))
  ·rw [decide_eq_false hne]; exact ey
  ·rw [decide_eq_false hne]; rfl
 ·have he:n=r:=by omega
  subst he
  refine aw (aa (ae (ai (FI Y (FH (aI 0 Y Y) ?_)))))
  refine FH (am (x6 n c v G hr hc0 hv hG) Y ⟨S,S,FM⟩) ?_
  refine FJ Y (FJ Y (FL (aa (aG ?_))))
  refine rB (c9 Tryz.results94 (.tmp Y ?_) (.tmp Y (ar ?_)))
  ·simp only [decide_true]; exact VT.le_refl _
  ·simp
end Tor
end
section
namespace Tor
open Go Go.RowKit Go.Proofs
def tV (ok:Bool) (e:Int) (r c:Nat) (F:Nat→Nat→Int):VT:=bj [bO (if ok then r else 0) (if ok then c else 0) F,one (.int .i64 (if ok then 0 else e))]
theorem tW (F:Nat→Nat→Int):VT.le (bH 3 (dT #[Value.int IntKind.i64 0,Value.int IntKind.i64 0,Value.slice none 0 0] [(0,Lay.one),(1,Lay.one),(2,Lay.one)])) (bO 0 0 F):=by
 unfold bO
 refine fL (fun q hq => ?_)
 rcases List.mem_cons.1 hq with rfl | hq
 ·exact ⟨_,List.mem_cons_self,S⟩
 rcases List.mem_cons.1 hq with rfl | hq
 ·exact ⟨_,List.mem_cons_of_mem _ List.mem_cons_self,S⟩
 rcases List.mem_cons.1 hq with rfl | hq
 ·exact ⟨_,List.mem_cons_of_mem _ (List.mem_cons_of_mem _ List.mem_cons_self),ey⟩
 ·cases hq
theorem ld:VT.le (bH 2 (dT #[Value.bool false,Value.slice none 0 0] [(0,Lay.one),(1,Lay.one)])) (aO 0):=by
 unfold aO
 refine fL (fun q hq => ?_)
 rcases List.mem_cons.1 hq with rfl | hq
 ·exact ⟨_,List.mem_cons_self,S⟩
 rcases List.mem_cons.1 hq with rfl | hq
 ·exact ⟨_,List.mem_cons_of_mem _ List.mem_cons_self,ey⟩
 ·cases hq
attribute [local irreducible] J PJ aM one slT bW bH bj exT cn eP aX aH slV VT.le Ret bP
attribute [local irreducible] aO
theorem Ef (n m:Nat) (f g:Nat→Int) (hn:n≤1048576) (hm:m≤1048576) (hf : ∀ i,pt (f i)) (hg : ∀ i,pt (g i)) :
  Ok Tryz.prog 130 [bw n f,bw m g] (bj [aO (if n=m then bD n (fun k=>f k*g k) else 0),one (.int .i64 (if n=m then 0 else 50))]):=by
 unfold bw
 refine Ok.enter Tryz.func130 Y Tryz.ntmps130 Y (fun w O => ?_)
 refine ae (ai ?_)
 refine aJ (T:=37) Y (ltN Y) (fun b => ?_)
 refine FJ Y (FL (aa (ae (ae (ai (FI Y (FH (aY Y) (FI Y (FH (aY Y) ?_)))))))))
 refine FH (dj Y Y) (FL (aa ?_))
 refine bm Y (fun hc => ?_) (fun hc => ?_) <;> simp only [decide_eq_true_eq,decide_eq_false_iff_not,ne_eq,Decidable.not_not] at hc
 ·have hne : ¬ n=m:=by omega
  refine ae (ai (stB Y Y Y (BuildK.nil (aB 0 Y Y Y Y Y (leN Y) Y (FJ Y (FL (aa (aG (aS ?_)))))))))
  refine c9 Tryz.results130 (.cellB 0 Y Y Y ?_) (.tmp Y (ar ?_))
  ·rw [if_neg hne]; exact ld
  ·rw [if_neg hne]
 ·have he:n=m:=by omega
  subst he
  refine aw (aa (ae (ai ?_)))
  refine aJ (T:=37) Y (ltN Y) (fun b => ?_)
  refine FL (aa (ae (ae (ai (FI Y (FI Y ?_))))))
  rename_i b4
  refine FH (am (Ap n (fun j=>aO (f j)) (fun j=>aO (g j)) (fun j=>aO (f j*g j)) (one (.func (.func 54) #[] #[])) hn (fun i hi=>fO.fn (fo _ _ (jM (hf i)) (jM (hg i))))) Y ⟨S,S,S,FM⟩) ?_
  refine FH (aY Y) (FI Y (FL (aa (au ?_))))
  refine cO (σ:=Nat) (fun i => [(4,one (.pointer (some ⟨b4,0,none⟩))),(6,one (.pointer (some ⟨b,0,none⟩))),(17,slT (.agg 2) n (fun j=>aO (f j*g j))),(18,one (.int .i64 n)),(19,one (.int .i64 (i:Nat)))])
   (fun i => [aX b 37 2 [(0, .agg 2,aO (bD i (fun k=>f k*g k)))],aX b4 37 2 [(0, .agg 2,one (.agg #[.bool false, .slice none 0 0]))]])
   (fun i=>i≤n) (fun i=>n - i) 0 (Nat.zero_le _) FE (.keep (rv fun q hq=>by rcases List.mem_cons.1 hq with rfl | hq;exact ⟨_,List.mem_cons_self,jA⟩;cases hq) (SubM.refl _)) (fun i hi => ?_)
  refine ae (ai (FH (a6 Y Y) (FL (aa (ae ?_)))))
  refine bm Y (fun hc => ?_) (fun hc => ?_) <;> simp only [decide_eq_true_eq,decide_eq_false_iff_not,Int.ofNat_lt] at hc
  ·refine aw (aa (ae (au (ae (ai ?_)))))
   (refine FH (aC Y Y ?_) ?_;omega)
   refine FH (aN Y) ?_
   refine aJ (T:=37) Y (ltN Y) (fun b => ?_)
   refine aB 0 Y Y Y Y Y (leN Y) Y (FL (aa (ai (FH (ak 1 Y Y Y) (FH (ak 0 Y Y Y) ?_)))))
   refine FH (am (kV (bD i (fun k=>f k*g k)) (f i*g i) (qX X (fun k=>mK (hf k) (hg k))) (dM (mK (hf i) (hg i)) H)) Y ⟨S,S,FM⟩) ?_
   refine aB 1 Y Y Y Y Y (leN Y) Y (FL (aF (aa (ai ?_))))
   (refine FH (cA Y Y (aR ?_ ?_)) ?_;omega;omega)
   refine FI Y (FL ?_)
   exact ci (s:=i) (i+1) (show _ from by omega) (by show n - (i+1)<n - i;omega) FE (.drop (.keep FG (SubM.refl _)))
  ·have hin:i=n:=by omega
   subst hin
   refine aV (av (av (aE (aa (ae (ai (FH (ak 0 Y Y Y) (aB 1 Y Y Y Y Y (leN Y) Y (FJ Y ?_)))))))))
   refine FL (aa (aG ?_))
   refine c9 Tryz.results130 (.cellB 1 Y Y Y ?_) (.tmp Y (ar ?_))
   ·rw [if_pos Y]; exact VT.le_refl _
   ·rw [if_pos Y]
theorem x7 (ra ca:Nat) (F:Nat→Nat→Int) (rb cb:Nat) (G:Nat→Nat→Int) (h1:ra≤1048576) (h2:ca≤1048576) (h4:cb≤1048576) (hF : ∀ i j,bE (F i j)) (hG : ∀ i j,bE (G i j)) :
  Ok Tryz.prog 136 [bO ra ca F,bO rb cb G] (tV (decide (ra=rb)) 50 ra (ca+cb) (fun i k=>if k<ca then F i k else G i (k - ca))):=by
 unfold tV
 refine Ok.enter Tryz.func136 Y Tryz.ntmps136 Y (fun w O => ?_)
 have hI : ∀ (φ:VT), φ=φ:=fun _=>rfl
 unfold bO
 refine ae (ai ?_)
 refine aQ Y Y (ltN Y) (fun b => ?_)
 refine aQ Y Y (ltN Y) (fun b => ?_)
 refine bF (T:=30) Y Y Y (fun b => ?_)
 refine FJ Y (FL (aa (ae (ae (ai (FH (aI 2 Y Y) (FH (aI 1 Y Y) (stS Y Y Y Y (PartsK.cons Y ?_)))))))))
 refine PartsK.cons Y (PartsK.nil ?_)
 refine FH (am (qV ra ca F rb cb G) Y ⟨tT,FM⟩) ?_
 refine FH (dk Y) (FI Y (FK (aj Y) (FK (ak 2 Y Y Y) (FK (aj Y) (FK (ak 1 Y Y Y) (FK (dj Y Y) (FH (bG Y Y) (FL (aa ?_)))))))))
 refine bm Y (fun hc => ?_) (fun hc => ?_) <;> simp only [decide_eq_true_eq,decide_eq_false_iff_not,ne_eq,Decidable.not_not] at hc
 ·have hne : ¬ ra=rb:=by omega
  refine ae (ai (stB Y Y Y (BuildK.nil (a8 0 Y Y Y Y (FJ Y (FL (aa (aG (aS ?_)))))))))
  refine c9 Tryz.results136 (.cellW 0 Y Y ?_) (.tmp Y (ar ?_))
  ·rw [decide_eq_false hne]; exact tW _
  ·rw [decide_eq_false hne]; rfl
 ·have he:ra=rb:=by omega
  subst he
  refine aw (aa (ae (be 13 a4 Z U (FH (aj Y) (FH (ak 2 Y Y Y) (FH (aj Y) (FH (ak 2 Y Y Y) (FH (aj Y) (FH (ak 1 Y Y Y) ?_)))))))))
  (refine FH (cA Y Y (aR ?_ ?_)) ?_;omega;omega)
  refine FH (aj Y) (FH (ak 2 Y Y Y) (FH (aj Y) (FH (ak 1 Y Y Y) ?_)))
  refine FH (am (Aq ra (fun i=>bw ca (F i)) (fun i=>bw cb (G i)) (fun i=>bw (ca+cb) (fun k=>if k<ca then F i k else G i (k - ca))) (hF:=fun i=>by unfold bw;infer_instance) (one (.func (.func 83) #[] #[])) h1 (fun i hi=>fO.fn (qW ca cb (F i) (G i) h2 h4 (hF i) (hG i)))) Y ⟨S,S,S,FM⟩) ?_
  refine stB Y Y Y (BuildK.cons Y Y Y (BuildK.cons Y Y Y (BuildK.cons Y Y Y (BuildK.nil (FL (a8 0 Y Y Y Y (FJ Y (FL (aa ?_)))))))))
  refine aG ?_
  refine c9 Tryz.results136 (.cellW 0 Y Y ?_) (.tmp Y (ar ?_))
  ·simp only [decide_true,if_true]
   exact VT.le_refl _
  ·simp
end Tor
end
section
namespace Tor
open Go Go.RowKit Go.Proofs
theorem ConvM.nilSl {T:TypeId} {L:Lay} {φ:Nat→VT} (M:Mem):ConvM M (aH none T L 0 0 φ :: M) :=
 ⟨by simp [aH],fun g h FA o ho=>by
  rcases List.mem_cons.1 ho with rfl | ho
  ·exact ⟨Nat.le_refl _,by decide,fun _=>rfl,fun b hb=>by cases hb⟩
  ·exact FA o ho⟩
def lA (ra rb i:Nat):Nat:=if i=0 then 0 else if i=1 then ra else ra+rb
def dC (ra:Nat) (F G:Nat→Nat→Int):Nat→Nat→Int:=fun i k=>if i<ra then F i k else G (i - ra) k
attribute [local irreducible] J PJ aM one slT bW bH bj exT cn eP aX aH slV VT.le Ret bP
theorem As (ra ca:Nat) (F:Nat→Nat→Int) (rb cb:Nat) (G:Nat→Nat→Int) (h1:ra≤1048576) (h2:ca≤1048576) (h3:rb≤1048576) (hF : ∀ i j,bE (F i j)) (hG : ∀ i j,bE (G i j)) :
  Ok Tryz.prog 52 [bO ra ca F,bO rb cb G] (tV (decide (ca=cb)) 50 (ra+rb) ca (dC ra F G)):=by
 unfold tV
 refine Ok.enter Tryz.func52 Y Tryz.ntmps52 Y (fun w O => ?_)
 unfold bO
 refine ae (ai ?_)
 refine aQ Y Y (ltN Y) (fun b => ?_)
 refine aQ Y Y (ltN Y) (fun b => ?_)
 refine bF (T:=30) Y Y Y (fun b => ?_)
 refine FJ Y (FL (aa (ae (ae (ai (FH (aI 2 Y Y) (FH (aI 1 Y Y) (stS Y Y Y Y (PartsK.cons Y ?_)))))))))
 refine PartsK.cons Y (PartsK.nil ?_)
 refine FH (am (qV ra ca F rb cb G) Y ⟨tT,FM⟩) ?_
 refine FH (dk Y) (FI Y (FK (aj Y) (FK (ak 2 Y Y Y) (FK (aj Y) (FK (ak 1 Y Y Y) (FK (dj Y Y) (FH (bG Y Y) (FL (aa ?_)))))))))
 refine bm Y (fun hc => ?_) (fun hc => ?_) <;> simp only [decide_eq_true_eq,decide_eq_false_iff_not,ne_eq,Decidable.not_not] at hc
 ·have hne : ¬ ca=cb:=by omega
  refine ae (ai (stB Y Y Y (BuildK.nil (a8 0 Y Y Y Y (FJ Y (FL (aa (aG (aS ?_)))))))))
  refine c9 Tryz.results52 (.cellW 0 Y Y ?_) (.tmp Y (ar ?_))
  ·rw [decide_eq_false hne]; exact tW _
  ·rw [decide_eq_false hne]; rfl
 ·have he:ca=cb:=by omega
  subst he
  refine aw (aa (ae (ai (FH (aj Y) (FH (ak 2 Y Y Y) (FH (aj Y) (FH (ak 1 Y Y Y) ?_)))))))
  (refine FH (cA Y Y (aR ?_ ?_)) ?_;omega;omega)
  refine FH (aj Y) (FH (ak 2 Y Y Y) (stB Y Y Y (BuildK.cons Y Y Y (BuildK.cons Y Y Y (BuildK.nil ?_)))))
  refine bF (T:=30) Y Y Y (fun b => ?_)
  refine a8 0 Y Y Y Y (FL (aa (ae (ae (ai (FH (aI 3 Y Y) (FH (aI 2 Y Y) (stB Y Y Y (BuildK.cons Y Y Y ?_)))))))))
  refine BuildK.cons Y Y Y (BuildK.nil (FI Y (FL (aa (au ?_)))))
  rename_i b2 b3 b4
  have hlk1 : ∀ i,i<2→fc [(0,Lay.agg 3,bO ra ca F),(3,Lay.agg 3,bO rb ca G)] (i*(Lay.agg 3).sz)=some (.agg 3,bO (if i=0 then ra else rb) ca (if i=0 then F else G)):=fun i hi=>by
   rcases i with _ | _ | i
   ·rfl
   ·rfl
   ·omega
  have hsm1 : ∀ i j k,bE ((if i=0 then F else G) j k):=fun i j k=>by split <;> first | exact hF _ _ | exact hG _ _
  revert b
  intro b6
  refine gM (ConvM.nilSl (T:=32) (L := .one) (φ:=fun q=>bw ca (dC ra F G q)) _) ?_
  refine cO (σ:=Nat × Option Nat × Nat) (fun s => [(4,one (.pointer (some ⟨b4,0,none⟩))),(6,one (.pointer (some ⟨b6,0,none⟩))),(34,bH 6 [(0, .agg 3,bO ra ca F),(3, .agg 3,bO rb ca G)]),(35,one (.int .i64 (s.1:Nat)))])
   (fun s => [aH s.2.1 32 .one s.2.2 (lA ra rb s.1) (fun q=>bw ca (dC ra F G q)),aX b6 30 3 [(0, .one,one (.int .i64 ((ra:Int)+rb))),(1, .one,one (.int .i64 ca)),(2, .one,one (slV s.2.1 (lA ra rb s.1) s.2.2))],
    aX b4 30 3 (dT #[Value.int IntKind.i64 0,Value.int IntKind.i64 0,Value.slice none 0 0] [(0,Lay.one),(1,Lay.one),(2,Lay.one)])])
   (fun s=>s.1≤2) (fun s=>2 - s.1) (0,none,0) (Nat.zero_le _) FE (.keep FG (.keep (rv fun q hq => ?_) (.keep FG (SubM.nilR _)))) (fun s hs => ?_)
  ·rcases List.mem_cons.1 hq with rfl | hq
   ·exact ⟨_,List.mem_cons_self,S⟩
   rcases List.mem_cons.1 hq with rfl | hq
   ·exact ⟨_,List.mem_cons_of_mem _ List.mem_cons_self,S⟩
   rcases List.mem_cons.1 hq with rfl | hq
   ·exact ⟨one (.slice none 0 0),List.mem_cons_of_mem _ (List.mem_cons_of_mem _ List.mem_cons_self),ar (by simp [lA,slV])⟩
   ·cases hq
  obtain ⟨i,sv0,cap0⟩:=s
  simp only at hs ⊢
  refine ae (ai (FH (a6 Y Y) (FL (aa (ae ?_)))))
  refine bm Y (fun hc => ?_) (fun hc => ?_) <;> simp only [decide_eq_true_eq,decide_eq_false_iff_not] at hc
  ·have hi2:i<2:=by omega
   have hup:lA ra rb i≤2097152∧lA ra rb i+(if i=0 then ra else rb)=lA ra rb (i+1)∧lA ra rb i+(if i=0 then ra else rb)≤2097152:=by
    unfold lA
    rcases i with _ | _ | i
    ·simp;omega
    ·simp;omega
    ·omega
   have hrow : ∀ j,j<(if i=0 then ra else rb)→(if i=0 then F else G) j=dC ra F G (lA ra rb i+j):=fun j hj=>by
    unfold lA dC
    rcases i with _ | _ | i
    ·simp at hj ⊢; funext k;rw [if_pos hj]
    ·simp;funext k;rw [if_neg X]
    ·omega
   have hlk:=hlk1 i hi2
   have hsm:=fun j k=>hsm1 i j k
   generalize (if i=0 then F else G)=FA at *
   generalize (if i=0 then ra else rb)=R at *
   refine aw (aa (ae (au (ae (ai (FH (sX Y Y hi2 hlk) ?_))))))
   unfold bO
   refine bF (T:=30) Y Y Y (fun b => ?_)
   refine a8 0 Y Y Y Y (FL (aa (ae (ai (FH (aj Y) (FH (ak 0 Y Y Y) (FH (aY Y) (FI Y (FL ?_)))))))))
   refine aa (au ?_)
   refine cO (σ:=Nat × Option Nat × Nat) (fun s => [(4,one (.pointer (some ⟨b4,0,none⟩))),(6,one (.pointer (some ⟨b6,0,none⟩))),(34,bH 6 [(0, .agg 3,bO ra ca F),(3, .agg 3,bO rb ca G)]),(35,one (.int .i64 (i:Nat))),(39,slT .one R (fun q=>bw ca (FA q))),(40,one (.int .i64 R)),(41,one (.int .i64 (s.1:Nat)))])
    (fun s => [aH s.2.1 32 .one s.2.2 (lA ra rb i+s.1) (fun q=>bw ca (dC ra F G q)),aX b6 30 3 [(0, .one,one (.int .i64 ((ra:Int)+rb))),(1, .one,one (.int .i64 ca)),(2, .one,one (slV s.2.1 (lA ra rb i+s.1) s.2.2))],
     aX b4 30 3 (dT #[Value.int IntKind.i64 0,Value.int IntKind.i64 0,Value.slice none 0 0] [(0,Lay.one),(1,Lay.one),(2,Lay.one)])])
    (fun s=>s.1≤R) (fun s=>R - s.1) (0,sv0,cap0) (Nat.zero_le _) (by unfold bO;repeat (first | exact dV.nil | refine dV.cons Y S ?_ | (refine dV.cons Y (ar ?_) ?_;(congr 1;first | omega | (simp;omega) | simp)))) (.drop (.keep FG (.keep FG (SubM.refl _)))) (fun s hs2 => ?_)
   obtain ⟨j,sv1,cap1⟩:=s
   simp only at hs2 ⊢
   refine ae (ai (FH (a6 Y Y) (FL (aa (ae ?_)))))
   refine bm Y (fun hc2 => ?_) (fun hc2 => ?_) <;> simp only [decide_eq_true_eq,decide_eq_false_iff_not,Int.ofNat_lt] at hc2
   ·refine aw (aa (ae (au (ae (ai ?_)))))
    (refine FH (aC Y Y ?_) ?_;omega)
    refine FH (aN Y) (FJ Y (FL (aa (eX 5 a4 Z U (FH (aj Y) (FH (ak 1 Y Y Y) (FI Y ?_)))))))
    refine FH (am (qW ca 0 (FA j) (fun _=>0) h2 U (hsm j) (fun _=>d9 H)) Y ⟨S,ey,FM⟩) ?_
    have hfl:Flat (bw (ca+0) fun k=>if k<ca then FA j k else 0) .one:=by unfold bw;infer_instance
    have hfl2 : ∀ q,Flat (bw ca (dC ra F G q)) .one:=fun q=>by unfold bw;infer_instance
    refine eH Y Y Y Y (FL ?_)
    (refine cq 0 Y Y Y (leN Y) ?_ ?_ Y (ltN Y) (fun sv cap => ?_);omega;omega)
    refine FH (aj Y) (aB 1 Y Y Y Y Y (leN Y) Y (FL (aF (aa (ai ?_)))))
    (refine FH (cA Y Y (aR ?_ ?_)) ?_;omega;omega)
    refine FI Y (FL ?_)
    refine ci (s:=(j,sv1,cap1)) (j+1,sv,cap) (show _ from by simp only;omega) (by show R - (j+1)<R - j;omega) (by unfold bO;repeat (first | exact dV.nil | refine dV.cons Y S ?_ | (refine dV.cons Y (ar ?_) ?_;(congr 1;first | omega | (simp;omega) | simp)))) (.keep (ez fun q hq => ?_) (.keep FG (SubM.refl _)))
    by_cases h:q<lA ra rb i+j
    ·rw [if_pos h]; exact VT.le_refl _
    ·have e:q=lA ra rb i+j:=by omega
     subst e
     rw [if_neg h, ← hrow j hc2]
     unfold bw
     exact cI (by simp) (fun k hk=>by show aO (if k<ca then FA j k else 0)=_;rw [if_pos X])
   ·have hj:j=R:=by omega
    subst hj
    refine aV (av (av (aE (aF (aa (ai ?_))))))
    (refine FH (cA Y Y (aR ?_ ?_)) ?_;omega;omega)
    refine FI Y (FL ?_)
    have e:=hup.2.1
    rw [e]
    exact ci (s:=(i,sv0,cap0)) (i+1,sv1,cap1) (show _ from by simp only;omega) (by show 2 - (i+1)<2 - i;omega) (by unfold bO;repeat (first | exact dV.nil | refine dV.cons Y S ?_ | (refine dV.cons Y (ar ?_) ?_;(congr 1;first | omega | (simp;omega) | simp)))) (.keep FG (.keep FG (SubM.refl _)))
  ·have hi2:i=2:=by omega
   subst hi2
   refine aV (av (av (aE (aa (ae (ai (FH (aI 1 Y Y) (a8 2 Y Y Y Y (FJ Y ?_)))))))))
   refine FL (aa (aG ?_))
   have e2:lA ra rb 2=ra+rb:=by simp [lA]
   rw [e2]
   refine iW [aH sv0 32 .one cap0 (ra+rb) (fun q=>bw ca (dC ra F G q))] (List.Perm.refl _) (.keep (xv.refl _) (.keep (xv.box (cs' := [(0, .one,one (.int .i64 ((ra+rb:Nat):Int))),(1, .one,one (.int .i64 ca)),(2, .one,slT .one (ra+rb) (fun q=>bw ca (dC ra F G q)))])
    (.cons List.mem_cons_self (Ent.le (ar (by simp))) (.cons (List.mem_cons_of_mem _ List.mem_cons_self) (Ent.refl _) (.cons (List.mem_cons_of_mem _ (List.mem_cons_of_mem _ List.mem_cons_self)) (Ent.sl List.mem_cons_self) .nil)))) .nil)) (xw.refl _) ?_
   refine c9 Tryz.results52 (.cellW 1 Y Y ?_) (.tmp Y (ar ?_))
   ·simp only [decide_true,if_true]
    exact VT.le_refl _
   ·simp
end Tor
end
section
namespace Tor
open Go Go.RowKit Go.Proofs
def mP (F:Nat→Nat→Int) (i j:Nat):Nat→Nat→Int:=fun q k=>if k<i∨(k=i∧q<j) then F k q else 0
theorem x8 {T:TypeId} {c:Nat} {bs:List Nat} {F:Nat→Nat→Int} {i j:Nat} :
  Own.le (eC T (.agg 2) c bs (oc (fun q k=>aO (mP F i j q k)) j i (aO (F i j)))) (eC T (.agg 2) c bs (fun q k=>aO (mP F i (j+1) q k))):=by
 refine mg fun q k hq hk => ?_
 unfold oc mP
 by_cases h:q=j∧k=i
 ·obtain ⟨rfl,rfl⟩:=h;simp
 ·rw [if_neg h]
  have e:(k<i∨k=i∧q<j+1)↔(k<i∨k=i∧q<j):=by omega
  simp only [e]
attribute [local irreducible] J PJ aM one slT bW bH bj exT cn eP aX aH slV VT.le Ret bP
attribute [local irreducible] aO eC
theorem qm (r c:Nat) (F:Nat→Nat→Int) (hr0:r≤1048576) (hc0:c≤1048576):Ok Tryz.prog 107 [bO r c F] (bO c r (fun i j=>F j i)):=by
 unfold bO
 refine Ok.enter Tryz.func107 Y Tryz.ntmps107 Y (fun w O => ?_)
 refine ae (ai ?_)
 refine aQ Y Y (ltN Y) (fun b => ?_)
 refine bF (T:=30) Y Y Y (fun b => ?_)
 refine FL (aa (ae (ai (FH (aj Y) (FH (ak 1 Y Y Y) (FH (aj Y) (FH (ak 1 Y Y Y) ?_)))))))
 refine gz (oC c r hc0 hr0) Y ⟨S,S,FM⟩ Y Y (fun s => ?_)
 obtain ⟨⟨bs,sv1,cap1⟩,hlen,hsv⟩:=s
 simp only at hlen hsv
 unfold nv
 refine bF (T:=30) Y Y Y (fun b => ?_)
 refine a8 0 Y Y Y Y (FL (aa (ae (ae (ai (FJ Y (FL (aa (au ?_)))))))))
 rename_i b1 b2
 refine cO (σ:=Nat) (fun i => [(1,one (.pointer (some ⟨b1,0,none⟩))),(2,one (.pointer (some ⟨b2,0,none⟩))),(3,one (.pointer (some ⟨b,0,none⟩))),(4,one (.int .i64 (i:Nat)))])
  (fun i => [aX b 30 3 [(0, .one,one (.int .i64 c)),(1, .one,one (.int .i64 r)),(2, .one,one (slV sv1 c cap1))],kg sv1 cap1 c r bs,iN r bs (mP F i 0),aX b2 30 3 (dT #[Value.int IntKind.i64 0,Value.int IntKind.i64 0,Value.slice none 0 0] [(0,Lay.one),(1,Lay.one),(2,Lay.one)]),aX b1 30 3 [(0, .one,one (.int .i64 r)),(1, .one,one (.int .i64 c)),(2, .one,slT .one r (fun i=>bw c (F i)))]])
  (fun i=>i≤r) (fun i=>r - i) 0 (Nat.zero_le _) FE (.keep FG (.keep FG (.keep (i9 fun i j hi hj=>by simp [mP]) (SubM.refl _)))) (fun i hi => ?_)
 refine ae (ae (ai (FI Y (FH (aj Y) (FH (ak 4 Y Y Y) (FH (a6 Y Y) (FL (aa ?_))))))))
 refine bm Y (fun hc => ?_) (fun hc => ?_) <;> simp only [decide_eq_true_eq,decide_eq_false_iff_not,Int.ofNat_lt] at hc
 ·refine aw (aa (ae (au (ae (ai (FJ Y (FL (aa (au ?_)))))))))
  refine cO (σ:=Nat) (fun j => [(1,one (.pointer (some ⟨b1,0,none⟩))),(2,one (.pointer (some ⟨b2,0,none⟩))),(3,one (.pointer (some ⟨b,0,none⟩))),(4,one (.int .i64 (i:Nat))),(5,one (.int .i64 (j:Nat)))])
   (fun j => [aX b 30 3 [(0, .one,one (.int .i64 c)),(1, .one,one (.int .i64 r)),(2, .one,one (slV sv1 c cap1))],kg sv1 cap1 c r bs,iN r bs (mP F i j),aX b2 30 3 (dT #[Value.int IntKind.i64 0,Value.int IntKind.i64 0,Value.slice none 0 0] [(0,Lay.one),(1,Lay.one),(2,Lay.one)]),aX b1 30 3 [(0, .one,one (.int .i64 r)),(1, .one,one (.int .i64 c)),(2, .one,slT .one r (fun i=>bw c (F i)))]])
   (fun j=>j≤c) (fun j=>c - j) 0 (Nat.zero_le _) FE (SubM.refl _) (fun j hj => ?_)
  refine ae (ae (ai (FI Y (FH (aj Y) (FH (ak 4 Y Y Y) (FH (a6 Y Y) (FL (aa ?_))))))))
  refine bm Y (fun hc2 => ?_) (fun hc2 => ?_) <;> simp only [decide_eq_true_eq,decide_eq_false_iff_not,Int.ofNat_lt] at hc2
  ·obtain ⟨bo,rfl⟩:=fu hsv X
   refine aw (aa (ae (au (be 15 a4 Z U ?_))))
   unfold bw
   refine FH (aj Y) (FH (ak 0 Y Y Y) (FI Y ?_))
   (refine FH (aq Y Y ?_) ?_;omega)
   (refine FH (bg 1 Y Y ?_) ?_;omega)
   refine FI Y (FH (aj Y) (FH (ak 4 Y Y Y) (FI Y ?_)))
   (refine FH (aC Y Y ?_) ?_;omega)
   refine FH (aN Y) (FI Y ?_)
   (refine FH (aC Y Y ?_) ?_;omega)
   refine FH (aN Y) ?_
   (refine FH (aq Y Y ?_) ?_;omega)
   refine FL ?_
   (refine mh 2 Y Y Y (Aj ?_) ?_ Y ?_;omega;omega)
   refine FL (aF (aa (ai (FI Y ?_))))
   (refine FH (cA Y Y (aR ?_ ?_)) ?_;omega;omega)
   refine FJ Y (FL ?_)
   exact ci (s:=j) (j+1) (show _ from by omega) (by show c - (j+1)<c - j;omega) FE (.keep FG (.keep FG (.keep x8 (SubM.refl _))))
  ·have hjm:j=c:=by omega
   subst hjm
   refine aV (av (av (aE (aF (aa (ai (FI Y ?_)))))))
   (refine FH (cA Y Y (aR ?_ ?_)) ?_;omega;omega)
   refine FJ Y (FL ?_)
   refine ci (s:=i) (i+1) (show _ from by omega) (by show r - (i+1)<r - i;omega) FE (.keep FG (.keep FG (.keep (i9 fun q k hq hk => ?_) (SubM.refl _))))
   unfold mP
   have hq':q<j:=by omega
   have e:(k<i∨k=i∧q<j)↔(k<i+1∨k=i+1∧q<0):=by omega
   simp only [e]
 ·have hin:i=r:=by omega
  subst hin
  refine aV (av (av (aE (aa (ae (ai (FH (aI 0 Y Y) (a8 3 Y Y Y Y (FL ?_)))))))))
  refine aa (aG ?_)
  have hperm : ∀ (x y z u t:Own), [x,y,z,u,t].Perm ([y,z] ++ [x,u,t]):=fun x y z u t=>(List.Perm.swap y x _).trans (List.Perm.cons y (List.Perm.swap z x _))
  refine iW [kg sv1 cap1 c i bs,iN i bs (mP F i 0)] (hperm _ _ _ _ _) (.keep (xv.refl _) (.keep (xv.box (k9 hlen ⟨by simp,by simp,by simp⟩)) (.keep (xv.refl _) .nil))) (xw.refl _) ?_
  refine aT Tryz.results107 (.cellW 1 Y Y ?_)
  exact sb fun a b ha hb=>by simp [mP,hb]
end Tor
end
section
namespace Tor
open Go Go.RowKit Go.Proofs
attribute [local irreducible] J PJ aM one slT bW bH bj exT cn eP aX aH slV VT.le Ret bP
attribute [local irreducible] aO
theorem lV (l:List Int) (n:Nat) (hn:n≤16):Ok Tryz.prog 11 [gZ .i8 l,one (.int .i64 n)] (bw n (dig l)):=by
 refine Ok.enter Tryz.func11 Y Tryz.ntmps11 Y (fun w O => ?_)
 refine ae (ai (FJ Y (FL (aa (ae (ai (FI Y (FI Y ?_))))))))
 refine FH (am (pH 1 n l U hn) Y ⟨ar Y,S,S,FM⟩) ?_
 unfold bO
 refine FH (v8 Y Y) ?_
 (refine FH (im Y Y ?_ ?_) ?_;omega;omega)
 refine FH (aN Y) (FJ Y (FL (aa (aG ?_))))
 refine aT Tryz.results11 (.tmp Y ?_)
 unfold bw
 refine cI Y fun j hj => ?_
 simp
end Tor
end
section
namespace Tor.Lin
abbrev pv (e:ElS) (l:Nat):Nat:=e.piv.getD l 0
structure GJ (r w c:Nat) (full:Bool) (A:Nat→Nat→Int) (e:ElS) (V:Nat→Nat→Rat):Prop where
 d0:e.last≠0
 pr:e.piv.length≤r
 pc : ∀ l,l<e.piv.length→pv e l<c
 dP:(e.last:Rat)=det e.piv.length (fun a b=>(A a (pv e b):Rat))
 A2 : ∀ i,i<r → ∀ j,j<w→(A i j:Rat)=sm e.piv.length (fun k=>(A i (pv e k):Rat)*V k j)+(if i<e.piv.length then 0 else V i j)
 B3 : ∀ i,i<r → ∀ j,j<w→(full=true∨e.piv.length≤i)→(e.R i j:Rat)=(e.last:Rat)*V i j
 V4 : ∀ l,l<e.piv.length → ∀ i,i<r→V i (pv e l)=if i=l then 1 else 0
 V5 : ∀ c',c'<c → ∀ i,e.piv.length≤i→i<r→V i c'=0
 V6 : ∀ y:Nat→Rat,(∀ i,i<r→sm w (fun j=>y j*(A i j:Rat))=0) → ∀ i,i<r→sm w (fun j=>y j*V i j)=0
theorem vt {x:Int} (h:x≠0):(x:Rat)≠0:=fun e=>h (by exact_mod_cast e)
theorem GJ.int {r w c:Nat} {full:Bool} {A:Nat→Nat→Int} {d:Int} {piv:List Nat} {V:Nat→Nat→Rat}
  (dP:(d:Rat)=det piv.length (fun a b=>(A a (piv.getD b 0):Rat)))
  (A2 : ∀ i,i<r → ∀ j,j<w→(A i j:Rat)=sm piv.length (fun k=>(A i (piv.getD k 0):Rat)*V k j)+(if i<piv.length then 0 else V i j)) (pr:piv.length≤r)
  {i j:Nat} (hi:i<r) (hj:j<w) : ∃ N:Int,(N:Rat)=(d:Rat)*V i j:=by
 by_cases h:i<piv.length
 ·refine ⟨bK piv.length (fun a b=>if b=i then A a j else A a (piv.getD b 0)),?_⟩
  rw [di,dP]
  have e:det piv.length (fun a b=>((if b=i then A a j else A a (piv.getD b 0):Int):Rat))=det piv.length (cK (fun a b=>(A a (piv.getD b 0):Rat)) i (fun a=>sm piv.length (fun l=>V l j*(A a (piv.getD l 0):Rat)))):=bM fun a b ha hb=>by
   unfold cK
   by_cases c:b=i
   ·rw [if_pos c,if_pos c,A2 a X j hj,if_pos ha,Rat.add_zero]
    exact aU fun l _=>Rat.mul_comm _ _
   ·rw [if_neg c,if_neg c]
  rw [e,tq h (fun a b=>(A a (piv.getD b 0):Rat)) (fun l=>V l j),Rat.mul_comm]
 ·refine ⟨bK (piv.length+1) (fun a b=>A (if a<piv.length then a else i) (if b<piv.length then piv.getD b 0 else j)),?_⟩
  rw [di,dP,tr _ (fun l=>V l j) (V i j) (fun a ha => ?_),Rat.mul_comm]
  ·congr 1
   exact bM fun a b ha hb=>by rw [if_pos ha,if_pos hb]
  ·rw [if_neg (Nat.lt_irrefl _)]
   by_cases c:a<piv.length
   ·rw [if_pos c,if_neg (show a≠piv.length by omega),A2 a X j hj,if_pos c]
    congr 1
    exact aU fun l hl=>by rw [if_pos hl]; exact Rat.mul_comm _ _
   ·rw [if_neg c,if_pos (show a=piv.length by omega),A2 i hi j hj,if_neg h]
    congr 1
    exact aU fun l hl=>by rw [if_pos hl]; exact Rat.mul_comm _ _
theorem GJ.start {r w:Nat} {full:Bool} (A:Nat→Nat→Int):GJ r w 0 full A ⟨A,1,false, []⟩ (fun i j=>(A i j:Rat)) where
 d0:=(by decide:(1:Int)≠0)
 pr:=Nat.zero_le _
 pc:=fun l h=>absurd h (Nat.not_lt_zero _)
 dP:=rfl
 A2:=fun i hi j hj=>by
  show (A i j:Rat)=0+(if i<0 then 0 else (A i j:Rat))
  rw [if_neg (Nat.not_lt_zero _)]; grind
 B3:=fun i hi j hj _=>by
  show (A i j:Rat)=((1:Int):Rat)*(A i j:Rat)
  have:((1:Int):Rat)=1:=rfl
  rw [this]; grind
 V4:=fun l h=>absurd h (Nat.not_lt_zero _)
 V5:=fun c' h=>absurd h (Nat.not_lt_zero _)
 V6:=fun y h=>h
theorem GJ.skip {r w c:Nat} {full:Bool} {A:Nat→Nat→Int} {e:ElS} {V:Nat→Nat→Rat} (h:GJ r w c full A e V) (hc:c<w) (h0 : ∀ q,e.piv.length≤q→q<r→e.R q c=0):GJ r w (c+1) full A e V :=
 ⟨h.d0,h.pr,fun l hl=>Nat.lt_succ_of_lt (h.pc l hl),h.dP,h.A2,h.B3,h.V4,fun c' hc' i h1 h2=>by
  by_cases e1:c'=c
  ·subst e1
   have:=h.B3 i h2 c' hc (.inr h1)
   rw [h0 i h1 h2] at this
   have hd:=vt h.d0
   have h3:((0:Int):Rat)=0:=rfl
   rw [h3] at this
   grind
  ·exact h.V5 c' X i h1 h2,h.V6⟩
theorem GJ.swap {r w c:Nat} {full:Bool} {A:Nat→Nat→Int} {e:ElS} {V:Nat→Nat→Rat} (h:GJ r w c full A e V) {i:Nat} (hp:e.piv.length<r) (hk:e.piv.length≤i) (hi:i<r) (odd:Bool) :
  GJ r w c full (Tor.swp i e.piv.length A) ⟨Tor.swp i e.piv.length e.R,e.last,odd,e.piv⟩ (Tor.swp i e.piv.length V):=by
 have low : ∀ {α:Type} (φ:Nat→α) (q:Nat),q<e.piv.length→Tor.swp i e.piv.length φ q=φ q:=fun φ q hq=>by
  unfold Tor.swp;rw [if_neg X,if_neg X]
 have val : ∀ q,q<r → ∃ q',q'<r∧(q<e.piv.length↔q'<e.piv.length)∧(q<e.piv.length→q'=q) ∧ ∀ {α:Type} (φ:Nat→α),Tor.swp i e.piv.length φ q=φ q':=fun q hq=>by
  by_cases h1:q=i
  ·exact ⟨e.piv.length,hp,by omega,by omega,fun φ=>by unfold Tor.swp;rw [if_pos h1]⟩
  ·by_cases h2:q=e.piv.length
   ·exact ⟨i,hi,by omega,by omega,fun φ=>by unfold Tor.swp;rw [if_neg h1,if_pos h2]⟩
   ·exact ⟨q,hq,Iff.rfl,fun _=>rfl,fun φ=>by unfold Tor.swp;rw [if_neg h1,if_neg h2]⟩
 refine ⟨h.d0,h.pr,h.pc,?_,fun q hq j hj => ?_,fun q hq j hj hf => ?_,fun l hl q hq => ?_,fun c' hc' q h1 h2 => ?_,fun y hy q hq => ?_⟩
 ·show (e.last:Rat)=_
  rw [h.dP]
  exact bM fun a b ha hb=>by rw [low A a ha]
 ·obtain ⟨q',h1,h2,h3,h4⟩:=val q hq
  show ((Tor.swp i e.piv.length A q j:Int):Rat)=sm e.piv.length (fun k=>((Tor.swp i e.piv.length A q (pv e k):Int):Rat)*Tor.swp i e.piv.length V k j)+(if q<e.piv.length then 0 else Tor.swp i e.piv.length V q j)
  rw [h4 A,h4 V,h.A2 q' h1 j hj]
  congr 1
  ·exact aU fun k hk'=>by rw [low V k hk']
  ·by_cases c:q<e.piv.length
   ·rw [if_pos c,if_pos (h2.1 c)]
   ·rw [if_neg c,if_neg (fun k=>c (h2.2 k))]
 ·obtain ⟨q',h1,h2,h3,h4⟩:=val q hq
  show ((Tor.swp i e.piv.length e.R q j:Int):Rat)=(e.last:Rat)*Tor.swp i e.piv.length V q j
  rw [h4 e.R,h4 V]
  exact h.B3 q' h1 j hj (hf.imp id fun k=>by
   have k:e.piv.length≤q:=k
   omega)
 ·obtain ⟨q',h1,h2,h3,h4⟩:=val q hq
  have hl:l<e.piv.length:=hl
  show Tor.swp i e.piv.length V q (pv e l)=_
  rw [h4 V,h.V4 l hl q' h1]
  by_cases c:q<e.piv.length
  ·rw [h3 c]
  ·rw [if_neg X,if_neg X]
 ·obtain ⟨q',h3,h4,h5,h6⟩:=val q h2
  have h1:e.piv.length≤q:=h1
  show Tor.swp i e.piv.length V q c'=0
  rw [h6 V]
  exact h.V5 c' hc' q' X h3
 ·obtain ⟨q',h1,h2,h3,h4⟩:=val q hq
  show sm w (fun j=>y j*Tor.swp i e.piv.length V q j)=0
  rw [h4 V]
  refine h.V6 y (fun k hk' => ?_) q' h1
  obtain ⟨k',g1,g2,g3,g4⟩:=val k hk'
  have hb : ∃ q0,q0<r∧Tor.swp i e.piv.length A q0=A k:=by
   by_cases c1:k=i
   ·exact ⟨e.piv.length,hp,by rw [iw,c1]⟩
   ·by_cases c2:k=e.piv.length
    ·exact ⟨i,hi,by unfold Tor.swp;rw [if_pos Y,c2]⟩
    ·exact ⟨k,hk',by unfold Tor.swp;rw [if_neg c1,if_neg c2]⟩
  obtain ⟨q0,g5,g6⟩:=hb
  rw [← g6]; exact hy q0 g5
theorem kG {l:List Nat} {c k:Nat} (h:k<l.length):(l ++ [c]).getD k 0=l.getD k 0:=by
 simp [List.getD,List.getElem?_append_left h]
theorem gC (l:List Nat) (c:Nat):(l ++ [c]).getD l.length 0=c:=by simp [List.getD]
theorem GJ.step {r w c:Nat} {full:Bool} {A:Nat→Nat→Int} {e:ElS} {V:Nat→Nat→Rat} (h:GJ r w c full A e V) (hc:c<w) (hp:e.piv.length<r) (hn:e.R e.piv.length c≠0) (odd:Bool) :
  GJ r w (c+1) full A ⟨gO e.piv.length c e.last full e.R,e.R e.piv.length c,odd,e.piv ++ [c]⟩ (fun i j=>if i=e.piv.length then V i j / V i c else V i j - V i c*(V e.piv.length j / V e.piv.length c))∧V e.piv.length c≠0:=by
 have hd:=vt h.d0
 have hpc:=h.B3 e.piv.length hp c hc (.inr (Nat.le_refl _))
 have hnq:=vt hn
 have hv:V e.piv.length c≠0:=fun k=>hnq (by rw [hpc,k]; grind)
 refine ⟨?_,hv⟩
 generalize hV':(fun i j=>if i=e.piv.length then V i j / V i c else V i j - V i c*(V e.piv.length j / V e.piv.length c))=V'
 have hlen:(e.piv ++ [c]).length=e.piv.length+1:=by simp
 have vp : ∀ j,V' e.piv.length j=V e.piv.length j / V e.piv.length c:=fun j=>by rw [← hV']; simp only [if_pos]
 have vi : ∀ i j,i≠e.piv.length→V' i j=V i j - V i c*V' e.piv.length j:=fun i j hi=>by rw [vp, ← hV']; simp only [if_neg hi]
 have vpm : ∀ j,V e.piv.length j=V e.piv.length c*V' e.piv.length j:=fun j=>by rw [vp]; grind
 have hA2 : ∀ i,i<r → ∀ j,j<w→(A i j:Rat)=sm (e.piv ++ [c]).length (fun k=>(A i ((e.piv ++ [c]).getD k 0):Rat)*V' k j)+(if i<(e.piv ++ [c]).length then 0 else V' i j):=fun i hi j hj=>by
  rw [hlen,sm,gC]
  have e1:sm e.piv.length (fun k=>(A i ((e.piv ++ [c]).getD k 0):Rat)*V' k j)=sm e.piv.length (fun k=>(A i (pv e k):Rat)*V k j) - sm e.piv.length (fun k=>(A i (pv e k):Rat)*V k c)*V' e.piv.length j:=by
   rw [← dR, ← lQ]
   exact aU fun k hk=>by rw [kG hk,vi k j X]; grind
  rw [e1]
  have a1:=h.A2 i hi j hj
  have a2:=h.A2 i hi c hc
  by_cases c1:i<e.piv.length
  ·rw [if_pos c1] at a1 a2
   rw [if_pos X]
   grind
  ·rw [if_neg c1] at a1 a2
   by_cases c2:i=e.piv.length
   ·subst c2
    rw [if_pos X]
    have:=vpm j
    grind
   ·rw [if_neg X,vi i j c2]
    grind
 have hdP:((e.R e.piv.length c:Int):Rat)=det (e.piv ++ [c]).length (fun a b=>(A a ((e.piv ++ [c]).getD b 0):Rat)):=by
  rw [hlen,tr _ (fun l=>V l c) (V e.piv.length c) (fun a ha => ?_),hpc,h.dP,Rat.mul_comm]
  ·congr 1
   exact bM fun a b ha hb=>by rw [kG hb]
  ·rw [gC,h.A2 a X c hc]
   have e2:sm e.piv.length (fun k=>(A a (pv e k):Rat)*V k c)=sm e.piv.length (fun l=>V l c*(A a ((e.piv ++ [c]).getD l 0):Rat)):=aU fun l hl=>by rw [kG hl]; exact Rat.mul_comm _ _
   rw [e2]
   congr 1
   by_cases c1:a<e.piv.length
   ·rw [if_pos c1,if_neg X]
   ·rw [if_neg c1,if_pos X,show a=e.piv.length by omega]
 refine ⟨hn,by rw [hlen]; exact hp,fun l hl => ?_,hdP,hA2,fun i hi j hj hf => ?_,fun l hl i hi => ?_,fun c' hc' i h1 h2 => ?_,fun y hy i hi => ?_⟩
 ·have hl:l<(e.piv ++ [c]).length:=hl
  show (e.piv ++ [c]).getD l 0<c+1
  rw [hlen] at hl
  by_cases c1:l<e.piv.length
  ·rw [kG c1]; exact Nat.lt_succ_of_lt (h.pc l c1)
  ·rw [show l=e.piv.length by omega,gC]; omega
 ·have hf:full=true∨(e.piv ++ [c]).length≤i:=hf
  show ((Tor.gO e.piv.length c e.last full e.R i j:Int):Rat)=((e.R e.piv.length c:Int):Rat)*V' i j
  unfold Tor.gO
  by_cases c1:i=e.piv.length
  ·subst c1
   rw [if_neg (by simp),hpc,vp,h.B3 _ hp j hj (.inr (Nat.le_refl _))]
   grind
  ·have hf':full=true∨e.piv.length≤i:=hf.imp id fun k=>by omega
   rw [if_pos (by
    rcases Nat.lt_or_ge e.piv.length i with h1 | h1
    ·simp [h1]
    ·rcases hf with h2 | h2
     ·have:i<e.piv.length:=by omega
      simp [h2,this]
     ·omega)]
   obtain ⟨N,hN⟩:=GJ.int (c:=c) (full:=full) hdP hA2 X hi hj
   have key:e.R e.piv.length c*e.R i j - e.R i c*e.R e.piv.length j=e.last*N:=by
    have:((e.R e.piv.length c*e.R i j - e.R i c*e.R e.piv.length j:Int):Rat)=((e.last*N:Int):Rat):=by
     rw [Rat.intCast_sub,Rat.intCast_mul,Rat.intCast_mul,Rat.intCast_mul,hN,hpc,h.B3 i hi j hj hf',h.B3 i hi c hc hf',h.B3 _ hp j hj (.inr (Nat.le_refl _)),vi i j c1]
     have:=vpm j
     grind
    exact_mod_cast this
   unfold kc
   rw [key,Int.mul_ediv_cancel_left _ h.d0,hN]
 ·have hl:l<(e.piv ++ [c]).length:=hl
  show V' i ((e.piv ++ [c]).getD l 0)=_
  rw [hlen] at hl
  by_cases c1:l<e.piv.length
  ·rw [kG c1]
   have v1:=h.V4 l c1 e.piv.length hp
   rw [if_neg X] at v1
   by_cases c2:i=e.piv.length
   ·subst c2
    rw [vp,v1,if_neg X]; grind
   ·rw [vi i _ c2,vp,v1,h.V4 l c1 i hi]
    split <;> grind
  ·rw [show l=e.piv.length by omega,gC]
   by_cases c2:i=e.piv.length
   ·subst c2
    rw [vp,if_pos Y]; grind
   ·rw [vi i _ c2,vp,if_neg c2]; grind
 ·have h1:(e.piv ++ [c]).length≤i:=h1
  rw [hlen] at h1
  rw [vi i c' X,vp]
  by_cases c1:c'=c
  ·subst c1;grind
  ·rw [h.V5 c' X i X h2,h.V5 c' X e.piv.length (Nat.le_refl _) hp]; grind
 ·have z:=h.V6 y hy
  have zp:sm w (fun j=>y j*V' e.piv.length j)=0:=by
   rw [aU (g:=fun j=>y j*V e.piv.length j*(1 / V e.piv.length c)) (fun j _=>by rw [vp]; grind),dR,z _ hp]; grind
  by_cases c2:i=e.piv.length
  ·rw [c2]; exact zp
  ·rw [aU (g:=fun j=>y j*V i j - y j*V' e.piv.length j*V i c) (fun j _=>by rw [vi i j c2]; grind),lQ,dR,zp,z i hi]; grind
end Tor.Lin
end
section
namespace Tor.Lin
def nY (r w:Nat) (F:Nat→Nat→Int) (c:Nat):Prop := ¬ ∃ y:Nat→Rat,y c=1∧(∀ j,c<j→y j=0) ∧ ∀ i,i<r→sm w (fun j=>y j*(F i j:Rat))=0
open Classical in
noncomputable def jn (r w:Nat) (F:Nat→Nat→Int) (n:Nat):List Nat:=(List.range n).filter fun c=>decide (nY r w F c)
theorem lG {r w:Nat} {F:Nat→Nat→Int} {n:Nat} (h:nY r w F n):jn r w F (n+1)=jn r w F n ++ [n]:=by
 unfold jn;rw [List.range_succ,List.filter_append]; simp [h]
theorem lH {r w:Nat} {F:Nat→Nat→Int} {n:Nat} (h : ¬ nY r w F n):jn r w F (n+1)=jn r w F n:=by
 unfold jn;rw [List.range_succ,List.filter_append]; simp [h]
structure EL (r w c:Nat) (full:Bool) (F:Nat→Nat→Int) (e:ElS) (A:Nat→Nat→Int) (V:Nat→Nat→Rat):Prop where
 gj:GJ r w c full A e V
 p1 : ∀ i,i<r → ∃ k,k<r∧A i=F k
 p2 : ∀ k,k<r → ∃ i,i<r∧A i=F k
 sg:det r (fun i j=>(A i j:Rat))=(if e.odd then -1 else 1)*det r (fun i j=>(F i j:Rat))
 pl:e.piv=jn r w F c
theorem EL.rel {r w c:Nat} {full:Bool} {F:Nat→Nat→Int} {e:ElS} {A:Nat→Nat→Int} {V:Nat→Nat→Rat} (h:EL r w c full F e A V) {P:(Nat→Int)→Prop} : (∀ i,i<r→P (A i))↔(∀ i,i<r→P (F i)):=by
 constructor
 ·intro FA k hk;obtain ⟨i,hi,e⟩:=h.p2 k hk;rw [← e]; exact FA i hi
 ·intro FA i hi;obtain ⟨k,hk,e⟩:=h.p1 i hi;rw [e]; exact FA k hk
theorem Eg {r w c:Nat} {full:Bool} {F:Nat→Nat→Int} {e:ElS} {A:Nat→Nat→Int} {V:Nat→Nat→Rat} (h:EL r w c full F e A V) (hc:c<w) (h0 : ∀ q,e.piv.length≤q→q<r→e.R q c=0) : ¬ nY r w F c:=by
 intro hn
 have g':=h.gj.skip hc h0
 have hp : ∀ k,k<e.piv.length→pv e k<c:=h.gj.pc
 refine hn ⟨fun j=>(if j=c then 1 else 0) - sm e.piv.length (fun k=>if j=pv e k then V k c else 0),?_,fun j hj => ?_,?_⟩
 ·show (if c=c then (1:Rat) else 0) - _=1
  rw [if_pos Y,eZ (fun k hk=>by rw [if_neg]; have:=hp k hk;omega)]; grind
 ·show (if j=c then (1:Rat) else 0) - _=0
  rw [if_neg X,eZ (fun k hk=>by rw [if_neg]; have:=hp k hk;omega)]; grind
 ·refine (h.rel (P:=fun a=>sm w (fun j=>((if j=c then 1 else 0) - sm e.piv.length (fun k=>if j=pv e k then V k c else 0))*(a j:Rat))=0)).1 (fun i hi => ?_)
  have a2:=h.gj.A2 i hi c hc
  have a3:(if i<e.piv.length then 0 else V i c)=0:=by
   split
   ·rfl
   ·exact g'.V5 c X i X hi
  rw [a3] at a2
  have e1:sm w (fun j=>((if j=c then 1 else 0) - sm e.piv.length (fun k=>if j=pv e k then V k c else 0))*(A i j:Rat))=sm w (fun j=>(if j=c then (A i j:Rat) else 0)) - sm w (fun j=>sm e.piv.length (fun k=>if j=pv e k then V k c*(A i j:Rat) else 0)):=by
   rw [← lQ]
   refine aU fun j _ => ?_
   have e2:sm e.piv.length (fun k=>if j=pv e k then V k c*(A i j:Rat) else 0)=sm e.piv.length (fun k=>if j=pv e k then V k c else 0)*(A i j:Rat):=by
    rw [← dR]; exact aU fun k _=>by split <;> grind
   rw [e2]; split <;> grind
  rw [e1,jL hc,gV]
  have e3:sm e.piv.length (fun k=>sm w (fun j=>if j=pv e k then V k c*(A i j:Rat) else 0))=sm e.piv.length (fun k=>(A i (pv e k):Rat)*V k c):=aU fun k hk=>by
   rw [jL (by have:=hp k hk;omega) (fun j=>V k c*(A i j:Rat))]; exact Rat.mul_comm _ _
  rw [e3]; grind
theorem Eh {r w c:Nat} {full:Bool} {F:Nat→Nat→Int} {e:ElS} {A:Nat→Nat→Int} {V:Nat→Nat→Rat} (h:GJ r w c full A e V) (p2 : ∀ k,k<r → ∃ i,i<r∧A i=F k) (p1 : ∀ i,i<r → ∃ k,k<r∧A i=F k) (hc:c<w) (hp:e.piv.length<r) (hv:V e.piv.length c≠0):nY r w F c:=by
 rintro ⟨y,y1,y2,y3⟩
 have z:=h.V6 y (fun i hi=>by obtain ⟨k,hk,ek⟩:=p1 i hi;rw [ek]; exact y3 k hk) _ hp
 rw [gm hc (fun j hj hne=>by
  rcases Nat.lt_or_ge j c with h1 | h1
  ·rw [h.V5 j h1 _ (Nat.le_refl _) hp]; grind
  ·rw [y2 j X]; grind),y1] at z
 exact hv (by grind)
theorem Ei {i p:Nat} (A:Nat→Nat→Int):(fun a b=>((Tor.swp i p A a b:Int):Rat))=tw (fun a b=>(A a b:Rat)) i p (fun b=>(A p b:Rat)) (fun b=>(A i b:Rat)):=by
 funext a b
 unfold Tor.swp tw
 by_cases h1:a=i
 ·rw [if_pos h1,if_pos h1]
 ·rw [if_neg h1,if_neg h1]
  by_cases h2:a=p
  ·rw [if_pos h2,if_pos h2]
  ·rw [if_neg h2,if_neg h2]
theorem pJ (r w:Nat) (full:Bool) (F:Nat→Nat→Int) : ∀ c,c≤w → ∃ A V,EL r w c full F (elN r full F c) A V
 | 0, _ => ⟨F, _, GJ.start F, fun i hi => ⟨i, hi, rfl⟩, fun k hk => ⟨k, hk, rfl⟩, by show _ = (if false = true then (-1 : Rat) else 1) * _; rw [if_neg (by simp)]; grind, rfl⟩
 | c + 1, hc => by
  obtain ⟨A,V,h⟩:=pJ r w full F c X
  show ∃ A V,EL r w (c+1) full F (elR r full c (elN r full F c)) A V
  generalize elN r full F c=e at h
  rcases tn e.R c e.piv.length r with h0 | ⟨i,hk,hi,h0,hn⟩
  ·rw [pg h0]
   exact ⟨A,V,h.gj.skip X h0,h.p1,h.p2,h.sg,by rw [lH (Eg h X h0)]; exact h.pl⟩
  ·have hp:e.piv.length<r:=by omega
   rw [ph hp hk hi h0 hn]
   have hs:=h.gj.swap hp hk hi (xor e.odd (decide (i≠e.piv.length)))
   obtain ⟨st,hv⟩:=hs.step X hp (by show Tor.swp i e.piv.length e.R e.piv.length c≠0;rw [iw]; exact hn) (xor e.odd (decide (i≠e.piv.length)))
   have q1 : ∀ q,q<r → ∃ k,k<r∧Tor.swp i e.piv.length A q=F k:=fun q hq=>by
    unfold Tor.swp;split
    ·exact h.p1 _ hp
    ·split
     ·exact h.p1 _ hi
     ·exact h.p1 q hq
   have q2 : ∀ k,k<r → ∃ q,q<r∧Tor.swp i e.piv.length A q=F k:=fun k hk'=>by
    obtain ⟨q,hq,eq⟩:=h.p2 k hk'
    by_cases c1:q=i
    ·exact ⟨e.piv.length,hp,by rw [iw, ← c1]; exact eq⟩
    ·by_cases c2:q=e.piv.length
     ·exact ⟨i,hi,by unfold Tor.swp;rw [if_pos Y, ← c2]; exact eq⟩
     ·exact ⟨q,hq,by unfold Tor.swp;rw [if_neg c1,if_neg c2]; exact eq⟩
   refine ⟨_,_,st,q1,q2,?_,?_⟩
   ·show det r (fun a b=>((Tor.swp i e.piv.length A a b:Int):Rat))=(if (xor e.odd (decide (i≠e.piv.length)))=true then (-1:Rat) else 1)*_
    by_cases c1:i=e.piv.length
    ·rw [← c1,iu,h.sg]; simp
    ·rw [Ei,th fR c1 hi hp,h.sg]
     cases e.odd <;> simp [c1] <;> grind
   ·show e.piv ++ [c]=jn r w F (c+1)
    rw [lG (Eh hs q2 q1 X hp hv), ← h.pl]
theorem wQ {n c:Nat} {F:Nat→Nat→Rat} {y:Nat→Rat} (hc:c<n) (h1:y c=1) (h : ∀ i,i<n→sm n (fun j=>y j*F i j)=0):det n F=0:=by
 have e:det n F=det n (cK F c (fun a=>sm n (fun l=>(if l=c then 0 else - y l)*F a l))):=bM fun i j hi hj=>by
  unfold cK
  by_cases hj':j=c
  ·rw [if_pos hj',hj']
   have e1:sm n (fun l=>(if l=c then 0 else - y l)*F i l)=sm n (fun l=>(if l=c then F i l else 0)) - sm n (fun l=>y l*F i l):=by
    rw [← lQ]
    exact aU fun l _=>by
     by_cases hl:l=c
     ·rw [if_pos hl,if_pos hl,hl,h1]; grind
     ·rw [if_neg hl,if_neg hl]; grind
   show F i c=sm n (fun l=>(if l=c then 0 else - y l)*F i l)
   rw [e1,jL hc,h i hi]; grind
  ·rw [if_neg hj']
 rw [e,tq hc F (fun l=>if l=c then 0 else - y l),if_pos Y]; grind
theorem vu {α:Type} {p:α→Bool} {l:List α} (h : ¬ (l.filter p).length<l.length):l.filter p=l:=by
 have h1:=List.length_filter_le p l
 exact List.filter_eq_self.2 (List.length_filter_eq_length_iff.1 X)
theorem lf {r w n:Nat} {F:Nat→Nat→Int} (h : ¬ (jn r w F n).length<n):jn r w F n=List.range n:=by
 unfold jn at *
 have:=vu (l:=List.range n) (p:=fun c => @decide (nY r w F c) (Classical.propDecidable _)) (by rw [List.length_range]; exact h)
 exact this
theorem pK {r w n:Nat} {F:Nat→Nat→Int} (h:(jn r w F n).length<n) : ∃ c,c<n ∧ ¬ nY r w F c:=by
 refine Classical.byContradiction fun hn => ?_
 have:jn r w F n=List.range n:=by
  unfold jn
  rw [List.filter_eq_self]
  intro c hc
  have h1:nY r w F c:=Classical.byContradiction fun k=>hn ⟨c,List.mem_range.1 hc,k⟩
  simp [h1]
 rw [this,List.length_range] at h
 omega
def x9 (r:Nat) (F:Nat→Nat→Int):Int:=if (elN r false F r).piv.length<r then 0 else if (elN r false F r).odd then -(elN r false F r).last else (elN r false F r).last
theorem sc (r:Nat) (F:Nat→Nat→Int):x9 r F=bK r F:=by
 have key:((x9 r F:Int):Rat)=((bK r F:Int):Rat):=by
  rw [di]
  obtain ⟨A,V,h⟩:=pJ r r false F r (Nat.le_refl _)
  unfold x9
  split
  ·rename_i hp
   rw [h.pl] at hp
   obtain ⟨c,hc,hn⟩:=pK hp
   obtain ⟨y,y1,y2,y3⟩:=Classical.not_not.1 hn
   rw [wQ hc y1 y3]; rfl
  ·rename_i hp
   have hl:(elN r false F r).piv.length=r:=by have:=h.gj.pr;omega
   have hr:=lf (by rw [← h.pl]; exact hp)
   have hd:=h.gj.dP
   rw [hl] at hd
   have e1:det r (fun a b=>(A a (pv (elN r false F r) b):Rat))=det r (fun a b=>(A a b:Rat)):=bM fun a b ha hb=>by
    show ((A a ((elN r false F r).piv.getD b 0):Int):Rat)=_
    rw [h.pl,hr]
    simp [List.getD,hb]
   rw [e1,h.sg] at hd
   cases ho:(elN r false F r).odd
   ·rw [ho] at hd
    simp at hd ⊢
    rw [hd]
   ·rw [ho] at hd
    simp at hd ⊢
    rw [hd]; grind
 exact_mod_cast key
end Tor.Lin
end
section
namespace Tor
open Go Go.RowKit Go.Proofs
theorem Cr (i k:Nat) (φ:Nat→VT) (h:i≠k):upd (upd φ i (φ k)) k (φ i)=swp i k φ:=by
 funext q;unfold upd swp
 by_cases h1:q=k
 ·subst h1;rw [if_pos Y,if_neg (fun e=>h e.symm),if_pos Y]
 ·rw [if_neg h1]; by_cases h2:q=i
  ·rw [if_pos h2,if_pos h2]
  ·rw [if_neg h2,if_neg h2,if_neg h1]
abbrev e8 (b:Nat) (sv:Option Nat) (r cap:Nat) (last:Int) (odd:Bool) (ψ:VT):Own:=aX b 117 5 [(0, .one,one (slV sv r cap)),(1, .agg 2,aO last),(3, .one,one (.bool odd)),(4, .one, ψ)]
attribute [local irreducible] J PJ aM one slT bW bH bj exT cn eP aX aH slV VT.le Ret bP
attribute [local irreducible] aO
theorem Cs (b bs r cap:Nat) (last:Int) (odd:Bool) (ψ:VT) (φ:Nat→VT) [hF : ∀ i,Flat (φ i) .one] (i k:Nat) (hi:i<r) (hk:k<r) (hne:(i:Int)≠(k:Int)) :
  OkI Tryz.prog 126 [one (.pointer (some ⟨b,0,none⟩)),one (.int .i64 (i:Nat)),one (.int .i64 (k:Nat))] [e8 b (some bs) r cap last odd ψ,aH (some bs) 32 .one cap r φ]
   (fun _:Unit=>bj []) (fun _ => [e8 b (some bs) r cap last (!odd) ψ,aH (some bs) 32 .one cap r (swp i k φ)]):=by
 refine OkI.enter Tryz.func126 Y Tryz.ntmps126 Y (fun w O => ?_)
 refine ae (ai (FI Y (FI Y (FH (sT (by assumption) (dj Y Y)) (FL (aa (aD Y (ae ?_))))))))
 refine jl (Γ1 := [(0,one (.pointer (some ⟨b,0,none⟩)))]) (M1 := [e8 b (some bs) r cap last odd ψ,aH (some bs) 32 .one cap r (upd (upd φ i (φ k)) k (φ i))]) 24 5 [9] [] a4 Z U ?_ ?_
 ·refine FI Y (FH (bN Y) (FH (aj Y) (FH (ak 0 Y Y Y) (FI Y (FI Y (FH (bN Y) (FH (aj Y) (FH (ak 0 Y Y Y) (FI Y ?_)))))))))
  refine FI Y (FH (bN Y) (FH (aj Y) (FH (ak 0 Y Y Y) (FI Y (FH (aq Y Y X) (FH (bg 1 Y Y X) (FI Y (FH (bN Y) (FH (aj Y) ?_)))))))))
  refine FH (ak 0 Y Y Y) (FI Y (FH (aq Y Y X) (FH (bg 1 Y Y X) (FL ?_))))
  refine zC (Γe := [(0,_),(12,_),(13,_),(25,_),(17,_),(32,_),(2,_)]) (Γe' := [(0,_),(12,_),(13,_),(25,_),(17,_),(32,_),(18,_)]) (rem := [24,25,26,27]) Y FF Y FF Y ?_ ?_
  ·refine bQ (rem' := [24,25,26,27]) (rem'' := [9,25,26,27]) (i:=9) (j:=24) Z Y Y Y Y ?_ ?_ jk.nil
   refine FI Y (FL ?_)
   refine ⟨rfl,?_⟩
   refine ao (rem' := [25,26,27]) (i:=24) Z Y Y ?_ jk.nil
   refine FH (aq Y Y X) (FL ?_)
   refine ⟨rfl,?_⟩
   refine ao (rem' := [26,27]) (i:=25) Z Y Y ?_ jk.nil
   (refine az 1 Y Y Y ?_ Y ?_;omega)
   refine FL ?_
   refine ⟨rfl,?_⟩
   refine ao (rem' := [27]) (i:=26) Z Y Y ?_ jk.nil
   refine FH (aq Y Y X) (FL ?_)
   refine ⟨rfl,?_⟩
   refine ao (rem' := []) (i:=27) Z Y Y ?_ jk.nil
   (refine az 1 Y Y Y ?_ Y ?_;omega)
   refine FL ?_
   refine ⟨rfl,?_⟩
   refine aW FF (SubM.refl _) jk.nil
   refine FH (aq Y Y X) (FL ?_)
   refine ⟨rfl,?_⟩
   refine bQ (rem' := [25,26,27]) (rem'' := [9,26,27]) (i:=9) (j:=25) Z Y Y Y Y ?_ ?_ jk.nil
   refine FI Y (FL ?_)
   refine ⟨rfl,?_⟩
   refine ao (rem' := [26,27]) (i:=25) Z Y Y ?_ jk.nil
   (refine az 1 Y Y Y ?_ Y ?_;omega)
   refine FL ?_
   refine ⟨rfl,?_⟩
   refine ao (rem' := [27]) (i:=26) Z Y Y ?_ jk.nil
   refine FH (aq Y Y X) (FL ?_)
   refine ⟨rfl,?_⟩
   refine ao (rem' := []) (i:=27) Z Y Y ?_ jk.nil
   (refine az 1 Y Y Y ?_ Y ?_;omega)
   refine FL ?_
   refine ⟨rfl,?_⟩
   refine aW FF (SubM.refl _) jk.nil
   (refine az 1 Y Y Y ?_ Y ?_;omega)
   refine FL ?_
   refine ⟨rfl,?_⟩
   refine ao (rem' := [26,27]) (i:=9) Z Y Y ?_ jk.nil
   refine FI Y (FL ?_)
   refine ⟨rfl,?_⟩
   refine ao (rem' := [27]) (i:=26) Z Y Y ?_ jk.nil
   refine FH (aq Y Y X) (FL ?_)
   refine ⟨rfl,?_⟩
   refine ao (rem' := []) (i:=27) Z Y Y ?_ jk.nil
   (refine az 1 Y Y Y ?_ Y ?_;omega)
   refine FL ?_
   refine ⟨rfl,?_⟩
   refine aW FF (SubM.refl _) jk.nil
  ·refine ao (rem' := [25,26,27]) (i:=24) Z Y Y ?_ jk.nil
   refine FH (aq Y Y X) (FL ?_)
   refine ⟨rfl,?_⟩
   refine ao (rem' := [26,27]) (i:=25) Z Y Y ?_ jk.nil
   (refine az 1 Y Y Y ?_ Y ?_;omega)
   refine FL ?_
   refine ⟨rfl,?_⟩
   refine ao (rem' := [27]) (i:=26) Z Y Y ?_ jk.nil
   refine FH (aq Y Y X) (FL ?_)
   refine ⟨rfl,?_⟩
   refine ao (rem' := []) (i:=27) Z Y Y ?_ jk.nil
   (refine az 1 Y Y Y ?_ Y ?_;omega)
   refine FL ?_
   refine ⟨rfl,?_⟩
   refine aW FF (SubM.refl _) jk.nil
 ·rw [Cr i k φ X]
  refine aa (ai (FI Y (FI Y (FH (bN Y) (FH (aj Y) (FH (ak 0 Y Y Y) (FH (dk Y) (FH (bN Y) (FH (aj Y) ?_)))))))))
  refine aB 0 Y Y Y Y Y (leN Y) Y (FL (jK ?_))
  exact ms (σ:=Unit) (ψ:=fun _=>bj []) () Tryz.results126 S (SubM.refl _)
theorem At (b bs r cap:Nat) (last:Int) (odd:Bool) (ψ:VT) (φ:Nat→VT) [hF : ∀ i,Flat (φ i) .one] (i:Nat) (hi:i<r) :
  OkI Tryz.prog 126 [one (.pointer (some ⟨b,0,none⟩)),one (.int .i64 (i:Nat)),one (.int .i64 (i:Nat))] [e8 b (some bs) r cap last odd ψ,aH (some bs) 32 .one cap r φ]
   (fun _:Unit=>bj []) (fun _ => [e8 b (some bs) r cap last odd ψ,aH (some bs) 32 .one cap r φ]):=by
 refine OkI.enter Tryz.func126 Y Tryz.ntmps126 Y (fun w O => ?_)
 refine ae (ai (FI Y (FI Y (FH (sF X (dj Y Y)) (FL (aa (aA Y (aw (jK ?_)))))))))
 exact ms (σ:=Unit) (ψ:=fun _=>bj []) () Tryz.results126 S (SubM.refl _)
theorem Au (b bs r cap:Nat) (last:Int) (odd:Bool) (ψ:VT) (φ:Nat→VT) [hF : ∀ i,Flat (φ i) .one] (i k:Nat) (hi:i<r) (hk:k<r) :
  OkI Tryz.prog 126 [one (.pointer (some ⟨b,0,none⟩)),one (.int .i64 (i:Nat)),one (.int .i64 (k:Nat))] [e8 b (some bs) r cap last odd ψ,aH (some bs) 32 .one cap r φ]
   (fun _:Unit=>bj []) (fun _ => [e8 b (some bs) r cap last (xor odd (decide (i≠k))) ψ,aH (some bs) 32 .one cap r (swp i k φ)]):=by
 by_cases h:i=k
 ·subst h
  rw [iu,show xor odd (decide (i≠i))=odd by simp]
  exact At b bs r cap last odd ψ φ i hi
 ·rw [show xor odd (decide (i≠k)) = !odd by simp [h]]
  exact Cs b bs r cap last odd ψ φ i k hi hk X
end Tor
end
section
namespace Tor
open Go Go.RowKit Go.Proofs
abbrev jQ (w:Nat) (f:Nat→Nat):VT:=slT .one w (fun j=>one (.int .u64 (f j:Nat)))
abbrev ya (p n w:Nat) (W:Nat→Nat→Nat):VT:=bH 3 [(0, .one,one (.int .u64 (p:Nat))),(1, .one,one (.int .i64 (w:Nat))),(2, .one,slT .one n (fun i=>jQ w (W i)))]
theorem vv {sv:Option Nat} {T:TypeId} {cap c j p k:Nat} {f g:Nat→Nat} : Own.le (aH sv T .one cap c (upd (fun q=>one (.int .u64 ((if q<j then (f q+k*g q % p) % p else f q:Nat)))) j (one (.int .u64 ((f j+k*g j % p) % p:Nat))))) (aH sv T .one cap c (fun q=>one (.int .u64 ((if q<j+1 then (f q+k*g q % p) % p else f q:Nat))))):=a7 fun q _=>by
 unfold upd
 by_cases h:q=j
 ·subst h;rw [if_pos Y,if_pos (Nat.lt_succ_self q)]
 ·rw [if_neg h]
  dsimp only
  by_cases h2:q<j
  ·rw [if_pos h2,if_pos X]
  ·rw [if_neg h2,if_neg X]
attribute [local irreducible] J PJ aM one slT bW bH bj exT cn eP aX aH slV VT.le Ret bP
theorem vy (p x:Nat) (hx:x<p):Ok Tryz.prog 192 [one (.int .u64 (x:Nat)),bW .one (one (.int .u64 (p:Nat)))] (one (.bool false)):=by
 refine Ok.enter Tryz.func192 Y Tryz.ntmps192 Y (fun w O => ?_)
 refine ae (ai (FJ Y (FL (aa (ae (ai (FI Y (FH (aN Y) (FH (sF X (eu Y Y)) ?_)))))))))
 refine FJ Y (FL (aa (aG ?_)))
 refine aT Tryz.results192 (.tmp Y S)
theorem yb (p c:Nat) (f:Nat→Nat) (hf : ∀ j,j<c→f j<p) (hc:c≤1048576):Ok Tryz.prog 194 [jQ c f,jI 192 [bW .one (one (.int .u64 (p:Nat)))]] (one (.int .i64 (-1))):=by
 have hC:=fun i (hi:i<c)=>(fO.clo (vy p (f i) (hf i hi)):fO Tryz.prog (jI 192 [bW .one (one (.int .u64 (p:Nat)))]) [one (.int .u64 (f i:Nat))] (one (.bool false)))
 generalize jI 192 [bW .one (one (.int .u64 (p:Nat)))]=cl at *
 refine Ok.enter Tryz.func194 Y Tryz.ntmps194 Y (fun w O => ?_)
 refine ae (ai (FJ Y (FL (aa (ae (ae (ai (FI Y (FH (aY Y) ?_)))))))))
 refine FI Y (FL (aa (au (cf (Γ' := [(0,_),(1,_),(4,_),(7,_),(8,_)]) FC (SubM.refl _) ?_))))
 refine bk (σ:=Nat) (Γk := [(0,_),(1,_),(7,_)]) FC (fun i => [(8,one (.int .i64 (i:Nat)))]) (fun i M0=>M0) (fun i=>i≤c) (fun i=>c - i) (0) (Nat.zero_le _) FD (.nil) (fun i hi => ?_)
 refine bI (Γ' := [(8,_),(0,_),(1,_),(7,_)]) (M' := []) Y Y ?_
 by_cases hi':i<c
 ·have h1:=hC i hi'
  refine ae (ai (FH (sT X (a6 Y Y)) (FL (aa (ae (aD Y (aw (aa (ae ?_)))))))))
  refine au (ae (ai (FI Y (FJ Y (FL (aa (ae (ai (FI Y ?_)))))))))
  refine FI Y (FI Y (FH (aC Y Y X) (FH (aN Y) ?_)))
  refine FH (mj h1 Y Y ⟨S,FM⟩) ?_
  refine FL (aa (aA Y (aw (aF (aa (ai (FH (bC _ 1 Y Y X) (FI Y (FL ?_)))))))))
  refine aK (i+1) X X FD (.nil)
 ·refine ae (ai (FH (sF X (a6 Y Y)) (FL (aa (ae (aA Y (aV (av (av ?_)))))))))
  refine aE (aa (ae (ai (FJ Y (FL (aa (aG ?_)))))))
  refine aT Tryz.results194 (.tmp Y S)
theorem se (p c:Nat) (f:Nat→Nat) (hf : ∀ j,j<c→f j<p) (hc:c≤1048576):Ok Tryz.prog 191 [jQ c f,jI 192 [bW .one (one (.int .u64 (p:Nat)))]] (one (.bool false)):=by
 have hi:=yb p c f hf hc
 refine Ok.enter Tryz.func191 Y Tryz.ntmps191 Y (fun w O => ?_)
 refine ae (ai (FJ Y (FL (aa (ae (ai (FI Y (FI Y ?_))))))))
 refine FH (am (hi) Y ⟨S,S,FM⟩) ?_
 refine FH (sF X (eu Y Y)) (FJ Y (FL (aa (aG ?_))))
 refine aT Tryz.results191 (.tmp Y S)
theorem vz (p c:Nat) (f:Nat→Nat) (hf : ∀ j,j<c→f j<p) (hc:c≤1048576):Ok Tryz.prog 180 [one (.int .u64 (p:Nat)),jQ c f] (one (.bool true)):=by
 have hi:=se p c f hf hc
 refine Ok.enter Tryz.func180 Y Tryz.ntmps180 Y (fun w O => ?_)
 refine ae (ai ?_)
 refine gF Y Y (ltN Y) (fun b2 => ?_)
 refine FJ Y (FL (aa (ae (ai (FI Y (FH (lL Y) (oV [aX b2 44 1 [(0, .one,one (.int .u64 (p:Nat)))]] (Kp := []) (Kp' := []) (List.Perm.refl _) (EntM.refl []) (xw.set (t:=6) Y (Ent.clo1 (Ent.ptr List.mem_cons_self List.mem_cons_self))) ?_)))))))
 refine FH (am (hi) Y ⟨S,S,FM⟩) ?_
 refine FH (dk Y) (FJ Y (FL (aa (aG ?_))))
 refine aT Tryz.results180 (.tmp Y S)
theorem yc (p n c:Nat) (W:Nat→Nat→Nat) (hp:cJ p=true) (hp':p<2147483648) (hW : ∀ i j,i<n→j<c→W i j<p) (hn:n≤1048576) (hc:c≤1048576):Ok Tryz.prog 160 [ya p n c W] (one (.bool true)):=by
 have h1:=kX p X
 rw [hp] at h1
 refine Ok.enter Tryz.func160 Y Tryz.ntmps160 Y (fun w O => ?_)
 refine ae (ai ?_)
 refine aQ Y Y (ltN Y) (fun b1 => ?_)
 refine FJ Y (FL (aa (ae (ae (ai (FH (aj Y) (FH (ak 0 Y Y Y) ?_)))))))
 refine FH (am (h1) Y ⟨S,FM⟩) ?_
 refine FH (dk Y) (FI Y (FK (aj Y) (FK (ak 0 Y Y Y) (FK (sF X (a6 Y Y)) (FH (bG Y Y) (FL (aa (aA Y (aw ?_)))))))))
 refine aa (ae (ae (ai (FH (aj Y) (FH (ak 0 Y Y Y) (FH (aY Y) (FI Y (FL (aa ?_)))))))))
 refine au (cf (Γ' := [(1,_),(2,_),(15,_),(16,_),(17,_)]) FC (SubM.refl _) ?_)
 refine bk (σ:=Nat) (Γk := [(1,_),(15,_),(16,_)]) FC (fun i => [(17,one (.int .i64 (i:Nat)))]) (fun i M0=>M0) (fun i=>i≤n) (fun i=>n - i) (0) (Nat.zero_le _) FD (.keep FG (.nil)) (fun i hi => ?_)
 refine bI (Γ' := [(17,_),(1,_),(15,_),(16,_)]) (M' := [_]) Y Y ?_
 by_cases hi':i<n
 ·have h2:=vz p c (W i) (fun j hj=>hW i j hi' hj) hc
  refine ae (ai (FH (sT X (a6 Y Y)) (FL (aa (ae (aD Y (aw (aa (ae ?_)))))))))
  refine au (ae (ai (FH (aC Y Y X) (FH (aN Y) (FJ Y (FL (aa (ae (ai ?_)))))))))
  refine FI Y (FH (aY Y) (FH (aj Y) (FH (ak 0 Y Y Y) (FH (sF X (dj Y Y)) (FI Y (FK (aj Y) (FK (ak 0 Y Y Y) (FK (ab Y) ?_))))))))
  refine FK (am (h2) Y ⟨S,S,FM⟩) ?_
  refine FK (dk Y) (FH (bG Y Y) (FL (aa (aA Y (aw (aF (aa (ai (FH (bC _ 1 Y Y X) ?_)))))))))
  refine FI Y (FL ?_)
  refine aK (i+1) X X FD (.keep FG (.nil))
 ·refine ae (ai (FH (sF X (a6 Y Y)) (FL (aa (ae (aA Y (aV (av (av ?_)))))))))
  refine aE (aa (ae (ai (FJ Y (FL (aa (aG ?_)))))))
  refine aT Tryz.results160 (.tmp Y S)
theorem yd (c:Nat) (f:Nat→Nat) (hc0:0<c) (hc:c≤1048576):OkM (σ:=Nat × Nat) Tryz.prog 181 [jQ c f] (fun s=>one (slV (some s.1) c s.2)) (fun s => [aH (some s.1) 44 .one s.2 c (fun j=>one (.int .u64 (f j:Nat)))]):=by
 refine OkM.enter Tryz.func181 Y Tryz.ntmps181 Y (fun w O => ?_)
 refine ae (ai (FJ Y (FL (aa (ae (ae (ai (FI Y (FH (rC Y) ?_)))))))))
 refine FL (aa ?_)
 refine xt (t:=4) Y (fun b => ?_)
 refine qw (t:=4) Y (fun hb => ?_)
 refine bm Y (fun hc => ?_) (fun hc => ?_)
 ·exact absurd (hb hc) X
 ·refine aw (aa (ae (ai (iL (n:=0) Y Y Y Y Y ?_))))
  refine PartsK.nil (fun bl => ?_)
  refine FI Y ?_
  (refine cq 0 Y Y Y (leN Y) ?_ ?_ Y (ltN Y) (fun sv7 cap7 => ?_);omega;omega)
  refine FJ Y (FL (aa (aG ?_)))
  refine zM (i:=0) (F:=sv7=none→0+c=0) Y (fun g h hp he=>e6 hp he) (fun hsv => ?_)
  obtain ⟨bo,rfl⟩:=fu hsv X
  exact kb (bo,cap7) Tryz.results181 (.tmp Y (gB (Nat.zero_add c))) (.keep (ff (Nat.zero_add c) (fun q hq=>by rw [if_neg (Nat.not_lt_zero q),Nat.sub_zero])) .nil)
theorem Av (p c b1 b2 cap1 cap2 k:Nat) (f g:Nat→Nat) (hp0:0<p) (hp:p<4294967296) (hk:k<p) (hf : ∀ j,j<c→f j<p) (hg : ∀ j,j<c→g j<p) (hc:c≤1048576) :
  OkI Tryz.prog 184 [one (.int .u64 (p:Nat)),one (slV (some b1) c cap1),one (slV (some b2) c cap2),one (.int .u64 (k:Nat))] [aH (some b1) 44 .one cap1 c (fun j=>one (.int .u64 (f j:Nat))),aH (some b2) 44 .one cap2 c (fun j=>one (.int .u64 (g j:Nat)))]
   (fun _:Unit=>bj []) (fun _ => [aH (some b1) 44 .one cap1 c (fun j=>one (.int .u64 ((f j+k*g j % p) % p:Nat))),aH (some b2) 44 .one cap2 c (fun j=>one (.int .u64 (g j:Nat)))]):=by
 refine OkI.enter Tryz.func184 Y Tryz.ntmps184 Y (fun w O => ?_)
 by_cases h0:k=0
 ·subst h0
  refine ae (ae (ai (FI Y (FH (sT X (bV Y Y)) (FL (aa (aD Y (aG (aS ?_)))))))))
  exact ms (σ:=Unit) (ψ:=fun _=>bj []) () Tryz.results184 S (.keep (a7 fun q hq=>by rw [Nat.zero_mul,Nat.zero_mod,Nat.add_zero,Nat.mod_eq_of_lt (hf q hq)]) (SubM.refl _))
 ·refine ae (ae (ai (FI Y (FH (sF X (bV Y Y)) (FL (aa (aA Y (aw (aa ?_)))))))))
  refine ae (ai (FI Y (FH (cB Y) (FI Y (FL (aa (au (cf (Γ' := [(0,_),(1,_),(3,_),(12,_),(13,_),(14,_)]) FC (SubM.refl _) ?_))))))))
  refine bk (σ:=Nat) (Γk := [(0,_),(1,_),(3,_),(12,_),(13,_)]) FC (fun j => [(14,one (.int .i64 (j:Nat)))]) (fun j M0=>(M0.set 0 (aH (some b1) 44 .one cap1 c (fun q=>one (.int .u64 ((if q<j then (f q+k*g q % p) % p else f q:Nat))))))) (fun j=>j≤c) (fun j=>c - j) (0) (Nat.zero_le _) FD (.keep FG (.keep FG (.nil))) (fun j hj => ?_)
  refine bI (Γ' := [(14,_),(0,_),(1,_),(3,_),(12,_),(13,_)]) (M' := [_,_]) Y Y ?_
  by_cases hj:j<c
  ·have h1:=hf j hj
   have h2:=hg j hj
   have h3:k*g j % p<p:=Nat.mod_lt _ hp0
   have hm:=i6 p k (g j) hp0 hp X X
   have ha:=wN p (f j) (k*g j % p) hp0 hp X X
   refine ae (ai (FH (sT X (a6 Y Y)) (FL (aa (ae (aD Y (aw (aa (ae ?_)))))))))
   refine au (ae (ai (FI Y (FH (aq Y Y X) (FH (bg 1 Y Y X) (FJ Y (FJ Y (FL (aa ?_)))))))))
   refine be 12 a4 Z U (FI Y (FI Y (FI Y (FI Y (FI Y (FH (aq Y Y X) (FH (bg 0 Y Y X) (FI Y (FI Y ?_)))))))))
   refine FI Y ?_
   refine FH (am (hm) Y ⟨S,S,S,FM⟩) ?_
   refine FH (am (ha) Y ⟨S,(ar (by rw [if_neg (Nat.lt_irrefl j)])),S,FM⟩) ?_
   refine FL (FH (aq Y Y X) ?_)
   (refine az 0 Y Y Y ?_ Y ?_;omega)
   refine FL (aF (aa (ai (FH (bC _ 1 Y Y X) (FI Y (FL ?_))))))
   refine aK (j+1) X X FD (.keep (vv) (.keep FG (.nil)))
  ·refine ae (ai (FH (sF X (a6 Y Y)) (FL (aa (ae (aA Y (aV (av (av ?_)))))))))
   refine aE (jK ?_)
   exact ms (σ:=Unit) (ψ:=fun _=>bj []) () Tryz.results184 S (.keep (a7 fun q hq=>by rw [if_pos X]) (SubM.refl _))
end Tor
end
section
namespace Tor
open Go Go.RowKit Go.Proofs
abbrev ye (W:Nat→Nat→Nat):Nat→Nat→VT:=fun i j=>one (.int .u64 (W i j:Nat))
abbrev tX (bz n:Nat) (c:Nat) (B C:Nat→Nat):Own:=aH (some bz) 173 .one n n (fun q=>one (slV (some (B q)) c (C q)))
abbrev pL (c n:Nat) (B C:Nat→Nat) (W:Nat→Nat→Nat) (FB:Nat→Bool):Own:=rwO 44 .one c n B C (ye W) FB
theorem yf {bz n c i b cap:Nat} {B C:Nat→Nat} {φ:Nat→VT} (hφ:φ=fun q=>if q<i then one (slV (some (B q)) c (C q)) else one (.slice none 0 0)):Own.le (aH (some bz) 173 .one n n (upd φ i (one (slV (some b) c cap)))) (aH (some bz) 173 .one n n (fun q=>if q<i+1 then one (slV (some (if q=i then b else B q)) c (if q=i then cap else C q)) else one (.slice none 0 0))):=a7 fun q _=>by
 subst hφ
 unfold upd
 by_cases h:q=i
 ·subst h;rw [if_pos Y,if_pos (Nat.lt_succ_self q),if_pos Y,if_pos Y]
 ·rw [if_neg h]
  dsimp only
  by_cases h2:q<i
  ·rw [if_pos h2,if_pos X,if_neg h,if_neg h]
  ·rw [if_neg h2,if_neg X]
theorem yg {n c i b cap:Nat} {B C:Nat→Nat} {W:Nat→Nat→Nat} : Own.le (rwO 44 .one c n (fun q=>if q=i then b else B q) (fun q=>if q=i then cap else C q) (fun q=>if q=i then (fun j=>one (.int .u64 (W i j:Nat))) else ye W q) (fun q=>if q=i then false else decide (i≤q))) (pL c n (fun q=>if q=i then b else B q) (fun q=>if q=i then cap else C q) W (fun q=>decide (i+1≤q))):=lR (fun q _=>by
  by_cases h:q=i
  ·rw [if_pos h,decide_eq_false X]
  ·rw [if_neg h]; exact decide_eq_decide.2 X) (fun q _ _=>⟨rfl,rfl⟩) (fun q j _ _ _=>by
  by_cases h:q=i
  ·rw [if_pos h,h]; exact VT.le_refl _
  ·rw [if_neg h]; exact VT.le_refl _)
abbrev E5:Type:=(Nat→Nat) × (Nat→Nat) × Nat
theorem Aw {a b a' b':Own} (h1:Own.le a a') (h2:Own.le b b'):ConvM [a,b] [b',a']:=by
 refine ⟨?_,fun g h FA o ho => ?_⟩
 ·show (a.bl ++ (b.bl ++ [])).Perm (b'.bl ++ (a'.bl ++ []))
  rw [← h1.1, ← h2.1,List.append_nil,List.append_nil]; exact List.perm_append_comm
 ·rcases List.mem_cons.1 ho with rfl | ho
  ·exact h2.2 _ _ (FA _ (List.mem_cons_of_mem _ List.mem_cons_self))
  ·rcases List.mem_singleton.1 ho with rfl
   exact h1.2 _ _ (FA _ List.mem_cons_self)
attribute [local irreducible] J PJ aM one slT bW bH bj exT cn eP aX aH slV VT.le Ret bP
attribute [local irreducible] rwO
theorem tZ (n c:Nat) (W:Nat→Nat→Nat) (hc0:0<n→0<c) (hn:n≤1048576) (hc:c≤1048576):OkM (σ:=E5) Tryz.prog 161 [slT .one n (fun i=>jQ c (W i))] (fun s=>one (slV (some s.2.2) n n)) (fun s => [tX s.2.2 n c s.1 s.2.1,pL c n s.1 s.2.1 W (fun _=>false)]):=by
 refine OkM.enter Tryz.func161 Y Tryz.ntmps161 Y (fun w O => ?_)
 refine ae (ai (FJ Y (FL (aa (ae (ai (FI Y (FH (aY Y) ?_))))))))
 refine bY n n Y Y Y Y (Nat.le_refl _) Y Y X Y Y (fun bz => ?_)
 refine FJ Y (FL (aa (ae (ae (ai (FI Y (FH (aY Y) (FI Y (FL ?_)))))))))
 refine aa (au ?_)
 refine gM (zK (T:=44) (L := .one) (c:=c) (n:=n) (B:=fun _=>0) (C:=fun _=>0) (φ:=ye W) (FB:=fun q=>decide (0≤q)) (fun i _=>decide_eq_true (Nat.zero_le i))) ?_
 refine cf (Γ' := [(2,_),(3,_),(9,_),(10,_),(11,_)]) FC (SubM.refl _) ?_
 refine bk (σ:=Nat × (Nat→Nat) × (Nat→Nat)) (Γk := [(2,_),(3,_),(9,_),(10,_)]) FC (fun s => [(11,one (.int .i64 (s.1:Nat)))]) (fun s M0=>((M0.set 1 (aH (some bz) 173 .one n n (fun q=>if q<s.1 then one (slV (some (s.2.1 q)) c (s.2.2 q)) else one (.slice none 0 0)))).set 0 (pL c n s.2.1 s.2.2 W (fun q=>decide (s.1≤q))))) (fun s=>s.1≤n) (fun s=>n - s.1) ((0,fun _=>0,fun _=>0)) (Nat.zero_le _) FD (.keep FG (.keep FG (.nil))) (fun s hs => ?_)
 refine bI (Γ' := [(11,_),(2,_),(3,_),(9,_),(10,_)]) (M' := [_,_]) Y Y ?_
 obtain ⟨i,B,C⟩:=s
 dsimp only at hs ⊢
 by_cases hi:i<n
 ·have h1:=yd c (W i) (hc0 X) hc
  refine ae (ai (FH (sT X (a6 Y Y)) (FL (aa (ae (aD Y (aw (aa (ae ?_)))))))))
  refine au (ae (ai (FI Y (FH (aC Y Y X) (FH (aN Y) (FJ Y (FJ Y (FL (aa ?_)))))))))
  refine ai (FI Y (FI Y (FI Y ?_)))
  refine gz (h1) Y ⟨S,FM⟩ Y Y (fun s19 => ?_)
  refine FH (aq Y Y X) ?_
  (refine az 2 Y Y Y ?_ Y ?_;omega)
  refine FL (aF (aa (ai (FH (bC _ 1 Y Y X) (FI Y (FL (fN (mC (i:=i) hi (decide_eq_true (Nat.le_refl i))) ?_)))))))
  refine aK ((i+1,(fun q=>if q=i then s19.1 else B q),fun q=>if q=i then s19.2 else C q)) X X FD (.keep (yg) (.keep (yf Y) (.nil)))
 ·have he:i=n:=by omega
  subst he
  refine ae (ai (FH (sF X (a6 Y Y)) (FL (aa (ae (aA Y (aV (av (av ?_)))))))))
  refine aE (aa (ae (ai (FI Y (FJ Y (FL (aa (aG ?_))))))))
  refine fN (Aw (a':=pL c i B C W (fun _=>false)) (b':=tX bz i c B C) (lR (fun q hq=>decide_eq_false X) (fun q _ _=>⟨rfl,rfl⟩) (fun q j _ _ _=>VT.le_refl _)) (a7 fun q hq=>by rw [if_pos hq])) ?_
  exact kb ((B,C,bz):E5) Tryz.results161 (.tmp Y S) (SubM.refl _)
def Ej (W:Nat→Nat→Nat) (n k c i:Nat):Prop:=k≤i∧i<n∧W i c≠0 ∧ ∀ q,k≤q→q<i→W q c=0
theorem yh (bz n c k e i:Nat) (B C:Nat→Nat) (W:Nat→Nat→Nat) (he:e<c) (hn:n≤1048576) (hf:Ej W n k e i) :
  OkI Tryz.prog 182 [one (slV (some bz) n n),one (.int .i64 (k:Nat)),one (.int .i64 (e:Nat))] [tX bz n c B C,pL c n B C W (fun _=>false)]
   (fun _:Unit=>one (.int .i64 (i:Nat))) (fun _ => [tX bz n c B C,pL c n B C W (fun _=>false)]):=by
 obtain ⟨f1,f2,f3,f4⟩:=hf
 refine OkI.enter Tryz.func182 Y Tryz.ntmps182 Y (fun w O => ?_)
 refine ae (ai (FJ Y (FL (aa (iR (ae (ai (FJ Y (FL ?_)))))))))
 refine aa (ae (kP (aa (ae (ae (ai (FI Y (FJ Y (FL ?_)))))))))
 refine aa (au (cf (Γ' := [(0,_),(2,_),(6,_),(7,_),(8,_)]) FC (SubM.refl _) ?_))
 refine bk (σ:=Nat) (Γk := [(0,_),(2,_),(6,_)]) FC (fun j => [(8,one (.int .i64 (j:Nat)))]) (fun j M0=>M0) (fun j=>k≤j∧j≤i) (fun j=>n - j) (k) (⟨Nat.le_refl _,f1⟩) FD (.keep FG (.keep FG (.nil))) (fun j hj => ?_)
 refine bI (Γ' := [(8,_),(0,_),(2,_),(6,_)]) (M' := [_,_]) Y Y ?_
 obtain ⟨hj1,hj2⟩:=hj
 have hjn:j<n:=by omega
 by_cases hji:j=i
 ·subst hji
  have hz:(W j e:Int)≠0:=by omega
  refine ae (ae (ai (FI Y (FI Y (FH (cB Y) (FH (sT X (a6 Y Y)) (FL (aa (aD Y ?_)))))))))
  refine aw (aa (ae (au (ae (ai (FI Y (FI Y (FH (aq Y Y X) (FH (bg 0 Y Y X) ?_)))))))))
  refine FI Y (FH (aq Y Y X) (FH (pj 1 Y Y X Y X) (FL (aa (au (ae (ai (FH (sF (by assumption) (bV Y Y)) (FJ Y ?_)))))))))
  refine FL (aa (aA Y (ae (ai (FI Y (FJ Y (FL (aa (aV ?_)))))))))
  refine dm Y (dm Y (av (av (aE (aa (ae (ai (FI Y (FJ Y ?_)))))))))
  refine FL (aa (aG (eA ?_)))
  exact o5 (σ:=Unit) () Tryz.results182 (.tmp Y S) (SubM.refl _)
 ·have hz:(W j e:Int)=0:=by have:=f4 j hj1 X;omega
  refine ae (ae (ai (FI Y (FI Y (FH (cB Y) (FH (sT X (a6 Y Y)) (FL (aa (aD Y ?_)))))))))
  refine aw (aa (ae (au (ae (ai (FI Y (FI Y (FH (aq Y Y X) (FH (bg 0 Y Y X) ?_)))))))))
  refine FI Y (FH (aq Y Y X) (FH (pj 1 Y Y X Y X) (FL (aa (au (ae (ai (FH (sT (by assumption) (bV Y Y)) (FJ Y ?_)))))))))
  refine FL (aa (aD Y (aw (aF (aF (aa (ai (FI Y (FH (bC _ 1 Y Y X) ?_)))))))))
  refine FJ Y (FL ?_)
  refine aK (j+1) X X FD (.keep FG (.keep FG (.nil)))
end Tor
end
section
namespace Tor
theorem g7 (n:Nat) (f g:Nat→Int):bD n (fun k=>f k+g k)=bD n f+bD n g:=by
 induction n with
 | zero => rfl
 | succ n ih => rw [bD, bD, bD, ih]; omega
theorem dS (n:Nat) (a:Int) (f:Nat→Int):bD n (fun k=>a*f k)=a*bD n f:=by
 induction n with
 | zero => simp [bD]
 | succ n ih => rw [bD, bD, ih, Int.mul_add]
theorem sf {p:Int} {n:Nat} {f:Nat→Int} (h : ∀ k,k<n→p∣f k):p∣bD n f:=by
 induction n with
 | zero => exact Int.dvd_zero p
 | succ n ih => rw [bD]; exact Int.dvd_add (ih fun k hk => h k X) (h n X)
theorem gJ {p:Int} {n:Nat} {f g:Nat→Int} (h : ∀ k,k<n→p∣f k - g k):p∣bD n f - bD n g:=by
 have h1:=sf h
 rw [show (fun k=>f k - g k)=(fun k=>f k+(-1)*g k) by funext k;omega,g7,dS] at h1
 rwa [show bD n f - bD n g=bD n f + -1*bD n g by omega]
theorem iH {n i:Nat} {f:Nat→Int} (hi:i<n) (h : ∀ k,k<n→k≠i→f k=0):bD n f=f i:=by
 induction n with
 | zero => exact absurd hi (Nat.not_lt_zero _)
 | succ n ih =>
  rw [bD]
  by_cases e:i=n
  ·subst e
   have : ∀ m,m≤i→bD m f=0:=fun m=>by
    induction m with
    | zero => exact fun _ => rfl
    | succ m ihm => intro hm; rw [bD, ihm X, h m X X]; rfl
   rw [this i (Nat.le_refl i),Int.zero_add]
  ·rw [ih X (fun k hk hne=>h k X hne),h n X X,Int.add_zero]
theorem er (x p:Nat):(p:Int)∣((x % p:Nat):Int) - (x:Int):=⟨-((x / p:Nat):Int),by
 have h:=Nat.div_add_mod x p
 have:(x:Int)=(p:Int)*((x / p:Nat):Int)+((x % p:Nat):Int):=by rw [← Int.natCast_mul, ← Int.natCast_add,h]
 rw [this,Int.mul_neg]; omega⟩
theorem fY {p a b c:Int} (h1:p∣a - b) (h2:p∣b - c):p∣a - c:=by
 have:=Int.dvd_add h1 h2
 rwa [show a - b+(b - c)=a - c by omega] at this
theorem gw {p a b:Int} (h:p∣a - b):p∣b - a:=by
 have:=Int.dvd_neg.2 h
 rwa [show -(a - b)=b - a by omega] at this
theorem ja {p a b:Int} (h:p∣a - b) (hb:p∣b):p∣a:=by
 have:=Int.dvd_add h hb
 rwa [show a - b+b=a by omega] at this
theorem dh {p a b:Int} (c:Int) (h:p∣a - b):p∣a*c - b*c:=by rw [← Int.sub_mul]; exact Int.dvd_mul_of_dvd_left h
def iO (p inv k:Nat) (W:Nat→Nat→Nat):Nat→Nat→Nat:=fun h j=>if h=k then inv*W k j % p else (W h j+(0+p - W h k) % p*(inv*W k j % p) % p) % p
theorem Ct {p inv k:Nat} {W:Nat→Nat→Nat} (hp:0<p) (h j:Nat):iO p inv k W h j<p:=by
 unfold iO;split <;> exact Nat.mod_lt _ hp
theorem lW {p inv k:Nat} {W:Nat→Nat→Nat} (j:Nat):(p:Int)∣(iO p inv k W k j:Int) - (inv:Int)*(W k j:Int):=by
 unfold iO;rw [if_pos Y, ← Int.natCast_mul]; exact er _ _
theorem pM {p inv k:Nat} {W:Nat→Nat→Nat} {h:Nat} (hne:h≠k) (hW:W h k<p) (j:Nat):(p:Int)∣(iO p inv k W h j:Int) - ((W h j:Int) - (W h k:Int)*((inv:Int)*(W k j:Int))):=by
 unfold iO;rw [if_neg hne]
 have h1:=er (W h j+(0+p - W h k) % p*(inv*W k j % p) % p) p
 have h2:=er ((0+p - W h k) % p*(inv*W k j % p)) p
 have h3:=er (0+p - W h k) p
 have h4:=er (inv*W k j) p
 rw [Int.natCast_add] at h1
 rw [Int.natCast_mul] at h2 h4
 rw [show ((0+p - W h k:Nat):Int)=(p:Int) - (W h k:Int) by omega] at h3
 have h5:(p:Int)∣(((0+p - W h k) % p:Nat):Int) - (-(W h k:Int)):=by
  have:=Int.dvd_add h3 (Int.dvd_refl (p:Int))
  rwa [show (((0+p - W h k) % p:Nat):Int) - ((p:Int) - (W h k:Int))+(p:Int)=(((0+p - W h k) % p:Nat):Int) - (-(W h k:Int)) by omega] at this
 have h6:(p:Int)∣(((0+p - W h k) % p:Nat):Int)*((inv*W k j % p:Nat):Int) - -(W h k:Int)*((inv:Int)*(W k j:Int)):=by
  refine fY (dh _ h5) ?_
  rw [Int.mul_comm (-(W h k:Int)),Int.mul_comm (-(W h k:Int))]
  exact dh _ h4
 have h7:=fY h2 h6
 refine fY h1 ?_
 rw [show (W h j:Int)+((((0+p - W h k) % p*(inv*W k j % p) % p:Nat)):Int) - ((W h j:Int) - (W h k:Int)*((inv:Int)*(W k j:Int)))=((((0+p - W h k) % p*(inv*W k j % p) % p:Nat)):Int) - -(W h k:Int)*((inv:Int)*(W k j:Int)) by rw [Int.neg_mul]; omega]
 exact h7
structure EchI (p n:Nat) (F:Nat→Nat→Int) (k:Nat) (W:Nat→Nat→Nat):Prop where
 lt : ∀ i j,i<n→j<n+n→W i j<p
 unit : ∀ h j,h<n→j<k→W h j=if h=j then 1 else 0
 rel : ∀ h j,h<n→j<n→(p:Int)∣(W h j:Int) - bD n (fun t=>(W h (n+t):Int)*F t j)
 ker : ∀ u:Nat→Int,(∀ h,h<n→(p:Int)∣bD n (fun j=>(W h j:Int)*u j)) → ∀ h,h<n→(p:Int)∣bD n (fun j=>F h j*u j)
theorem EchI.swap {p n k i:Nat} {F:Nat→Nat→Int} {W:Nat→Nat→Nat} (h:EchI p n F k W) (hk:k<n) (hi:i<n) (hki:k≤i):EchI p n F k (swp i k W):=by
 have hrow : ∀ q,q<n → ∃ q',q'<n∧swp i k W q=W q':=fun q hq=>by
  unfold swp
  by_cases e1:q=i
  ·exact ⟨k,hk,by rw [if_pos e1]⟩
  ·by_cases e2:q=k
   ·exact ⟨i,hi,by rw [if_neg e1,if_pos e2]⟩
   ·exact ⟨q,hq,by rw [if_neg e1,if_neg e2]⟩
 have hinv : ∀ q,q<n → ∃ q',q'<n∧W q=swp i k W q':=fun q hq=>by
  unfold swp
  by_cases e1:q=i
  ·exact ⟨k,hk,by
    by_cases e:k=i
    ·rw [if_pos e,e1,e]
    ·rw [if_neg e,if_pos Y,e1]⟩
  ·by_cases e2:q=k
   ·exact ⟨i,hi,by rw [if_pos Y,e2]⟩
   ·exact ⟨q,hq,by rw [if_neg e1,if_neg e2]⟩
 refine ⟨fun q j hq hj => ?_,fun q j hq hj => ?_,fun q j hq hj => ?_,fun u hu q hq=>h.ker u (fun q hq => ?_) q hq⟩
 ·obtain ⟨q',h1,h2⟩:=hrow q hq;rw [h2]; exact h.lt q' j h1 hj
 ·unfold swp
  by_cases e1:q=i
  ·rw [if_pos e1,h.unit k j hk hj,if_neg X,if_neg X]
  ·by_cases e2:q=k
   ·rw [if_neg e1,if_pos e2,h.unit i j hi hj,if_neg X,if_neg X]
   ·rw [if_neg e1,if_neg e2]; exact h.unit q j hq hj
 ·obtain ⟨q',h1,h2⟩:=hrow q hq;rw [h2]; exact h.rel q' j h1 hj
 ·obtain ⟨q',h1,h2⟩:=hinv q hq;rw [h2]; exact hu q' h1
theorem EchI.step {p n k inv:Nat} {F:Nat→Nat→Int} {W:Nat→Nat→Nat} (h:EchI p n F k W) (hp:2≤p) (hk:k<n) (hinv:inv*W k k % p=1):EchI p n F (k+1) (iO p inv k W):=by
 have hlt:=fun q (hq:q<n)=>h.lt q k hq X
 have hc1:(p:Int)∣(inv:Int)*(W k k:Int) - 1:=by
  have:=gw (er (inv*W k k) p)
  rw [hinv,Int.natCast_mul] at this
  exact this
 refine ⟨fun q j hq hj=>Ct X q j,fun q j hq hj => ?_,fun q j hq hj => ?_,fun u hu=>h.ker u fun q hq => ?_⟩
 ·by_cases hjk:j<k
  ·have h0:W k j=0:=by rw [h.unit k j hk hjk,if_neg X]
   unfold iO
   rw [h0,Nat.mul_zero,Nat.zero_mod,Nat.mul_zero,Nat.zero_mod,Nat.add_zero]
   by_cases e:q=k
   ·rw [if_pos e,if_neg X]
   ·rw [if_neg e,Nat.mod_eq_of_lt (h.lt q j hq X)]; exact h.unit q j hq hjk
  ·have hjk:j=k:=by omega
   subst hjk
   unfold iO
   rw [hinv]
   by_cases e:q=j
   ·rw [if_pos e,if_pos e]
   ·rw [if_neg e,if_neg e,Nat.mul_one,Nat.mod_mod]
    have:=hlt q hq
    by_cases hz:W q j=0
    ·rw [hz,Nat.zero_add,Nat.zero_add,Nat.sub_zero,Nat.mod_mod,Nat.mod_self]
    ·rw [Nat.mod_eq_of_lt (show 0+p - W q j<p by omega),show W q j+(0+p - W q j)=p by omega,Nat.mod_self]
 ·by_cases e:q=k
  ·subst e
   refine fY (lW j) ?_
   have h1:=dh (inv:Int) (h.rel q j hq hj)
   rw [Int.mul_comm _ (inv:Int),Int.mul_comm _ (inv:Int), ← dS] at h1
   refine fY h1 (gJ fun t ht => ?_)
   have h2:=gw (dh (F t j) (lW (p:=p) (inv:=inv) (k:=q) (W:=W) (n+t)))
   rwa [Int.mul_assoc] at h2
  ·refine fY (pM e (hlt q hq) j) ?_
   have h1:=h.rel q j hq hj
   have h2:=dh ((W q k:Int)*(inv:Int)) (h.rel k j hk hj)
   have h3:=Int.dvd_sub h1 h2
   have h4:(p:Int)∣bD n (fun t=>(W q (n+t):Int)*F t j+(-((W q k:Int)*(inv:Int)))*((W k (n+t):Int)*F t j)) - bD n (fun t=>(iO p inv k W q (n+t):Int)*F t j):=gJ fun t ht=>by
    have h5:=gw (dh (F t j) (pM (p:=p) (inv:=inv) e (hlt q hq) (n+t)))
    rwa [show ((W q (n+t):Int) - (W q k:Int)*((inv:Int)*(W k (n+t):Int)))*F t j=(W q (n+t):Int)*F t j+(-((W q k:Int)*(inv:Int)))*((W k (n+t):Int)*F t j) by grind] at h5
   rw [g7,dS] at h4
   have h5:=Int.dvd_add h3 h4
   generalize bD n (fun t=>(W q (n+t):Int)*F t j)=A at *
   generalize bD n (fun t=>(W k (n+t):Int)*F t j)=B at *
   generalize bD n (fun t=>(iO p inv k W q (n+t):Int)*F t j)=C at *
   rwa [show (W q j:Int) - A - ((W k j:Int)*((W q k:Int)*(inv:Int)) - B*((W q k:Int)*(inv:Int)))+(A + -((W q k:Int)*(inv:Int))*B - C)=(W q j:Int) - (W q k:Int)*((inv:Int)*(W k j:Int)) - C by grind] at h5
 ·have hpk:(p:Int)∣(inv:Int)*bD n (fun j=>(W k j:Int)*u j):=by
   have h1:=hu k hk
   rw [← dS]
   refine ja (gJ fun j hj => ?_) h1
   have h2:=gw (dh (u j) (lW (p:=p) (inv:=inv) (k:=k) (W:=W) j))
   rwa [Int.mul_assoc] at h2
  by_cases e:q=k
  ·subst e
   have h1:=Int.dvd_trans hpk (Int.dvd_mul_right _ (W q q:Int))
   have h2:=dh (bD n (fun j=>(W q j:Int)*u j)) hc1
   generalize bD n (fun j=>(W q j:Int)*u j)=A at *
   have h3:=Int.dvd_sub h1 h2
   rwa [show (inv:Int)*A*(W q q:Int) - ((inv:Int)*(W q q:Int)*A - 1*A)=A by grind] at h3
  ·have h1:=hu q hq
   have h2:(p:Int)∣bD n (fun j=>(W q j:Int)*u j+(-(W q k:Int))*((inv:Int)*((W k j:Int)*u j))) - bD n (fun j=>(iO p inv k W q j:Int)*u j):=gJ fun j hj=>by
    have h5:=gw (dh (u j) (pM (p:=p) (inv:=inv) e (hlt q hq) j))
    rwa [show ((W q j:Int) - (W q k:Int)*((inv:Int)*(W k j:Int)))*u j=(W q j:Int)*u j+(-(W q k:Int))*((inv:Int)*((W k j:Int)*u j)) by grind] at h5
   rw [g7,dS,dS] at h2
   have h3:=Int.dvd_trans hpk (Int.dvd_mul_left (W q k:Int) _)
   have h4:=Int.dvd_add (ja h2 h1) h3
   generalize bD n (fun j=>(W q j:Int)*u j)=A at *
   generalize (inv:Int)*bD n (fun j=>(W k j:Int)*u j)=B at *
   rwa [show A + -(W q k:Int)*B+(W q k:Int)*B=A by grind] at h4
theorem EchI.first {p n k:Nat} {F:Nat→Nat→Int} {W:Nat→Nat→Nat} (h:EchI p n F k W) (hp:2≤p) (hk:k<n) (hF : ∀ u:Nat→Int,(∀ h,h<n→(p:Int)∣bD n (fun j=>F h j*u j)) → ∀ j,j<n→(p:Int)∣u j) : ∃ i,k≤i∧i<n∧W i k≠0 ∧ ∀ q,k≤q→q<i→W q k=0:=by
 by_cases hz : ∀ q,k≤q→q<n→W q k=0
 ·exfalso
  have h1:=hF (fun j=>if j=k then 1 else if j<k then -(W j k:Int) else 0) (h.ker _ fun q hq => ?_) k hk
  ·rw [if_pos Y] at h1
   have:=Int.le_of_dvd U h1
   omega
  ·have hsum:bD n (fun j=>(W q j:Int)*(if j=k then 1 else if j<k then -(W j k:Int) else 0))=0:=by
    by_cases hqk:q<k
    ·rw [show (fun j=>(W q j:Int)*(if j=k then 1 else if j<k then -(W j k:Int) else 0))=(fun j=>(W q j:Int)*(if j=k then 1 else 0)+(W q j:Int)*(if j<k then -(W j k:Int) else 0)) by
       funext j
       by_cases e:j=k
       ·rw [if_pos e,if_pos e,if_neg X,Int.mul_zero,Int.add_zero]
       ·rw [if_neg e,if_neg e,Int.mul_zero,Int.zero_add],g7,
      iH hk (fun j hj hne=>by rw [if_neg hne,Int.mul_zero]),if_pos Y,Int.mul_one,
      iH hq (fun j hj hne=>by
       by_cases e:j<k
       ·rw [h.unit q j hq e,if_neg (Ne.symm hne)]; simp
       ·rw [if_neg e,Int.mul_zero]),if_pos hqk,h.unit q q hq hqk,if_pos Y]
     omega
    ·rw [dO (g:=fun _=>(0:Int)*0) (fun j hj=>by
      by_cases e:j=k
      ·rw [e,hz q X hq]; simp
      ·by_cases e2:j<k
       ·rw [h.unit q j hq e2,if_neg X]; simp
       ·rw [if_neg e,if_neg e2,Int.mul_zero,Int.mul_zero]),dS,Int.zero_mul]
   rw [hsum]; exact Int.dvd_zero _
 ·have : ∃ i,k≤i∧i<n∧W i k≠0:=Classical.byContradiction fun hc=>hz fun q h1 h2=>Classical.byContradiction fun h3=>hc ⟨q,h1,h2,h3⟩
  obtain ⟨i,h1,h2,h3⟩:=this
  induction i using Nat.strongRecOn with
  | _ i ih =>
   by_cases hall : ∀ q,k≤q→q<i→W q k=0
   ·exact ⟨i,h1,h2,h3,hall⟩
   ·have : ∃ q,k≤q∧q<i∧W q k≠0:=Classical.byContradiction fun hc=>hall fun q h4 h5=>Classical.byContradiction fun h6=>hc ⟨q,h4,h5,h6⟩
    obtain ⟨q,h4,h5,h6⟩:=this
    exact ih q h5 h4 X h6
theorem EchI.done {p n:Nat} {F:Nat→Nat→Int} {W:Nat→Nat→Nat} (h:EchI p n F n W) : ∀ i j,i<n→j<n→(p:Int)∣bD n (fun t=>(W i (n+t):Int)*F t j) - (if i=j then 1 else 0):=fun i j hi hj=>by
 have h1:=h.rel i j hi hj
 rw [h.unit i j hi hj] at h1
 refine gw ?_
 by_cases e:i=j
 ·rw [if_pos e] at h1 ⊢; exact h1
 ·rw [if_neg e] at h1 ⊢; exact h1
theorem EchI.start {p n:Nat} {F:Nat→Nat→Int} {W:Nat→Nat→Nat} (hp:0<p) (h1 : ∀ i j,i<n→j<n→(W i j:Int)=F i j % (p:Int)) (h2 : ∀ i t,i<n→t<n→W i (n+t)=if i=t then 1 else 0) (hp1:1<p):EchI p n F 0 W:=by
 have hcong : ∀ i j,i<n→j<n→(p:Int)∣(W i j:Int) - F i j:=fun i j hi hj=>by
  rw [h1 i j hi hj]
  exact ⟨-(F i j / (p:Int)),by have:=Int.mul_ediv_add_emod (F i j) (p:Int);rw [Int.mul_neg]; omega⟩
 refine ⟨fun i j hi hj => ?_,fun h j _ hj=>absurd hj (Nat.not_lt_zero _),fun i j hi hj => ?_,fun u hu i hi => ?_⟩
 ·by_cases e:j<n
  ·have:=h1 i j hi e
   have:=Int.emod_lt_of_pos (F i j) (show 0<(p:Int) by omega)
   omega
  ·have:=h2 i (j - n) hi X
   rw [show n+(j - n)=j by omega] at this
   rw [this]; split <;> omega
 ·rw [iH (f:=fun t=>(W i (n+t):Int)*F t j) hi (fun t ht hne=>by rw [h2 i t hi ht,if_neg (Ne.symm hne)]; simp),h2 i i hi hi,if_pos Y]
  have:=hcong i j hi hj
  simpa using this
 ·exact ja (gJ fun j hj=>by
   have:=gw (dh (u j) (hcong i j hi hj))
   exact this) (hu i hi)
end Tor
end
