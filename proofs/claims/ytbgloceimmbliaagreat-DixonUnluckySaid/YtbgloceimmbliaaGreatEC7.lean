/-
  Theorems that the proofs of laws of this seat rest on.
  No condition.
-/
import Derived.Test.YtbgloceimmbliaaGreatEC6
set_option maxHeartbeats 20000000
set_option linter.unusedVariables false
set_option linter.unusedSimpArgs false
section
namespace Tor
open Go Go.RowKit Go.Proofs
attribute [local irreducible] J PJ aK one slT bR bC bv exT cj eP aT aI slV VT.le Ret bL
theorem y9 (n:Nat) (φ ψ χ:Nat→VT) [hF : ∀ i,Flat (χ i) (.agg 2)] (cl:VT) (hn:n≤1048576) (hC : ∀ i,i<n→fp Tryz.prog cl [φ i, ψ i] (χ i)):Ok Tryz.prog 153 [slT (.agg 2) n φ,slT (.agg 2) n ψ,cl] (slT (.agg 2) n χ):=by
 refine Ok.enter Tryz.func153 Y Tryz.ntmps153 Y (fun w O => ?_)
 refine ae (ai (En Y (Ep (aa (ae (ai (Em Y (El (aX Y) ?_))))))))
 refine bV n n Y Y Y Y (Nat.le_refl _) Y Y X Y Y (fun bz => ?_)
 refine En Y (Ep (aa (ae (ae (ai (Em Y (El (cw Y) (Em Y (Ep ?_)))))))))
 refine aa (au ?_)
 refine cK (σ:=Nat) (fun i => [(0,slT (.agg 2) n φ),(1,slT (.agg 2) n ψ),(2,cl),(7,one (slV (some bz) n n)),(13,one (.int .i64 n)),(14,one (.int .i64 (i:Nat)))])
  (fun i => [aI (some bz) 37 (.agg 2) n n (fun q=>if q<i then χ q else bL)]) (fun i=>i≤n) (fun i=>n - i) 0 (Nat.zero_le _) Ei (.keep (ed fun q hq=>by rw [if_neg X]; exact jN _) .nil) (fun i hi => ?_)
 refine ae (ai (El (a6 Y Y) (Ep (aa (ae ?_)))))
 refine a9 Y (fun hc => ?_) (fun hc => ?_) <;> simp only [decide_eq_true_eq,decide_eq_false_iff_not,ne_eq,Decidable.not_not] at hc
 ·refine az (aa (ae (au (ae (ai (Em Y (En Y (Ep (aa ?_)))))))))
  refine a7 13 aZ Z S (Em Y (Em Y (Em Y (Em Y (Em Y ?_)))))
  (refine El (aC Y Y ?_) ?_;omega)
  refine El (aO Y) (Em Y (Em Y ?_))
  (refine El (aC Y Y ?_) ?_;omega)
  refine El (aO Y) ?_
  refine El (li (hC i X) Y Y ⟨H,H,Er⟩) ?_
  (refine El (ao Y Y ?_) ?_;omega)
  refine Ep ?_
  (refine aw 0 Y Y Y ?_ Y ?_;omega)
  refine Ep (aE (aa (ai ?_)))
  (refine El (cr Y Y (aQ ?_ ?_)) ?_;omega;omega)
  refine Em Y (Ep ?_)
  refine cd (s:=i) (i+1) (show _ from by omega) (by show n - (i+1)<n - i;omega) Ei (.keep (bh fun q hq => ?_) .nil)
  unfold upd
  by_cases h:q=i
  ·subst h;rw [if_pos Y,if_pos X]
  ·rw [if_neg h]
   have e:q<i+1↔q<i:=by omega
   simp only [e]
 ·have hk:i=n:=by omega
  subst hk
  refine aY (av (av (aF (aa (ae (ai (Em Y (En Y (Ep ?_)))))))))
  refine aa (aD (cq (t:=6) (i:=0) Y Y ?_))
  refine aS Tryz.results153 (.tmp Y (d5 fun q hq => ?_))
  rw [if_pos hq]; exact VT.le_refl _
theorem za (n:Nat) (φ ψ χ:Nat→VT) [hF : ∀ i,Flat (χ i) .one] (cl:VT) (hn:n≤1048576) (hC : ∀ i,i<n→fp Tryz.prog cl [φ i, ψ i] (χ i)):Ok Tryz.prog 158 [slT .one n φ,slT .one n ψ,cl] (slT .one n χ):=by
 refine Ok.enter Tryz.func158 Y Tryz.ntmps158 Y (fun w O => ?_)
 refine ae (ai (En Y (Ep (aa (ae (ai (Em Y (El (aX Y) ?_))))))))
 refine bV n n Y Y Y Y (Nat.le_refl _) Y Y X Y Y (fun bz => ?_)
 refine En Y (Ep (aa (ae (ae (ai (Em Y (El (cw Y) (Em Y (Ep ?_)))))))))
 refine aa (au ?_)
 refine cK (σ:=Nat) (fun i => [(0,slT .one n φ),(1,slT .one n ψ),(2,cl),(7,one (slV (some bz) n n)),(13,one (.int .i64 n)),(14,one (.int .i64 (i:Nat)))])
  (fun i => [aI (some bz) 32 .one n n (fun q=>if q<i then χ q else bL)]) (fun i=>i≤n) (fun i=>n - i) 0 (Nat.zero_le _) Ei (.keep (ed fun q hq=>by rw [if_neg X]; exact jN _) .nil) (fun i hi => ?_)
 refine ae (ai (El (a6 Y Y) (Ep (aa (ae ?_)))))
 refine a9 Y (fun hc => ?_) (fun hc => ?_) <;> simp only [decide_eq_true_eq,decide_eq_false_iff_not,ne_eq,Decidable.not_not] at hc
 ·refine az (aa (ae (au (ae (ai (Em Y (En Y (Ep (aa ?_)))))))))
  refine a7 13 aZ Z S (Em Y (Em Y (Em Y (Em Y (Em Y ?_)))))
  (refine El (aC Y Y ?_) ?_;omega)
  refine El (aO Y) (Em Y (Em Y ?_))
  (refine El (aC Y Y ?_) ?_;omega)
  refine El (aO Y) ?_
  refine El (li (hC i X) Y Y ⟨H,H,Er⟩) ?_
  (refine El (ao Y Y ?_) ?_;omega)
  refine Ep ?_
  (refine aw 0 Y Y Y ?_ Y ?_;omega)
  refine Ep (aE (aa (ai ?_)))
  (refine El (cr Y Y (aQ ?_ ?_)) ?_;omega;omega)
  refine Em Y (Ep ?_)
  refine cd (s:=i) (i+1) (show _ from by omega) (by show n - (i+1)<n - i;omega) Ei (.keep (bh fun q hq => ?_) .nil)
  unfold upd
  by_cases h:q=i
  ·subst h;rw [if_pos Y,if_pos X]
  ·rw [if_neg h]
   have e:q<i+1↔q<i:=by omega
   simp only [e]
 ·have hk:i=n:=by omega
  subst hk
  refine aY (av (av (aF (aa (ae (ai (Em Y (En Y (Ep ?_)))))))))
  refine aa (aD (cq (t:=6) (i:=0) Y Y ?_))
  refine aS Tryz.results158 (.tmp Y (d5 fun q hq => ?_))
  rw [if_pos hq]; exact VT.le_refl _
end Tor
end
section
namespace Tor
open Go Go.RowKit Go.Proofs
def bA:Nat→(Nat→Int)→Int
 | 0, _ => 0
 | n + 1, f => bA n f + f n
theorem dF {n:Nat} {f g:Nat→Int} (h : ∀ i,i<n→f i=g i):bA n f=bA n g:=by
 induction n with
 | zero => rfl
 | succ n ih => rw [bA, bA, ih (fun i hi => h i X), h n X]
theorem ul {n B:Nat} {f:Nat→Int} (h : ∀ i,(f i).natAbs≤B):(bA n f).natAbs≤n*B:=by
 induction n with
 | zero => simp [bA]
 | succ n ih =>
  rw [bA,Nat.succ_mul]
  have:=h n
  omega
theorem pZ {n:Nat} {f:Nat→Int} (hn:n≤1048576) (h : ∀ i,(f i).natAbs≤2^800):bm (bA n f) :=
 dn (ul h) (Nat.lt_of_le_of_lt (Nat.mul_le_mul_right _ hn) U)
def um (n:Nat) (F G:Nat→Nat→Int):Nat→Nat→Int:=fun i j=>bA n (fun k=>F i k*G k j)
theorem ki {n:Nat} {f:Nat→Int} : bA (n+1) f=bA n f+f n:=rfl
attribute [local irreducible] J PJ aK one slT bR bC bv exT cj eP aT aI slV VT.le Ret bL
attribute [local irreducible] aL
theorem wY (r c:Nat) (v:Nat→Int) (G:Nat→Nat→Int) (hr:r≤1048576) (hc0:c≤1048576) (hv : ∀ i,ol (v i)) (hG : ∀ i j,ol (G i j)) :
  Ok Tryz.prog 143 [bJ r v,bW r c G] (bJ c (fun j=>bA r (fun k=>v k*G k j))):=by
 unfold bJ bW
 refine Ok.enter Tryz.func143 Y Tryz.ntmps143 Y (fun w O => ?_)
 refine ae (ai ?_)
 refine aV Y Y (ltN Y) (fun b => ?_)
 refine En Y (Ep (aa (ae (ai (El (aj Y) (El (ak 0 Y Y Y) ?_))))))
 refine bV c c Y Y Y Y (Nat.le_refl _) Y Y X Y Y (fun bz => ?_)
 refine En Y (Ep (aa (ae (ae (ai (Em Y (El (aX Y) (Em Y (Ep ?_)))))))))
 refine aa (au ?_)
 refine cK (σ:=Nat) (fun i => [(3,one (.pointer (some ⟨b,0,none⟩))),(5,one (slV (some bz) c c)),(13,slT (.agg 2) r (fun j=>aL (v j))),(14,one (.int .i64 r)),(15,one (.int .i64 (i:Nat)))])
  (fun i => [aI (some bz) 37 (.agg 2) c c (fun q=>aL (bA i (fun k=>v k*G k q))),aT b 30 3 [(0, .one,one (.int .i64 r)),(1, .one,one (.int .i64 c)),(2, .one,slT .one r (fun i=>bJ c (G i)))]])
  (fun i=>i≤r) (fun i=>r - i) 0 (Nat.zero_le _) Ei (.keep (ed fun q hq=>iS) (SubM.refl _)) (fun i hi => ?_)
 unfold bJ
 refine ae (ai (El (a6 Y Y) (Ep (aa (ae ?_)))))
 refine a9 Y (fun hc => ?_) (fun hc => ?_) <;> simp only [decide_eq_true_eq,decide_eq_false_iff_not,ne_eq,Decidable.not_not] at hc
 ·refine az (aa (ae (au (ae (ai (Em Y ?_))))))
  (refine El (aC Y Y ?_) ?_;omega)
  refine El (aO Y) ?_
  refine aH (T:=37) Y (ltN Y) (fun b => ?_)
  refine En Y (aA 0 Y Y Y Y Y (leN Y) Y (Ep (aa (ae (ae (ai (El (ak 0 Y Y Y) ?_)))))))
  rename_i ba
  refine El (am (dc (v i)) Y ⟨H,Er⟩) ?_
  refine El (cg Y Y) (Ep (aa ?_))
  refine a9 Y (fun hc2 => ?_) (fun hc2 => ?_) <;> simp only [decide_eq_true_eq,decide_eq_false_iff_not,eH] at hc2
  ·refine aY (av (aF (aa (ai ?_))))
   (refine El (cr Y Y (aQ ?_ ?_)) ?_;omega;omega)
   refine Em Y (Ep ?_)
   refine cd (s:=i) (i+1) (show _ from by omega) (by show r - (i+1)<r - i;omega) Ei (.drop (.keep (bh fun q hq => ?_) (SubM.refl _)))
   rw [ki,hc2]; simp
  ·refine az (aa (ae (ai (El (aj Y) (El (ak 2 Y Y Y) (Em Y ?_))))))
   (refine El (aC Y Y ?_) ?_;omega)
   refine El (aO Y) (El (aX Y) (Em Y (Ep (aa (au ?_)))))
   refine cK (σ:=Nat) (fun j => [(3,one (.pointer (some ⟨ba,0,none⟩))),(5,one (slV (some bz) c c)),(6,one (.int .i64 (i:Nat))),(7,one (.pointer (some ⟨b,0,none⟩))),(13,slT (.agg 2) r (fun j=>aL (v j))),(14,one (.int .i64 r)),(15,one (.int .i64 (i:Nat))),(27,slT (.agg 2) c (fun j=>aL (G i j))),(28,one (.int .i64 c)),(29,one (.int .i64 (j:Nat)))])
    (fun j => [aT b 37 2 [(0, .agg 2,aL (v i))],aI (some bz) 37 (.agg 2) c c (fun q=>aL (if q<j then bA (i+1) (fun k=>v k*G k q) else bA i (fun k=>v k*G k q))),aT ba 30 3 [(0, .one,one (.int .i64 r)),(1, .one,one (.int .i64 c)),(2, .one,slT .one r (fun i=>slT (.agg 2) c (fun j=>aL (G i j))))]])
    (fun j=>j≤c) (fun j=>c - j) 0 (Nat.zero_le _) Ei (.keep Ek (.keep (bh fun q hq=>by rw [if_neg X]) (SubM.refl _))) (fun j hj => ?_)
   refine ae (ai (El (a6 Y Y) (Ep (aa (ae ?_)))))
   refine a9 Y (fun hc3 => ?_) (fun hc3 => ?_) <;> simp only [decide_eq_true_eq,decide_eq_false_iff_not,Int.ofNat_lt] at hc3
   ·refine az (aa (ae (au (ae (ai (Em Y ?_))))))
    (refine El (aC Y Y ?_) ?_;omega)
    refine El (aO Y) ?_
    refine aH (T:=37) Y (ltN Y) (fun b => ?_)
    refine En Y (aA 0 Y Y Y Y Y (leN Y) Y (Ep (aa (ae (ai (El (ak 0 Y Y Y) ?_))))))
    refine El (am (dc (G i j)) Y ⟨H,Er⟩) ?_
    refine El (dy Y Y) (Ep (aa ?_))
    refine a9 Y (fun hc4 => ?_) (fun hc4 => ?_) <;> simp only [decide_eq_true_eq,decide_eq_false_iff_not,ne_eq,Decidable.not_not,eH] at hc4
    ·skip
     refine a7 11 aZ Z S (Em Y (Em Y (Em Y (Em Y ?_))))
     (refine El (ao Y Y ?_) ?_;omega)
     (refine El (bg 2 Y Y ?_) ?_;omega)
     refine El (ak 1 Y Y Y) (El (ak 0 Y Y Y) ?_)
     refine El (am (eW (v i) (G i j) (jb (hv i)) (jb (hG i j))) Y ⟨H,H,Er⟩) ?_
     rw [if_neg (Nat.lt_irrefl j)]
     refine El (am (kb (bA i (fun k=>v k*G k j)) (v i*G i j) (pZ X (fun k=>lR (hv k) (hG k j))) (dn (lR (hv i) (hG i j)) U)) Y ⟨H,H,Er⟩) ?_
     (refine El (ao Y Y ?_) ?_;omega)
     refine Ep ?_
     (refine aw 2 Y Y Y ?_ Y ?_;omega)
     refine Ep (aE (aa (ai ?_)))
     (refine El (cr Y Y (aQ ?_ ?_)) ?_;omega;omega)
     refine Em Y (Ep ?_)
     refine cd (s:=j) (j+1) (show _ from by omega) (by show c - (j+1)<c - j;omega) Ei (.drop (.keep Ek (.keep (bh fun q hq => ?_) (SubM.refl _))))
     unfold upd
     by_cases h:q=j
     ·subst h;rw [if_pos Y,if_pos X]; rfl
     ·rw [if_neg h]
      have e:q<j+1↔q<j:=by omega
      simp only [e]
    ·refine az (aE (aa (ai ?_)))
     (refine El (cr Y Y (aQ ?_ ?_)) ?_;omega;omega)
     refine Em Y (Ep ?_)
     refine cd (s:=j) (j+1) (show _ from by omega) (by show c - (j+1)<c - j;omega) Ei (.drop (.keep Ek (.keep (bh fun q hq => ?_) (SubM.refl _))))
     by_cases h:q=j
     ·subst h;rw [if_neg (Nat.lt_irrefl _),if_pos X,ki,hc4]; simp
     ·have e:q<j+1↔q<j:=by omega
      simp only [e]
   ·refine aY (av (av (aF (aE (aa (ai ?_))))))
    (refine El (cr Y Y (aQ ?_ ?_)) ?_;omega;omega)
    refine Em Y (Ep ?_)
    refine cd (s:=i) (i+1) (show _ from by omega) (by show r - (i+1)<r - i;omega) Ei (.drop (.keep (bh fun q hq => ?_) (SubM.refl _)))
    rw [if_pos X]
 ·have hk:i=r:=by omega
  subst hk
  refine aY (av (av (aF (aa (ae (ai (Em Y (En Y (Ep ?_)))))))))
  refine aa (aD (cq (t:=4) (i:=0) Y Y ?_))
  exact aS Tryz.results143 (.tmp Y H)
end Tor
end
section
namespace Tor
open Go Go.RowKit Go.Proofs
instance:Idle Tryz.prog 179:=Idle.of Tryz.func179 Y Tryz.ntmps179 Tryz.results179
instance:Idle Tryz.prog 142:=Idle.of Tryz.func142 Y Tryz.ntmps142 Tryz.results142
def DF (ok:Bool) (e:Int) (n:Nat) (f:Nat→Int):VT:=bv [bJ (if ok then n else 0) f,one (.int .i64 (if ok then 0 else e))]
attribute [local irreducible] J PJ aK one slT bR bC bv exT cj eP aT aI slV VT.le Ret bL
attribute [local irreducible] dC
theorem CR (r c:Nat) (hr:r≤1048576) (hc0:c≤1048576):OkM Tryz.prog 159 [one (.int .i64 r),one (.int .i64 c)] (kO r c) (fun s => [iU s.1.2.1 s.1.2.2 r c s.1.1,fA c s.1.1 (fun _ _=>0)]):=by
 refine OkM.enterD Tryz.func159 Y Tryz.ntmps159 Y (fun w O => ?_)
 have e1:max (r:Int) 0=r:=by omega
 have e2:max (c:Int) 0=c:=by omega
 refine ae (ai ?_)
 refine bD (T:=30) Y Y Y (fun b => ?_)
 refine Ep (aa (ae (ai (vg Y (Ep (aa (ae (ai (Em Y ?_)))))))))
 refine El (pp Y Y) (Em Y (El (pp Y Y) (En Y (En Y (Ep (aa (ae (ai (Em Y ?_)))))))))
 rw [e1,e2]
 refine bV r r Y Y Y Y (Nat.le_refl _) Y Y X Y Y (fun bo => ?_)
 refine En Y (Ep (aa (ae (ae (ai (Em Y (El (cw Y) (Em Y (Ep ?_)))))))))
 refine aa (au ?_)
 refine gc (ConvM.rows0 (T:=37) (L := .agg 2) (c:=c) (φ:=fun _ _=>aL 0) _) ?_
 refine cK (σ:=List Nat) (fun s => [(0,one (.int .i64 r)),(1,one (.int .i64 c)),(4,one (.pointer (some ⟨b,0,none⟩))),(5,one (slV (some bo) r r)),(14,one (.int .i64 r)),(15,one (.int .i64 s.length))])
  (fun s => [aI (some bo) 32 .one r r (fun q=>if q<s.length then one (slV (some (s.getD q 0)) c c) else bL),aT b 30 3 (dX #[Value.int IntKind.i64 0,Value.int IntKind.i64 0,Value.slice none 0 0] [(0,Lay.one),(1,Lay.one),(2,Lay.one)]),fA c s (fun _ _=>0)])
  (fun s=>s.length≤r) (fun s=>r - s.length) [] (Nat.zero_le _) Ei (.keep (ed fun q hq=>by rw [if_neg (by simp)]; exact jN _) (SubM.refl _)) (fun bs hk => ?_)
 refine ae (ai (El (a6 Y Y) (Ep (aa (ae ?_)))))
 refine a9 Y (fun hc => ?_) (fun hc => ?_) <;> simp only [decide_eq_true_eq,decide_eq_false_iff_not,ne_eq,Decidable.not_not] at hc
 ·refine az (aa (ae (au (ae (ai (Em Y (En Y (Ep (aa ?_)))))))))
  refine ai (Em Y (Em Y (Em Y ?_)))
  refine bV c c Y Y Y Y (Nat.le_refl _) Y Y X Y Y (fun bz => ?_)
  (refine El (ao Y Y ?_) ?_;omega)
  (refine aw 1 Y Y Y ?_ Y ?_;omega)
  refine Ep (aE (aa (ai ?_)))
  (refine El (cr Y Y (aQ ?_ ?_)) ?_;omega;omega)
  refine Em Y (Ep (fm (ConvM.row (k:=2) Y) (cd (s:=bs) (bs ++ [bz]) (by simp;omega) (by simp;omega) (.cons Y H (.cons Y H (.cons Y H (.cons Y H (.cons Y H (.cons Y (aq (by simp)) .nil)))))) ?_)))
  refine .keep (bh (fun q hq => ?_)) (.keep Ek (.keep (nO fun i j hi hj => ?_) .nil))
  ·unfold upd
   by_cases h:q=bs.length
   ·subst h;simp
   ·rw [if_neg h]
    show (if q<bs.length then one (slV (some (bs.getD q 0)) c c) else bL)=_
    by_cases h2:q<bs.length
    ·rw [if_pos h2,if_pos (by simp;omega)]; simp [List.getElem?_append_left h2]
    ·rw [if_neg h2,if_neg (by simp;omega)]
  ·simp only
   split
   ·exact VT.le_refl _
   ·exact iS
 ·have hlen:bs.length=r:=by omega
  subst hlen
  refine aY (av (av (aF (aa (ae (ai (Em Y (Em Y (Em Y ?_)))))))))
  refine stB Y Y Y (BuildK.cons Y Y Y (BuildK.cons Y Y Y (BuildK.cons Y Y Y (BuildK.nil (a4 1 Y Y Y Y (Ep (aa (aD ?_))))))))
  refine qw (jq ⟨(bs,some bo,bs.length),rfl,fun h=>by cases h⟩ Tryz.results159 (.cellW 1 Y Y H) ?_)
  refine .keep (bh fun q hq => ?_) (.drop (SubM.refl _))
  rw [if_pos hq]
attribute [local irreducible] aL
theorem sJ (n:Nat) (hn:n≤1048576):Ok Tryz.prog 137 [one (.int .i64 n)] (bW n n (fun i j=>if i=j then 1 else 0)):=by
 refine Ok.enter Tryz.func137 Y Tryz.ntmps137 Y (fun w O => ?_)
 refine ae (ai ?_)
 refine bD (T:=30) Y Y Y (fun b => ?_)
 refine Ep (aa (ae (ai (Em Y (Em Y ?_)))))
 refine gw (CR n n hn hn) Y ⟨H,H,Er⟩ Y Y (fun s => ?_)
 obtain ⟨⟨bs,sv1,cap1⟩,hlen,hsv⟩:=s
 simp only at hlen hsv
 unfold kO
 refine bD (T:=30) Y Y Y (fun b => ?_)
 refine a4 0 Y Y Y Y (Ep (aa (ae (ae (ai (El (aj Y) (El (ak 0 Y Y Y) (El (cw Y) (Em Y ?_)))))))))
 refine Ep (aa (au ?_))
 rename_i b2
 refine cK (σ:=Nat) (fun i => [(2,one (.pointer (some ⟨b2,0,none⟩))),(3,one (.pointer (some ⟨b,0,none⟩))),(10,one (.int .i64 n)),(11,one (.int .i64 (i:Nat)))])
  (fun i => [aT b 30 3 [(0, .one,one (.int .i64 n)),(1, .one,one (.int .i64 n)),(2, .one,one (slV sv1 n cap1))],iU sv1 cap1 n n bs,fA n bs (fun q k=>if q<i then (if q=k then 1 else 0) else 0),
   aT b2 30 3 (dX #[Value.int IntKind.i64 0,Value.int IntKind.i64 0,Value.slice none 0 0] [(0,Lay.one),(1,Lay.one),(2,Lay.one)])])
  (fun i=>i≤n) (fun i=>n - i) 0 (Nat.zero_le _) Ei (.keep Ek (.keep Ek (.keep (fU fun i j hi hj=>by simp) (SubM.refl _)))) (fun i hi => ?_)
 refine ae (ai (El (a6 Y Y) (Ep (aa (ae ?_)))))
 refine a9 Y (fun hc => ?_) (fun hc => ?_) <;> simp only [decide_eq_true_eq,decide_eq_false_iff_not,ne_eq,Decidable.not_not] at hc
 ·obtain ⟨bo,rfl⟩:=gE hsv X
  refine az (aa (ae (au (ae (ai (Em Y (En Y (Ep (aa ?_)))))))))
  refine a7 8 aZ Z S (El (aj Y) (El (ak 0 Y Y Y) (Em Y ?_)))
  (refine El (ao Y Y ?_) ?_;omega)
  (refine El (bg 1 Y Y ?_) ?_;omega)
  refine Em Y ?_
  refine El (am (js 1 S S) Y ⟨H,Er⟩) ?_
  (refine El (ao Y Y ?_) ?_;omega)
  refine Ep ?_
  (refine jG 2 Y Y Y (ui ?_) ?_ Y ?_;omega;omega)
  refine Ep (aE (aa (ai ?_)))
  (refine El (cr Y Y (aQ ?_ ?_)) ?_;omega;omega)
  refine Em Y (Ep ?_)
  refine cd (s:=i) (i+1) (show _ from by omega) X Ei (.keep Ek (.keep Ek (.keep (jF fun q k hq hk => ?_) (SubM.refl _))))
  unfold kD
  by_cases h:q=i
  ·subst h
   by_cases h2:k=q
   ·subst h2;simp
   ·have h3 : ¬ q=k:=fun e=>h2 e.symm
    simp [h2,h3]
  ·have h3:q<i+1↔q<i:=by omega
   simp [h,h3]
 ·have hin:i=n:=by omega
  subst hin
  refine aY (av (av (aF (aa (ae (ai (El (aN 0 Y Y) (a4 3 Y Y Y Y (Ep ?_)))))))))
  refine aa (aD ?_)
  have hperm : ∀ (x y z u:Own), [x,y,z,u].Perm ([y,z] ++ [x,u]):=fun x y z u=>(List.Perm.swap y x _).trans (List.Perm.cons y (List.Perm.swap z x _))
  refine i6 [iU sv1 cap1 i i bs,fA i bs (fun q k=>if q<i then (if q=k then 1 else 0) else 0)] (hperm _ _ _ _) (.keep (wu.refl _) (.keep (wu.box (kg hlen ⟨by simp,by simp,by simp⟩)) .nil)) (wv.refl _) ?_
  refine aS Tryz.results137 (.cellW 1 Y Y ?_)
  exact vO fun a b ha hb=>by simp [ha]
theorem zc (n:Nat) (v:Nat→Int) (r c:Nat) (G:Nat→Nat→Int) (hr:r≤1048576) (hc0:c≤1048576) (hv : ∀ i,ol (v i)) (hG : ∀ i j,ol (G i j)) :
  Ok Tryz.prog 94 [bJ n v,bW r c G] (DF (decide (n=r)) 50 c (fun j=>bA r (fun k=>v k*G k j))):=by
 unfold DF
 refine Ok.enterD Tryz.func94 Y Tryz.ntmps94 Y (fun w O => ?_)
 refine iW (t:=0) Y (fun _ _=>fa) (fun hb => ?_)
 unfold bW
 refine ae (ai ?_)
 refine aV Y Y (ltN Y) (fun b => ?_)
 refine En Y (En Y (Ep (aa (ae (ai (vg Y (Ep (aa (ae ?_)))))))))
 refine ae (ai (El (aN 0 Y Y) ?_))
 refine El (am (fB r c G) Y ⟨H,Er⟩) ?_
 unfold bJ
 refine El (cS Y) (Em Y (Eo (ab Y) (Eo (aX Y) (Eo (aj Y) (Eo (ak 0 Y Y Y) (Eo (dy Y Y) (El (bE Y Y) (Ep (aa ?_)))))))))
 refine a9 Y (fun hc => ?_) (fun hc => ?_) <;> simp only [decide_eq_true_eq,decide_eq_false_iff_not,ne_eq,Decidable.not_not] at hc
 ·have hne : ¬ n=r:=by omega
  refine ae (ai (En Y (En Y (Ep (aa (aD (aR ?_)))))))
  refine qw (dg Tryz.results94 (.tmp Y ?_) (.tmp Y (aq ?_)))
  ·rw [decide_eq_false hne]; exact eV
  ·rw [decide_eq_false hne]; rfl
 ·have he:n=r:=by omega
  subst he
  refine az (aa (ae (ai (Em Y (El (aN 0 Y Y) ?_)))))
  refine El (am (wY n c v G hr hc0 hv hG) Y ⟨H,H,Er⟩) ?_
  refine En Y (En Y (Ep (aa (aD ?_))))
  refine qw (dg Tryz.results94 (.tmp Y ?_) (.tmp Y (aq ?_)))
  ·simp only [decide_true]; exact VT.le_refl _
  ·simp
end Tor
end
section
namespace Tor
open Go Go.RowKit Go.Proofs
def sK (ok:Bool) (e:Int) (r c:Nat) (F:Nat→Nat→Int):VT:=bv [bW (if ok then r else 0) (if ok then c else 0) F,one (.int .i64 (if ok then 0 else e))]
theorem sL (F:Nat→Nat→Int):VT.le (bC 3 (dX #[Value.int IntKind.i64 0,Value.int IntKind.i64 0,Value.slice none 0 0] [(0,Lay.one),(1,Lay.one),(2,Lay.one)])) (bW 0 0 F):=by
 unfold bW
 refine fj (fun q hq => ?_)
 rcases List.mem_cons.1 hq with rfl | hq
 ·exact ⟨_,List.mem_cons_self,H⟩
 rcases List.mem_cons.1 hq with rfl | hq
 ·exact ⟨_,List.mem_cons_of_mem _ List.mem_cons_self,H⟩
 rcases List.mem_cons.1 hq with rfl | hq
 ·exact ⟨_,List.mem_cons_of_mem _ (List.mem_cons_of_mem _ List.mem_cons_self),eV⟩
 ·cases hq
theorem kj:VT.le (bC 2 (dX #[Value.bool false,Value.slice none 0 0] [(0,Lay.one),(1,Lay.one)])) (aL 0):=by
 unfold aL
 refine fj (fun q hq => ?_)
 rcases List.mem_cons.1 hq with rfl | hq
 ·exact ⟨_,List.mem_cons_self,H⟩
 rcases List.mem_cons.1 hq with rfl | hq
 ·exact ⟨_,List.mem_cons_of_mem _ List.mem_cons_self,eV⟩
 ·cases hq
attribute [local irreducible] J PJ aK one slT bR bC bv exT cj eP aT aI slV VT.le Ret bL
attribute [local irreducible] aL
theorem CS (n m:Nat) (f g:Nat→Int) (hn:n≤1048576) (hm:m≤1048576) (hf : ∀ i,ol (f i)) (hg : ∀ i,ol (g i)) :
  Ok Tryz.prog 130 [bJ n f,bJ m g] (bv [aL (if n=m then bA n (fun k=>f k*g k) else 0),one (.int .i64 (if n=m then 0 else 50))]):=by
 unfold bJ
 refine Ok.enter Tryz.func130 Y Tryz.ntmps130 Y (fun w O => ?_)
 refine ae (ai ?_)
 refine aH (T:=37) Y (ltN Y) (fun b => ?_)
 refine En Y (Ep (aa (ae (ae (ai (Em Y (El (aX Y) (Em Y (El (aX Y) ?_)))))))))
 refine El (dy Y Y) (Ep (aa ?_))
 refine a9 Y (fun hc => ?_) (fun hc => ?_) <;> simp only [decide_eq_true_eq,decide_eq_false_iff_not,ne_eq,Decidable.not_not] at hc
 ·have hne : ¬ n=m:=by omega
  refine ae (ai (stB Y Y Y (BuildK.nil (aA 0 Y Y Y Y Y (leN Y) Y (En Y (Ep (aa (aD (aR ?_)))))))))
  refine dg Tryz.results130 (.cellB 0 Y Y Y ?_) (.tmp Y (aq ?_))
  ·rw [if_neg hne]; exact kj
  ·rw [if_neg hne]
 ·have he:n=m:=by omega
  subst he
  refine az (aa (ae (ai ?_)))
  refine aH (T:=37) Y (ltN Y) (fun b => ?_)
  refine Ep (aa (ae (ae (ai (Em Y (Em Y ?_))))))
  rename_i b4
  refine El (am (y9 n (fun j=>aL (f j)) (fun j=>aL (g j)) (fun j=>aL (f j*g j)) (one (.func (.func 54) #[] #[])) hn (fun i hi=>fp.fn (eW _ _ (jb (hf i)) (jb (hg i))))) Y ⟨H,H,H,Er⟩) ?_
  refine El (aX Y) (Em Y (Ep (aa (au ?_))))
  refine cK (σ:=Nat) (fun i => [(4,one (.pointer (some ⟨b4,0,none⟩))),(6,one (.pointer (some ⟨b,0,none⟩))),(17,slT (.agg 2) n (fun j=>aL (f j*g j))),(18,one (.int .i64 n)),(19,one (.int .i64 (i:Nat)))])
   (fun i => [aT b 37 2 [(0, .agg 2,aL (bA i (fun k=>f k*g k)))],aT b4 37 2 [(0, .agg 2,one (.agg #[.bool false, .slice none 0 0]))]])
   (fun i=>i≤n) (fun i=>n - i) 0 (Nat.zero_le _) Ei (.keep (qq fun q hq=>by rcases List.mem_cons.1 hq with rfl | hq;exact ⟨_,List.mem_cons_self,iS⟩;cases hq) (SubM.refl _)) (fun i hi => ?_)
  refine ae (ai (El (a6 Y Y) (Ep (aa (ae ?_)))))
  refine a9 Y (fun hc => ?_) (fun hc => ?_) <;> simp only [decide_eq_true_eq,decide_eq_false_iff_not,Int.ofNat_lt] at hc
  ·refine az (aa (ae (au (ae (ai ?_)))))
   (refine El (aC Y Y ?_) ?_;omega)
   refine El (aO Y) ?_
   refine aH (T:=37) Y (ltN Y) (fun b => ?_)
   refine aA 0 Y Y Y Y Y (leN Y) Y (Ep (aa (ai (El (ak 1 Y Y Y) (El (ak 0 Y Y Y) ?_)))))
   refine El (am (kb (bA i (fun k=>f k*g k)) (f i*g i) (pZ X (fun k=>lR (hf k) (hg k))) (dn (lR (hf i) (hg i)) U)) Y ⟨H,H,Er⟩) ?_
   refine aA 1 Y Y Y Y Y (leN Y) Y (Ep (aE (aa (ai ?_))))
   (refine El (cr Y Y (aQ ?_ ?_)) ?_;omega;omega)
   refine Em Y (Ep ?_)
   exact cd (s:=i) (i+1) (show _ from by omega) (by show n - (i+1)<n - i;omega) Ei (.drop (.keep Ek (SubM.refl _)))
  ·have hin:i=n:=by omega
   subst hin
   refine aY (av (av (aF (aa (ae (ai (El (ak 0 Y Y Y) (aA 1 Y Y Y Y Y (leN Y) Y (En Y ?_)))))))))
   refine Ep (aa (aD ?_))
   refine dg Tryz.results130 (.cellB 1 Y Y Y ?_) (.tmp Y (aq ?_))
   ·rw [if_pos Y]; exact VT.le_refl _
   ·rw [if_pos Y]
theorem wZ (ra ca:Nat) (F:Nat→Nat→Int) (rb cb:Nat) (G:Nat→Nat→Int) (h1:ra≤1048576) (h2:ca≤1048576) (h4:cb≤1048576) (hF : ∀ i j,bm (F i j)) (hG : ∀ i j,bm (G i j)) :
  Ok Tryz.prog 136 [bW ra ca F,bW rb cb G] (sK (decide (ra=rb)) 50 ra (ca+cb) (fun i k=>if k<ca then F i k else G i (k - ca))):=by
 unfold sK
 refine Ok.enter Tryz.func136 Y Tryz.ntmps136 Y (fun w O => ?_)
 have hI : ∀ (φ:VT), φ=φ:=fun _=>rfl
 unfold bW
 refine ae (ai ?_)
 refine aV Y Y (ltN Y) (fun b => ?_)
 refine aV Y Y (ltN Y) (fun b => ?_)
 refine bD (T:=30) Y Y Y (fun b => ?_)
 refine En Y (Ep (aa (ae (ae (ai (El (aN 2 Y Y) (El (aN 1 Y Y) (stS Y Y Y Y (PartsK.cons Y ?_)))))))))
 refine PartsK.cons Y (PartsK.nil ?_)
 refine El (am (pX ra ca F rb cb G) Y ⟨sI,Er⟩) ?_
 refine El (cS Y) (Em Y (Eo (aj Y) (Eo (ak 2 Y Y Y) (Eo (aj Y) (Eo (ak 1 Y Y Y) (Eo (dy Y Y) (El (bE Y Y) (Ep (aa ?_)))))))))
 refine a9 Y (fun hc => ?_) (fun hc => ?_) <;> simp only [decide_eq_true_eq,decide_eq_false_iff_not,ne_eq,Decidable.not_not] at hc
 ·have hne : ¬ ra=rb:=by omega
  refine ae (ai (stB Y Y Y (BuildK.nil (a4 0 Y Y Y Y (En Y (Ep (aa (aD (aR ?_)))))))))
  refine dg Tryz.results136 (.cellW 0 Y Y ?_) (.tmp Y (aq ?_))
  ·rw [decide_eq_false hne]; exact sL _
  ·rw [decide_eq_false hne]; rfl
 ·have he:ra=rb:=by omega
  subst he
  refine az (aa (ae (a7 13 aZ Z S (El (aj Y) (El (ak 2 Y Y Y) (El (aj Y) (El (ak 2 Y Y Y) (El (aj Y) (El (ak 1 Y Y Y) ?_)))))))))
  (refine El (cr Y Y (aQ ?_ ?_)) ?_;omega;omega)
  refine El (aj Y) (El (ak 2 Y Y Y) (El (aj Y) (El (ak 1 Y Y Y) ?_)))
  refine El (am (za ra (fun i=>bJ ca (F i)) (fun i=>bJ cb (G i)) (fun i=>bJ (ca+cb) (fun k=>if k<ca then F i k else G i (k - ca))) (hF:=fun i=>by unfold bJ;infer_instance) (one (.func (.func 83) #[] #[])) h1 (fun i hi=>fp.fn (pY ca cb (F i) (G i) h2 h4 (hF i) (hG i)))) Y ⟨H,H,H,Er⟩) ?_
  refine stB Y Y Y (BuildK.cons Y Y Y (BuildK.cons Y Y Y (BuildK.cons Y Y Y (BuildK.nil (Ep (a4 0 Y Y Y Y (En Y (Ep (aa ?_)))))))))
  refine aD ?_
  refine dg Tryz.results136 (.cellW 0 Y Y ?_) (.tmp Y (aq ?_))
  ·simp only [decide_true,if_true]
   exact VT.le_refl _
  ·simp
end Tor
end
section
namespace Tor
open Go Go.RowKit Go.Proofs
def kA (F:Nat→Nat→Int) (i j:Nat):Nat→Nat→Int:=fun q k=>if q<i∨(q=i∧k<j) then F q k else 0
theorem w5 {T:TypeId} {c:Nat} {bs:List Nat} {F:Nat→Nat→Int} {i j:Nat} (x:Int) (hx:x=F i j) :
  Own.le (dC T (.agg 2) c bs (kD (fun q k=>aL (kA F i j q k)) i j (aL x))) (dC T (.agg 2) c bs (fun q k=>aL (kA F i (j+1) q k))):=by
 subst hx
 refine jF fun q k hq hk => ?_
 unfold kD kA
 by_cases h:q=i∧k=j
 ·obtain ⟨rfl,rfl⟩:=h;simp
 ·rw [if_neg h]
  have e:(q<i∨q=i∧k<j+1)↔(q<i∨q=i∧k<j):=by omega
  simp only [e]
theorem un {c:Nat} {bs:List Nat} {F:Nat→Nat→Int} {i:Nat} : Own.le (fA c bs (kA F i c)) (fA c bs (kA F (i+1) 0)):=by
 refine fU fun q k hq hk => ?_
 unfold kA
 have e:(q<i∨q=i∧k<c)↔(q<i+1∨q=i+1∧k<0):=by omega
 simp only [e]
attribute [local irreducible] J PJ aK one slT bR bC bv exT cj eP aT aI slV VT.le Ret bL
attribute [local irreducible] aL dC
end Tor
end
section
namespace Tor
open Go Go.RowKit Go.Proofs
theorem ConvM.nilSl {T:TypeId} {L:Lay} {φ:Nat→VT} (M:Mem):ConvM M (aI none T L 0 0 φ :: M) :=
 ⟨by simp [aI],fun g h Ef o ho=>by
  rcases List.mem_cons.1 ho with rfl | ho
  ·exact ⟨Nat.le_refl _,by decide,fun _=>rfl,fun b hb=>by cases hb⟩
  ·exact Ef o ho⟩
def kw (ra rb i:Nat):Nat:=if i=0 then 0 else if i=1 then ra else ra+rb
def du (ra:Nat) (F G:Nat→Nat→Int):Nat→Nat→Int:=fun i k=>if i<ra then F i k else G (i - ra) k
attribute [local irreducible] J PJ aK one slT bR bC bv exT cj eP aT aI slV VT.le Ret bL
theorem zd (ra ca:Nat) (F:Nat→Nat→Int) (rb cb:Nat) (G:Nat→Nat→Int) (h1:ra≤1048576) (h2:ca≤1048576) (h3:rb≤1048576) (hF : ∀ i j,bm (F i j)) (hG : ∀ i j,bm (G i j)) :
  Ok Tryz.prog 52 [bW ra ca F,bW rb cb G] (sK (decide (ca=cb)) 50 (ra+rb) ca (du ra F G)):=by
 unfold sK
 refine Ok.enter Tryz.func52 Y Tryz.ntmps52 Y (fun w O => ?_)
 unfold bW
 refine ae (ai ?_)
 refine aV Y Y (ltN Y) (fun b => ?_)
 refine aV Y Y (ltN Y) (fun b => ?_)
 refine bD (T:=30) Y Y Y (fun b => ?_)
 refine En Y (Ep (aa (ae (ae (ai (El (aN 2 Y Y) (El (aN 1 Y Y) (stS Y Y Y Y (PartsK.cons Y ?_)))))))))
 refine PartsK.cons Y (PartsK.nil ?_)
 refine El (am (pX ra ca F rb cb G) Y ⟨sI,Er⟩) ?_
 refine El (cS Y) (Em Y (Eo (aj Y) (Eo (ak 2 Y Y Y) (Eo (aj Y) (Eo (ak 1 Y Y Y) (Eo (dy Y Y) (El (bE Y Y) (Ep (aa ?_)))))))))
 refine a9 Y (fun hc => ?_) (fun hc => ?_) <;> simp only [decide_eq_true_eq,decide_eq_false_iff_not,ne_eq,Decidable.not_not] at hc
 ·have hne : ¬ ca=cb:=by omega
  refine ae (ai (stB Y Y Y (BuildK.nil (a4 0 Y Y Y Y (En Y (Ep (aa (aD (aR ?_)))))))))
  refine dg Tryz.results52 (.cellW 0 Y Y ?_) (.tmp Y (aq ?_))
  ·rw [decide_eq_false hne]; exact sL _
  ·rw [decide_eq_false hne]; rfl
 ·have he:ca=cb:=by omega
  subst he
  refine az (aa (ae (ai (El (aj Y) (El (ak 2 Y Y Y) (El (aj Y) (El (ak 1 Y Y Y) ?_)))))))
  (refine El (cr Y Y (aQ ?_ ?_)) ?_;omega;omega)
  refine El (aj Y) (El (ak 2 Y Y Y) (stB Y Y Y (BuildK.cons Y Y Y (BuildK.cons Y Y Y (BuildK.nil ?_)))))
  refine bD (T:=30) Y Y Y (fun b => ?_)
  refine a4 0 Y Y Y Y (Ep (aa (ae (ae (ai (El (aN 3 Y Y) (El (aN 2 Y Y) (stB Y Y Y (BuildK.cons Y Y Y ?_)))))))))
  refine BuildK.cons Y Y Y (BuildK.nil (Em Y (Ep (aa (au ?_)))))
  rename_i b2 b3 b4
  have hlk1 : ∀ i,i<2→eM [(0,Lay.agg 3,bW ra ca F),(3,Lay.agg 3,bW rb ca G)] (i*(Lay.agg 3).sz)=some (.agg 3,bW (if i=0 then ra else rb) ca (if i=0 then F else G)):=fun i hi=>by
   rcases i with _ | _ | i
   ·rfl
   ·rfl
   ·omega
  have hsm1 : ∀ i j k,bm ((if i=0 then F else G) j k):=fun i j k=>by split <;> first | exact hF _ _ | exact hG _ _
  revert b
  intro b6
  refine gc (ConvM.nilSl (T:=32) (L := .one) (φ:=fun q=>bJ ca (du ra F G q)) _) ?_
  refine cK (σ:=Nat × Option Nat × Nat) (fun s => [(4,one (.pointer (some ⟨b4,0,none⟩))),(6,one (.pointer (some ⟨b6,0,none⟩))),(34,bC 6 [(0, .agg 3,bW ra ca F),(3, .agg 3,bW rb ca G)]),(35,one (.int .i64 (s.1:Nat)))])
   (fun s => [aI s.2.1 32 .one s.2.2 (kw ra rb s.1) (fun q=>bJ ca (du ra F G q)),aT b6 30 3 [(0, .one,one (.int .i64 ((ra:Int)+rb))),(1, .one,one (.int .i64 ca)),(2, .one,one (slV s.2.1 (kw ra rb s.1) s.2.2))],
    aT b4 30 3 (dX #[Value.int IntKind.i64 0,Value.int IntKind.i64 0,Value.slice none 0 0] [(0,Lay.one),(1,Lay.one),(2,Lay.one)])])
   (fun s=>s.1≤2) (fun s=>2 - s.1) (0,none,0) (Nat.zero_le _) Ei (.keep Ek (.keep (qq fun q hq => ?_) (.keep Ek (SubM.nilR _)))) (fun s hs => ?_)
  ·rcases List.mem_cons.1 hq with rfl | hq
   ·exact ⟨_,List.mem_cons_self,H⟩
   rcases List.mem_cons.1 hq with rfl | hq
   ·exact ⟨_,List.mem_cons_of_mem _ List.mem_cons_self,H⟩
   rcases List.mem_cons.1 hq with rfl | hq
   ·exact ⟨one (.slice none 0 0),List.mem_cons_of_mem _ (List.mem_cons_of_mem _ List.mem_cons_self),aq (by simp [kw,slV])⟩
   ·cases hq
  obtain ⟨i,sv0,cap0⟩:=s
  simp only at hs ⊢
  refine ae (ai (El (a6 Y Y) (Ep (aa (ae ?_)))))
  refine a9 Y (fun hc => ?_) (fun hc => ?_) <;> simp only [decide_eq_true_eq,decide_eq_false_iff_not] at hc
  ·have hi2:i<2:=by omega
   have hup:kw ra rb i≤2097152∧kw ra rb i+(if i=0 then ra else rb)=kw ra rb (i+1)∧kw ra rb i+(if i=0 then ra else rb)≤2097152:=by
    unfold kw
    rcases i with _ | _ | i
    ·simp;omega
    ·simp;omega
    ·omega
   have hrow : ∀ j,j<(if i=0 then ra else rb)→(if i=0 then F else G) j=du ra F G (kw ra rb i+j):=fun j hj=>by
    unfold kw du
    rcases i with _ | _ | i
    ·simp at hj ⊢; funext k;rw [if_pos hj]
    ·simp;funext k;rw [if_neg X]
    ·omega
   have hlk:=hlk1 i hi2
   have hsm:=fun j k=>hsm1 i j k
   generalize (if i=0 then F else G)=Ef at *
   generalize (if i=0 then ra else rb)=R at *
   refine az (aa (ae (au (ae (ai (El (rI Y Y hi2 hlk) ?_))))))
   unfold bW
   refine bD (T:=30) Y Y Y (fun b => ?_)
   refine a4 0 Y Y Y Y (Ep (aa (ae (ai (El (aj Y) (El (ak 0 Y Y Y) (El (aX Y) (Em Y (Ep ?_)))))))))
   refine aa (au ?_)
   refine cK (σ:=Nat × Option Nat × Nat) (fun s => [(4,one (.pointer (some ⟨b4,0,none⟩))),(6,one (.pointer (some ⟨b6,0,none⟩))),(34,bC 6 [(0, .agg 3,bW ra ca F),(3, .agg 3,bW rb ca G)]),(35,one (.int .i64 (i:Nat))),(39,slT .one R (fun q=>bJ ca (Ef q))),(40,one (.int .i64 R)),(41,one (.int .i64 (s.1:Nat)))])
    (fun s => [aI s.2.1 32 .one s.2.2 (kw ra rb i+s.1) (fun q=>bJ ca (du ra F G q)),aT b6 30 3 [(0, .one,one (.int .i64 ((ra:Int)+rb))),(1, .one,one (.int .i64 ca)),(2, .one,one (slV s.2.1 (kw ra rb i+s.1) s.2.2))],
     aT b4 30 3 (dX #[Value.int IntKind.i64 0,Value.int IntKind.i64 0,Value.slice none 0 0] [(0,Lay.one),(1,Lay.one),(2,Lay.one)])])
    (fun s=>s.1≤R) (fun s=>R - s.1) (0,sv0,cap0) (Nat.zero_le _) (by unfold bW;repeat (first | exact dI.nil | refine dI.cons Y H ?_ | (refine dI.cons Y (aq ?_) ?_;(congr 1;first | omega | (simp;omega) | simp)))) (.drop (.keep Ek (.keep Ek (SubM.refl _)))) (fun s hs2 => ?_)
   obtain ⟨j,sv1,cap1⟩:=s
   simp only at hs2 ⊢
   refine ae (ai (El (a6 Y Y) (Ep (aa (ae ?_)))))
   refine a9 Y (fun hc2 => ?_) (fun hc2 => ?_) <;> simp only [decide_eq_true_eq,decide_eq_false_iff_not,Int.ofNat_lt] at hc2
   ·refine az (aa (ae (au (ae (ai ?_)))))
    (refine El (aC Y Y ?_) ?_;omega)
    refine El (aO Y) (En Y (Ep (aa (fo 5 aZ Z S (El (aj Y) (El (ak 1 Y Y Y) (Em Y ?_)))))))
    refine El (am (pY ca 0 (Ef j) (fun _=>0) h2 S (hsm j) (fun _=>dm U)) Y ⟨H,eV,Er⟩) ?_
    have hfl:Flat (bJ (ca+0) fun k=>if k<ca then Ef j k else 0) .one:=by unfold bJ;infer_instance
    have hfl2 : ∀ q,Flat (bJ ca (du ra F G q)) .one:=fun q=>by unfold bJ;infer_instance
    refine gv Y Y Y Y (Ep ?_)
    (refine cT 0 Y Y Y (leN Y) ?_ ?_ Y (ltN Y) (fun sv cap => ?_);omega;omega)
    refine El (aj Y) (aA 1 Y Y Y Y Y (leN Y) Y (Ep (aE (aa (ai ?_)))))
    (refine El (cr Y Y (aQ ?_ ?_)) ?_;omega;omega)
    refine Em Y (Ep ?_)
    refine cd (s:=(j,sv1,cap1)) (j+1,sv,cap) (show _ from by simp only;omega) (by show R - (j+1)<R - j;omega) (by unfold bW;repeat (first | exact dI.nil | refine dI.cons Y H ?_ | (refine dI.cons Y (aq ?_) ?_;(congr 1;first | omega | (simp;omega) | simp)))) (.keep (ed fun q hq => ?_) (.keep Ek (SubM.refl _)))
    by_cases h:q<kw ra rb i+j
    ·rw [if_pos h]; exact VT.le_refl _
    ·have e:q=kw ra rb i+j:=by omega
     subst e
     rw [if_neg h, ← hrow j hc2]
     unfold bJ
     exact cC (by simp) (fun k hk=>by show aL (if k<ca then Ef j k else 0)=_;rw [if_pos X])
   ·have hj:j=R:=by omega
    subst hj
    refine aY (av (av (aF (aE (aa (ai ?_))))))
    (refine El (cr Y Y (aQ ?_ ?_)) ?_;omega;omega)
    refine Em Y (Ep ?_)
    have e:=hup.2.1
    rw [e]
    exact cd (s:=(i,sv0,cap0)) (i+1,sv1,cap1) (show _ from by simp only;omega) (by show 2 - (i+1)<2 - i;omega) (by unfold bW;repeat (first | exact dI.nil | refine dI.cons Y H ?_ | (refine dI.cons Y (aq ?_) ?_;(congr 1;first | omega | (simp;omega) | simp)))) (.keep Ek (.keep Ek (SubM.refl _)))
  ·have hi2:i=2:=by omega
   subst hi2
   refine aY (av (av (aF (aa (ae (ai (El (aN 1 Y Y) (a4 2 Y Y Y Y (En Y ?_)))))))))
   refine Ep (aa (aD ?_))
   have e2:kw ra rb 2=ra+rb:=by simp [kw]
   rw [e2]
   refine i6 [aI sv0 32 .one cap0 (ra+rb) (fun q=>bJ ca (du ra F G q))] (List.Perm.refl _) (.keep (wu.refl _) (.keep (wu.box (cs' := [(0, .one,one (.int .i64 ((ra+rb:Nat):Int))),(1, .one,one (.int .i64 ca)),(2, .one,slT .one (ra+rb) (fun q=>bJ ca (du ra F G q)))])
    (.cons List.mem_cons_self (Ent.le (aq (by simp))) (.cons (List.mem_cons_of_mem _ List.mem_cons_self) (Ent.refl _) (.cons (List.mem_cons_of_mem _ (List.mem_cons_of_mem _ List.mem_cons_self)) (Ent.sl List.mem_cons_self) .nil)))) .nil)) (wv.refl _) ?_
   refine dg Tryz.results52 (.cellW 1 Y Y ?_) (.tmp Y (aq ?_))
   ·simp only [decide_true,if_true]
    exact VT.le_refl _
   ·simp
end Tor
end
section
namespace Tor
open Go Go.RowKit Go.Proofs
attribute [local irreducible] J PJ aK one slT bR bC bv exT cj eP aT aI slV VT.le Ret bL
attribute [local irreducible] aL
theorem uo (l:List Int) (n:Nat) (hn:n≤16):Ok Tryz.prog 11 [gD .i8 l,one (.int .i64 n)] (bJ n (dig l)):=by
 refine Ok.enter Tryz.func11 Y Tryz.ntmps11 Y (fun w O => ?_)
 refine ae (ai (En Y (Ep (aa (ae (ai (Em Y (Em Y ?_))))))))
 refine El (am (oA 1 n l S hn) Y ⟨aq Y,H,H,Er⟩) ?_
 unfold bW
 refine El (u6 Y Y) ?_
 (refine El (fX Y Y ?_ ?_) ?_;omega;omega)
 refine El (aO Y) (En Y (Ep (aa (aD ?_))))
 refine aS Tryz.results11 (.tmp Y ?_)
 unfold bJ
 refine cC Y fun j hj => ?_
 simp
end Tor
end
section
namespace Tor.Lin
abbrev pv (e:ElS) (l:Nat):Nat:=e.piv.getD l 0
structure GJ (r w c:Nat) (full:Bool) (A:Nat→Nat→Int) (e:ElS) (V:Nat→Nat→Rat):Prop where
 d0:e.last≠0
 pr:e.piv.length≤r
 pc : ∀ l,l<e.piv.length→pv e l<c
 dP:(e.last:Rat)=det e.piv.length (fun a b=>(A a (pv e b):Rat))
 A2 : ∀ i,i<r → ∀ j,j<w→(A i j:Rat)=sm e.piv.length (fun k=>(A i (pv e k):Rat)*V k j)+(if i<e.piv.length then 0 else V i j)
 B3 : ∀ i,i<r → ∀ j,j<w→(full=true∨e.piv.length≤i)→(e.R i j:Rat)=(e.last:Rat)*V i j
 V4 : ∀ l,l<e.piv.length → ∀ i,i<r→V i (pv e l)=if i=l then 1 else 0
 V5 : ∀ c',c'<c → ∀ i,e.piv.length≤i→i<r→V i c'=0
 V6 : ∀ y:Nat→Rat,(∀ i,i<r→sm w (fun j=>y j*(A i j:Rat))=0) → ∀ i,i<r→sm w (fun j=>y j*V i j)=0
theorem uq {x:Int} (h:x≠0):(x:Rat)≠0:=fun e=>h (by exact_mod_cast e)
theorem GJ.int {r w c:Nat} {full:Bool} {A:Nat→Nat→Int} {d:Int} {piv:List Nat} {V:Nat→Nat→Rat}
  (dP:(d:Rat)=det piv.length (fun a b=>(A a (piv.getD b 0):Rat)))
  (A2 : ∀ i,i<r → ∀ j,j<w→(A i j:Rat)=sm piv.length (fun k=>(A i (piv.getD k 0):Rat)*V k j)+(if i<piv.length then 0 else V i j)) (pr:piv.length≤r)
  {i j:Nat} (hi:i<r) (hj:j<w) : ∃ N:Int,(N:Rat)=(d:Rat)*V i j:=by
 by_cases h:i<piv.length
 ·refine ⟨bU piv.length (fun a b=>if b=i then A a j else A a (piv.getD b 0)),?_⟩
  rw [c7,dP]
  have e:det piv.length (fun a b=>((if b=i then A a j else A a (piv.getD b 0):Int):Rat))=det piv.length (cE (fun a b=>(A a (piv.getD b 0):Rat)) i (fun a=>sm piv.length (fun l=>V l j*(A a (piv.getD l 0):Rat)))):=bG fun a b ha hb=>by
   unfold cE
   by_cases c:b=i
   ·rw [if_pos c,if_pos c,A2 a X j hj,if_pos ha,Rat.add_zero]
    exact be fun l _=>Rat.mul_comm _ _
   ·rw [if_neg c,if_neg c]
  rw [e,r5 h (fun a b=>(A a (piv.getD b 0):Rat)) (fun l=>V l j),Rat.mul_comm]
 ·refine ⟨bU (piv.length+1) (fun a b=>A (if a<piv.length then a else i) (if b<piv.length then piv.getD b 0 else j)),?_⟩
  rw [c7,dP,r6 _ (fun l=>V l j) (V i j) (fun a ha => ?_),Rat.mul_comm]
  ·congr 1
   exact bG fun a b ha hb=>by rw [if_pos ha,if_pos hb]
  ·rw [if_neg (Nat.lt_irrefl _)]
   by_cases c:a<piv.length
   ·rw [if_pos c,if_neg (show a≠piv.length by omega),A2 a X j hj,if_pos c]
    congr 1
    exact be fun l hl=>by rw [if_pos hl]; exact Rat.mul_comm _ _
   ·rw [if_neg c,if_pos (show a=piv.length by omega),A2 i hi j hj,if_neg h]
    congr 1
    exact be fun l hl=>by rw [if_pos hl]; exact Rat.mul_comm _ _
theorem GJ.start {r w:Nat} {full:Bool} (A:Nat→Nat→Int):GJ r w 0 full A ⟨A,1,false, []⟩ (fun i j=>(A i j:Rat)) where
 d0:=(by decide:(1:Int)≠0)
 pr:=Nat.zero_le _
 pc:=fun l h=>absurd h (Nat.not_lt_zero _)
 dP:=rfl
 A2:=fun i hi j hj=>by
  show (A i j:Rat)=0+(if i<0 then 0 else (A i j:Rat))
  rw [if_neg (Nat.not_lt_zero _)]; grind
 B3:=fun i hi j hj _=>by
  show (A i j:Rat)=((1:Int):Rat)*(A i j:Rat)
  have:((1:Int):Rat)=1:=rfl
  rw [this]; grind
 V4:=fun l h=>absurd h (Nat.not_lt_zero _)
 V5:=fun c' h=>absurd h (Nat.not_lt_zero _)
 V6:=fun y h=>h
theorem GJ.skip {r w c:Nat} {full:Bool} {A:Nat→Nat→Int} {e:ElS} {V:Nat→Nat→Rat} (h:GJ r w c full A e V) (hc:c<w) (h0 : ∀ q,e.piv.length≤q→q<r→e.R q c=0):GJ r w (c+1) full A e V :=
 ⟨h.d0,h.pr,fun l hl=>Nat.lt_succ_of_lt (h.pc l hl),h.dP,h.A2,h.B3,h.V4,fun c' hc' i h1 h2=>by
  by_cases e1:c'=c
  ·subst e1
   have:=h.B3 i h2 c' hc (.inr h1)
   rw [h0 i h1 h2] at this
   have hd:=uq h.d0
   have h3:((0:Int):Rat)=0:=rfl
   rw [h3] at this
   grind
  ·exact h.V5 c' X i h1 h2,h.V6⟩
theorem GJ.swap {r w c:Nat} {full:Bool} {A:Nat→Nat→Int} {e:ElS} {V:Nat→Nat→Rat} (h:GJ r w c full A e V) {i:Nat} (hp:e.piv.length<r) (hk:e.piv.length≤i) (hi:i<r) (odd:Bool) :
  GJ r w c full (Tor.swp i e.piv.length A) ⟨Tor.swp i e.piv.length e.R,e.last,odd,e.piv⟩ (Tor.swp i e.piv.length V):=by
 have low : ∀ {α:Type} (φ:Nat→α) (q:Nat),q<e.piv.length→Tor.swp i e.piv.length φ q=φ q:=fun φ q hq=>by
  unfold Tor.swp;rw [if_neg X,if_neg X]
 have val : ∀ q,q<r → ∃ q',q'<r∧(q<e.piv.length↔q'<e.piv.length)∧(q<e.piv.length→q'=q) ∧ ∀ {α:Type} (φ:Nat→α),Tor.swp i e.piv.length φ q=φ q':=fun q hq=>by
  by_cases h1:q=i
  ·exact ⟨e.piv.length,hp,by omega,by omega,fun φ=>by unfold Tor.swp;rw [if_pos h1]⟩
  ·by_cases h2:q=e.piv.length
   ·exact ⟨i,hi,by omega,by omega,fun φ=>by unfold Tor.swp;rw [if_neg h1,if_pos h2]⟩
   ·exact ⟨q,hq,Iff.rfl,fun _=>rfl,fun φ=>by unfold Tor.swp;rw [if_neg h1,if_neg h2]⟩
 refine ⟨h.d0,h.pr,h.pc,?_,fun q hq j hj => ?_,fun q hq j hj hf => ?_,fun l hl q hq => ?_,fun c' hc' q h1 h2 => ?_,fun y hy q hq => ?_⟩
 ·show (e.last:Rat)=_
  rw [h.dP]
  exact bG fun a b ha hb=>by rw [low A a ha]
 ·obtain ⟨q',h1,h2,h3,h4⟩:=val q hq
  show ((Tor.swp i e.piv.length A q j:Int):Rat)=sm e.piv.length (fun k=>((Tor.swp i e.piv.length A q (pv e k):Int):Rat)*Tor.swp i e.piv.length V k j)+(if q<e.piv.length then 0 else Tor.swp i e.piv.length V q j)
  rw [h4 A,h4 V,h.A2 q' h1 j hj]
  congr 1
  ·exact be fun k hk'=>by rw [low V k hk']
  ·by_cases c:q<e.piv.length
   ·rw [if_pos c,if_pos (h2.1 c)]
   ·rw [if_neg c,if_neg (fun k=>c (h2.2 k))]
 ·obtain ⟨q',h1,h2,h3,h4⟩:=val q hq
  show ((Tor.swp i e.piv.length e.R q j:Int):Rat)=(e.last:Rat)*Tor.swp i e.piv.length V q j
  rw [h4 e.R,h4 V]
  exact h.B3 q' h1 j hj (hf.imp id fun k=>by
   have k:e.piv.length≤q:=k
   omega)
 ·obtain ⟨q',h1,h2,h3,h4⟩:=val q hq
  have hl:l<e.piv.length:=hl
  show Tor.swp i e.piv.length V q (pv e l)=_
  rw [h4 V,h.V4 l hl q' h1]
  by_cases c:q<e.piv.length
  ·rw [h3 c]
  ·rw [if_neg X,if_neg X]
 ·obtain ⟨q',h3,h4,h5,h6⟩:=val q h2
  have h1:e.piv.length≤q:=h1
  show Tor.swp i e.piv.length V q c'=0
  rw [h6 V]
  exact h.V5 c' hc' q' X h3
 ·obtain ⟨q',h1,h2,h3,h4⟩:=val q hq
  show sm w (fun j=>y j*Tor.swp i e.piv.length V q j)=0
  rw [h4 V]
  refine h.V6 y (fun k hk' => ?_) q' h1
  obtain ⟨k',g1,g2,g3,g4⟩:=val k hk'
  have hb : ∃ q0,q0<r∧Tor.swp i e.piv.length A q0=A k:=by
   by_cases c1:k=i
   ·exact ⟨e.piv.length,hp,by rw [gT,c1]⟩
   ·by_cases c2:k=e.piv.length
    ·exact ⟨i,hi,by unfold Tor.swp;rw [if_pos Y,c2]⟩
    ·exact ⟨k,hk',by unfold Tor.swp;rw [if_neg c1,if_neg c2]⟩
  obtain ⟨q0,g5,g6⟩:=hb
  rw [← g6]; exact hy q0 g5
theorem jR {l:List Nat} {c k:Nat} (h:k<l.length):(l ++ [c]).getD k 0=l.getD k 0:=by
 simp [List.getD,List.getElem?_append_left h]
theorem fV (l:List Nat) (c:Nat):(l ++ [c]).getD l.length 0=c:=by simp [List.getD]
theorem GJ.step {r w c:Nat} {full:Bool} {A:Nat→Nat→Int} {e:ElS} {V:Nat→Nat→Rat} (h:GJ r w c full A e V) (hc:c<w) (hp:e.piv.length<r) (hn:e.R e.piv.length c≠0) (odd:Bool) :
  GJ r w (c+1) full A ⟨gk e.piv.length c e.last full e.R,e.R e.piv.length c,odd,e.piv ++ [c]⟩ (fun i j=>if i=e.piv.length then V i j / V i c else V i j - V i c*(V e.piv.length j / V e.piv.length c))∧V e.piv.length c≠0:=by
 have hd:=uq h.d0
 have hpc:=h.B3 e.piv.length hp c hc (.inr (Nat.le_refl _))
 have hnq:=uq hn
 have hv:V e.piv.length c≠0:=fun k=>hnq (by rw [hpc,k]; grind)
 refine ⟨?_,hv⟩
 generalize hV':(fun i j=>if i=e.piv.length then V i j / V i c else V i j - V i c*(V e.piv.length j / V e.piv.length c))=V'
 have hlen:(e.piv ++ [c]).length=e.piv.length+1:=by simp
 have vp : ∀ j,V' e.piv.length j=V e.piv.length j / V e.piv.length c:=fun j=>by rw [← hV']; simp only [if_pos]
 have vi : ∀ i j,i≠e.piv.length→V' i j=V i j - V i c*V' e.piv.length j:=fun i j hi=>by rw [vp, ← hV']; simp only [if_neg hi]
 have vpm : ∀ j,V e.piv.length j=V e.piv.length c*V' e.piv.length j:=fun j=>by rw [vp]; grind
 have hA2 : ∀ i,i<r → ∀ j,j<w→(A i j:Rat)=sm (e.piv ++ [c]).length (fun k=>(A i ((e.piv ++ [c]).getD k 0):Rat)*V' k j)+(if i<(e.piv ++ [c]).length then 0 else V' i j):=fun i hi j hj=>by
  rw [hlen,sm,fV]
  have e1:sm e.piv.length (fun k=>(A i ((e.piv ++ [c]).getD k 0):Rat)*V' k j)=sm e.piv.length (fun k=>(A i (pv e k):Rat)*V k j) - sm e.piv.length (fun k=>(A i (pv e k):Rat)*V k c)*V' e.piv.length j:=by
   rw [← io, ← mq]
   exact be fun k hk=>by rw [jR hk,vi k j X]; grind
  rw [e1]
  have a1:=h.A2 i hi j hj
  have a2:=h.A2 i hi c hc
  by_cases c1:i<e.piv.length
  ·rw [if_pos c1] at a1 a2
   rw [if_pos X]
   grind
  ·rw [if_neg c1] at a1 a2
   by_cases c2:i=e.piv.length
   ·subst c2
    rw [if_pos X]
    have:=vpm j
    grind
   ·rw [if_neg X,vi i j c2]
    grind
 have hdP:((e.R e.piv.length c:Int):Rat)=det (e.piv ++ [c]).length (fun a b=>(A a ((e.piv ++ [c]).getD b 0):Rat)):=by
  rw [hlen,r6 _ (fun l=>V l c) (V e.piv.length c) (fun a ha => ?_),hpc,h.dP,Rat.mul_comm]
  ·congr 1
   exact bG fun a b ha hb=>by rw [jR hb]
  ·rw [fV,h.A2 a X c hc]
   have e2:sm e.piv.length (fun k=>(A a (pv e k):Rat)*V k c)=sm e.piv.length (fun l=>V l c*(A a ((e.piv ++ [c]).getD l 0):Rat)):=be fun l hl=>by rw [jR hl]; exact Rat.mul_comm _ _
   rw [e2]
   congr 1
   by_cases c1:a<e.piv.length
   ·rw [if_pos c1,if_neg X]
   ·rw [if_neg c1,if_pos X,show a=e.piv.length by omega]
 refine ⟨hn,by rw [hlen]; exact hp,fun l hl => ?_,hdP,hA2,fun i hi j hj hf => ?_,fun l hl i hi => ?_,fun c' hc' i h1 h2 => ?_,fun y hy i hi => ?_⟩
 ·have hl:l<(e.piv ++ [c]).length:=hl
  show (e.piv ++ [c]).getD l 0<c+1
  rw [hlen] at hl
  by_cases c1:l<e.piv.length
  ·rw [jR c1]; exact Nat.lt_succ_of_lt (h.pc l c1)
  ·rw [show l=e.piv.length by omega,fV]; omega
 ·have hf:full=true∨(e.piv ++ [c]).length≤i:=hf
  show ((Tor.gk e.piv.length c e.last full e.R i j:Int):Rat)=((e.R e.piv.length c:Int):Rat)*V' i j
  unfold Tor.gk
  by_cases c1:i=e.piv.length
  ·subst c1
   rw [if_neg (by simp),hpc,vp,h.B3 _ hp j hj (.inr (Nat.le_refl _))]
   grind
  ·have hf':full=true∨e.piv.length≤i:=hf.imp id fun k=>by omega
   rw [if_pos (by
    rcases Nat.lt_or_ge e.piv.length i with h1 | h1
    ·simp [h1]
    ·rcases hf with h2 | h2
     ·have:i<e.piv.length:=by omega
      simp [h2,this]
     ·omega)]
   obtain ⟨N,hN⟩:=GJ.int (c:=c) (full:=full) hdP hA2 X hi hj
   have key:e.R e.piv.length c*e.R i j - e.R i c*e.R e.piv.length j=e.last*N:=by
    have:((e.R e.piv.length c*e.R i j - e.R i c*e.R e.piv.length j:Int):Rat)=((e.last*N:Int):Rat):=by
     rw [Rat.intCast_sub,Rat.intCast_mul,Rat.intCast_mul,Rat.intCast_mul,hN,hpc,h.B3 i hi j hj hf',h.B3 i hi c hc hf',h.B3 _ hp j hj (.inr (Nat.le_refl _)),vi i j c1]
     have:=vpm j
     grind
    exact_mod_cast this
   unfold jr
   rw [key,Int.mul_ediv_cancel_left _ h.d0,hN]
 ·have hl:l<(e.piv ++ [c]).length:=hl
  show V' i ((e.piv ++ [c]).getD l 0)=_
  rw [hlen] at hl
  by_cases c1:l<e.piv.length
  ·rw [jR c1]
   have v1:=h.V4 l c1 e.piv.length hp
   rw [if_neg X] at v1
   by_cases c2:i=e.piv.length
   ·subst c2
    rw [vp,v1,if_neg X]; grind
   ·rw [vi i _ c2,vp,v1,h.V4 l c1 i hi]
    split <;> grind
  ·rw [show l=e.piv.length by omega,fV]
   by_cases c2:i=e.piv.length
   ·subst c2
    rw [vp,if_pos Y]; grind
   ·rw [vi i _ c2,vp,if_neg c2]; grind
 ·have h1:(e.piv ++ [c]).length≤i:=h1
  rw [hlen] at h1
  rw [vi i c' X,vp]
  by_cases c1:c'=c
  ·subst c1;grind
  ·rw [h.V5 c' X i X h2,h.V5 c' X e.piv.length (Nat.le_refl _) hp]; grind
 ·have z:=h.V6 y hy
  have zp:sm w (fun j=>y j*V' e.piv.length j)=0:=by
   rw [be (g:=fun j=>y j*V e.piv.length j*(1 / V e.piv.length c)) (fun j _=>by rw [vp]; grind),io,z _ hp]; grind
  by_cases c2:i=e.piv.length
  ·rw [c2]; exact zp
  ·rw [be (g:=fun j=>y j*V i j - y j*V' e.piv.length j*V i c) (fun j _=>by rw [vi i j c2]; grind),mq,io,zp,z i hi]; grind
end Tor.Lin
end
section
namespace Tor.Lin
def mZ (r w:Nat) (F:Nat→Nat→Int) (c:Nat):Prop := ¬ ∃ y:Nat→Rat,y c=1∧(∀ j,c<j→y j=0) ∧ ∀ i,i<r→sm w (fun j=>y j*(F i j:Rat))=0
open Classical in
noncomputable def lX (r w:Nat) (F:Nat→Nat→Int) (n:Nat):List Nat:=(List.range n).filter fun c=>decide (mZ r w F c)
theorem pf {r w:Nat} {F:Nat→Nat→Int} {n:Nat} (h:mZ r w F n):lX r w F (n+1)=lX r w F n ++ [n]:=by
 unfold lX;rw [List.range_succ,List.filter_append]; simp [h]
theorem pg {r w:Nat} {F:Nat→Nat→Int} {n:Nat} (h : ¬ mZ r w F n):lX r w F (n+1)=lX r w F n:=by
 unfold lX;rw [List.range_succ,List.filter_append]; simp [h]
structure EL (r w c:Nat) (full:Bool) (F:Nat→Nat→Int) (e:ElS) (A:Nat→Nat→Int) (V:Nat→Nat→Rat):Prop where
 gj:GJ r w c full A e V
 p1 : ∀ i,i<r → ∃ k,k<r∧A i=F k
 p2 : ∀ k,k<r → ∃ i,i<r∧A i=F k
 sg:det r (fun i j=>(A i j:Rat))=(if e.odd then -1 else 1)*det r (fun i j=>(F i j:Rat))
 pl:e.piv=lX r w F c
theorem EL.rel {r w c:Nat} {full:Bool} {F:Nat→Nat→Int} {e:ElS} {A:Nat→Nat→Int} {V:Nat→Nat→Rat} (h:EL r w c full F e A V) {P:(Nat→Int)→Prop} : (∀ i,i<r→P (A i))↔(∀ i,i<r→P (F i)):=by
 constructor
 ·intro Ef k hk;obtain ⟨i,hi,e⟩:=h.p2 k hk;rw [← e]; exact Ef i hi
 ·intro Ef i hi;obtain ⟨k,hk,e⟩:=h.p1 i hi;rw [e]; exact Ef k hk
theorem CT {r w c:Nat} {full:Bool} {F:Nat→Nat→Int} {e:ElS} {A:Nat→Nat→Int} {V:Nat→Nat→Rat} (h:EL r w c full F e A V) (hc:c<w) (h0 : ∀ q,e.piv.length≤q→q<r→e.R q c=0) : ¬ mZ r w F c:=by
 intro hn
 have g':=h.gj.skip hc h0
 have hp : ∀ k,k<e.piv.length→pv e k<c:=h.gj.pc
 refine hn ⟨fun j=>(if j=c then 1 else 0) - sm e.piv.length (fun k=>if j=pv e k then V k c else 0),?_,fun j hj => ?_,?_⟩
 ·show (if c=c then (1:Rat) else 0) - _=1
  rw [if_pos Y,ip (fun k hk=>by rw [if_neg]; have:=hp k hk;omega)]; grind
 ·show (if j=c then (1:Rat) else 0) - _=0
  rw [if_neg X,ip (fun k hk=>by rw [if_neg]; have:=hp k hk;omega)]; grind
 ·refine (h.rel (P:=fun a=>sm w (fun j=>((if j=c then 1 else 0) - sm e.piv.length (fun k=>if j=pv e k then V k c else 0))*(a j:Rat))=0)).1 (fun i hi => ?_)
  have a2:=h.gj.A2 i hi c hc
  have a3:(if i<e.piv.length then 0 else V i c)=0:=by
   split
   ·rfl
   ·exact g'.V5 c X i X hi
  rw [a3] at a2
  have e1:sm w (fun j=>((if j=c then 1 else 0) - sm e.piv.length (fun k=>if j=pv e k then V k c else 0))*(A i j:Rat))=sm w (fun j=>(if j=c then (A i j:Rat) else 0)) - sm w (fun j=>sm e.piv.length (fun k=>if j=pv e k then V k c*(A i j:Rat) else 0)):=by
   rw [← mq]
   refine be fun j _ => ?_
   have e2:sm e.piv.length (fun k=>if j=pv e k then V k c*(A i j:Rat) else 0)=sm e.piv.length (fun k=>if j=pv e k then V k c else 0)*(A i j:Rat):=by
    rw [← io]; exact be fun k _=>by split <;> grind
   rw [e2]; split <;> grind
  rw [e1,mr hc,qP]
  have e3:sm e.piv.length (fun k=>sm w (fun j=>if j=pv e k then V k c*(A i j:Rat) else 0))=sm e.piv.length (fun k=>(A i (pv e k):Rat)*V k c):=be fun k hk=>by
   rw [mr (by have:=hp k hk;omega) (fun j=>V k c*(A i j:Rat))]; exact Rat.mul_comm _ _
  rw [e3]; grind
theorem CU {r w c:Nat} {full:Bool} {F:Nat→Nat→Int} {e:ElS} {A:Nat→Nat→Int} {V:Nat→Nat→Rat} (h:GJ r w c full A e V) (p2 : ∀ k,k<r → ∃ i,i<r∧A i=F k) (p1 : ∀ i,i<r → ∃ k,k<r∧A i=F k) (hc:c<w) (hp:e.piv.length<r) (hv:V e.piv.length c≠0):mZ r w F c:=by
 rintro ⟨y,y1,y2,y3⟩
 have z:=h.V6 y (fun i hi=>by obtain ⟨k,hk,ek⟩:=p1 i hi;rw [ek]; exact y3 k hk) _ hp
 rw [gR hc (fun j hj hne=>by
  rcases Nat.lt_or_ge j c with h1 | h1
  ·rw [h.V5 j h1 _ (Nat.le_refl _) hp]; grind
  ·rw [y2 j X]; grind),y1] at z
 exact hv (by grind)
theorem CV {i p:Nat} (A:Nat→Nat→Int):(fun a b=>((Tor.swp i p A a b:Int):Rat))=tw (fun a b=>(A a b:Rat)) i p (fun b=>(A p b:Rat)) (fun b=>(A i b:Rat)):=by
 funext a b
 unfold Tor.swp tw
 by_cases h1:a=i
 ·rw [if_pos h1,if_pos h1]
 ·rw [if_neg h1,if_neg h1]
  by_cases h2:a=p
  ·rw [if_pos h2,if_pos h2]
  ·rw [if_neg h2,if_neg h2]
theorem rd (r w:Nat) (full:Bool) (F:Nat→Nat→Int) : ∀ c,c≤w → ∃ A V,EL r w c full F (elN r full F c) A V
 | 0, _ => ⟨F, _, GJ.start F, fun i hi => ⟨i, hi, rfl⟩, fun k hk => ⟨k, hk, rfl⟩, by show _ = (if false = true then (-1 : Rat) else 1) * _; rw [if_neg (by simp)]; grind, rfl⟩
 | c + 1, hc => by
  obtain ⟨A,V,h⟩:=rd r w full F c X
  show ∃ A V,EL r w (c+1) full F (elR r full c (elN r full F c)) A V
  generalize elN r full F c=e at h
  rcases rZ e.R c e.piv.length r with h0 | ⟨i,hk,hi,h0,hn⟩
  ·rw [oa h0]
   exact ⟨A,V,h.gj.skip X h0,h.p1,h.p2,h.sg,by rw [pg (CT h X h0)]; exact h.pl⟩
  ·have hp:e.piv.length<r:=by omega
   rw [ob hp hk hi h0 hn]
   have hs:=h.gj.swap hp hk hi (xor e.odd (decide (i≠e.piv.length)))
   obtain ⟨st,hv⟩:=hs.step X hp (by show Tor.swp i e.piv.length e.R e.piv.length c≠0;rw [gT]; exact hn) (xor e.odd (decide (i≠e.piv.length)))
   have q1 : ∀ q,q<r → ∃ k,k<r∧Tor.swp i e.piv.length A q=F k:=fun q hq=>by
    unfold Tor.swp;split
    ·exact h.p1 _ hp
    ·split
     ·exact h.p1 _ hi
     ·exact h.p1 q hq
   have q2 : ∀ k,k<r → ∃ q,q<r∧Tor.swp i e.piv.length A q=F k:=fun k hk'=>by
    obtain ⟨q,hq,eq⟩:=h.p2 k hk'
    by_cases c1:q=i
    ·exact ⟨e.piv.length,hp,by rw [gT, ← c1]; exact eq⟩
    ·by_cases c2:q=e.piv.length
     ·exact ⟨i,hi,by unfold Tor.swp;rw [if_pos Y, ← c2]; exact eq⟩
     ·exact ⟨q,hq,by unfold Tor.swp;rw [if_neg c1,if_neg c2]; exact eq⟩
   refine ⟨_,_,st,q1,q2,?_,?_⟩
   ·show det r (fun a b=>((Tor.swp i e.piv.length A a b:Int):Rat))=(if (xor e.odd (decide (i≠e.piv.length)))=true then (-1:Rat) else 1)*_
    by_cases c1:i=e.piv.length
    ·rw [← c1,gS,h.sg]; simp
    ·rw [CV,rW fT c1 hi hp,h.sg]
     cases e.odd <;> simp [c1] <;> grind
   ·show e.piv ++ [c]=lX r w F (c+1)
    rw [pf (CU hs q2 q1 X hp hv), ← h.pl]
theorem vQ {n c:Nat} {F:Nat→Nat→Rat} {y:Nat→Rat} (hc:c<n) (h1:y c=1) (h : ∀ i,i<n→sm n (fun j=>y j*F i j)=0):det n F=0:=by
 have e:det n F=det n (cE F c (fun a=>sm n (fun l=>(if l=c then 0 else - y l)*F a l))):=bG fun i j hi hj=>by
  unfold cE
  by_cases hj':j=c
  ·rw [if_pos hj',hj']
   have e1:sm n (fun l=>(if l=c then 0 else - y l)*F i l)=sm n (fun l=>(if l=c then F i l else 0)) - sm n (fun l=>y l*F i l):=by
    rw [← mq]
    exact be fun l _=>by
     by_cases hl:l=c
     ·rw [if_pos hl,if_pos hl,hl,h1]; grind
     ·rw [if_neg hl,if_neg hl]; grind
   show F i c=sm n (fun l=>(if l=c then 0 else - y l)*F i l)
   rw [e1,mr hc,h i hi]; grind
  ·rw [if_neg hj']
 rw [e,r5 hc F (fun l=>if l=c then 0 else - y l),if_pos Y]; grind
theorem ur {α:Type} {p:α→Bool} {l:List α} (h : ¬ (l.filter p).length<l.length):l.filter p=l:=by
 have h1:=List.length_filter_le p l
 exact List.filter_eq_self.2 (List.length_filter_eq_length_iff.1 X)
theorem p6 {r w n:Nat} {F:Nat→Nat→Int} (h : ¬ (lX r w F n).length<n):lX r w F n=List.range n:=by
 unfold lX at *
 have:=ur (l:=List.range n) (p:=fun c => @decide (mZ r w F c) (Classical.propDecidable _)) (by rw [List.length_range]; exact h)
 exact this
theorem oC {r w n:Nat} {F:Nat→Nat→Int} (h:(lX r w F n).length<n) : ∃ c,c<n ∧ ¬ mZ r w F c:=by
 refine Classical.byContradiction fun hn => ?_
 have:lX r w F n=List.range n:=by
  unfold lX
  rw [List.filter_eq_self]
  intro c hc
  have h1:mZ r w F c:=Classical.byContradiction fun k=>hn ⟨c,List.mem_range.1 hc,k⟩
  simp [h1]
 rw [this,List.length_range] at h
 omega
def ze (r:Nat) (F:Nat→Nat→Int):Int:=if (elN r false F r).piv.length<r then 0 else if (elN r false F r).odd then -(elN r false F r).last else (elN r false F r).last
theorem vR (r:Nat) (F:Nat→Nat→Int):ze r F=bU r F:=by
 have key:((ze r F:Int):Rat)=((bU r F:Int):Rat):=by
  rw [c7]
  obtain ⟨A,V,h⟩:=rd r r false F r (Nat.le_refl _)
  unfold ze
  split
  ·rename_i hp
   rw [h.pl] at hp
   obtain ⟨c,hc,hn⟩:=oC hp
   obtain ⟨y,y1,y2,y3⟩:=Classical.not_not.1 hn
   rw [vQ hc y1 y3]; rfl
  ·rename_i hp
   have hl:(elN r false F r).piv.length=r:=by have:=h.gj.pr;omega
   have hr:=p6 (by rw [← h.pl]; exact hp)
   have hd:=h.gj.dP
   rw [hl] at hd
   have e1:det r (fun a b=>(A a (pv (elN r false F r) b):Rat))=det r (fun a b=>(A a b:Rat)):=bG fun a b ha hb=>by
    show ((A a ((elN r false F r).piv.getD b 0):Int):Rat)=_
    rw [h.pl,hr]
    simp [List.getD,hb]
   rw [e1,h.sg] at hd
   cases ho:(elN r false F r).odd
   ·rw [ho] at hd
    simp at hd ⊢
    rw [hd]
   ·rw [ho] at hd
    simp at hd ⊢
    rw [hd]; grind
 exact_mod_cast key
end Tor.Lin
end
section
namespace Tor
open Go Go.RowKit Go.Proofs
theorem Bg (i k:Nat) (φ:Nat→VT) (h:i≠k):upd (upd φ i (φ k)) k (φ i)=swp i k φ:=by
 funext q;unfold upd swp
 by_cases h1:q=k
 ·subst h1;rw [if_pos Y,if_neg (fun e=>h e.symm),if_pos Y]
 ·rw [if_neg h1]; by_cases h2:q=i
  ·rw [if_pos h2,if_pos h2]
  ·rw [if_neg h2,if_neg h2,if_neg h1]
abbrev eJ (b:Nat) (sv:Option Nat) (r cap:Nat) (last:Int) (odd:Bool) (ψ:VT):Own:=aT b 117 5 [(0, .one,one (slV sv r cap)),(1, .agg 2,aL last),(3, .one,one (.bool odd)),(4, .one, ψ)]
attribute [local irreducible] J PJ aK one slT bR bC bv exT cj eP aT aI slV VT.le Ret bL
attribute [local irreducible] aL
theorem Bh (b bs r cap:Nat) (last:Int) (odd:Bool) (ψ:VT) (φ:Nat→VT) [hF : ∀ i,Flat (φ i) .one] (i k:Nat) (hi:i<r) (hk:k<r) (hne:(i:Int)≠(k:Int)) :
  OkI Tryz.prog 126 [one (.pointer (some ⟨b,0,none⟩)),one (.int .i64 (i:Nat)),one (.int .i64 (k:Nat))] [eJ b (some bs) r cap last odd ψ,aI (some bs) 32 .one cap r φ]
   (fun _:Unit=>bv []) (fun _ => [eJ b (some bs) r cap last (!odd) ψ,aI (some bs) 32 .one cap r (swp i k φ)]):=by
 refine OkI.enter Tryz.func126 Y Tryz.ntmps126 Y (fun w O => ?_)
 refine ae (ai (Em Y (Em Y (El (sT (by assumption) (dy Y Y)) (Ep (aa (aG Y (ae ?_))))))))
 refine iD (Γ1 := [(0,one (.pointer (some ⟨b,0,none⟩)))]) (M1 := [eJ b (some bs) r cap last odd ψ,aI (some bs) 32 .one cap r (upd (upd φ i (φ k)) k (φ i))]) 24 5 [9] [] aZ Z S ?_ ?_
 ·refine Em Y (El (bH Y) (El (aj Y) (El (ak 0 Y Y Y) (Em Y (Em Y (El (bH Y) (El (aj Y) (El (ak 0 Y Y Y) (Em Y ?_)))))))))
  refine Em Y (El (bH Y) (El (aj Y) (El (ak 0 Y Y Y) (Em Y (El (ao Y Y X) (El (bg 1 Y Y X) (Em Y (El (bH Y) (El (aj Y) ?_)))))))))
  refine El (ak 0 Y Y Y) (Em Y (El (ao Y Y X) (El (bg 1 Y Y X) (Ep ?_))))
  refine yr (Γe := [(0,_),(12,_),(13,_),(25,_),(17,_),(32,_),(2,_)]) (Γe' := [(0,_),(12,_),(13,_),(25,_),(17,_),(32,_),(18,_)]) (rem := [24,25,26,27]) Y Ej Y Ej Y ?_ ?_
  ·refine bM (rem' := [24,25,26,27]) (rem'' := [9,25,26,27]) (i:=9) (j:=24) Z Y Y Y Y ?_ ?_ iC.nil
   refine Em Y (Ep ?_)
   refine ⟨rfl,?_⟩
   refine an (rem' := [25,26,27]) (i:=24) Z Y Y ?_ iC.nil
   refine El (ao Y Y X) (Ep ?_)
   refine ⟨rfl,?_⟩
   refine an (rem' := [26,27]) (i:=25) Z Y Y ?_ iC.nil
   (refine aw 1 Y Y Y ?_ Y ?_;omega)
   refine Ep ?_
   refine ⟨rfl,?_⟩
   refine an (rem' := [27]) (i:=26) Z Y Y ?_ iC.nil
   refine El (ao Y Y X) (Ep ?_)
   refine ⟨rfl,?_⟩
   refine an (rem' := []) (i:=27) Z Y Y ?_ iC.nil
   (refine aw 1 Y Y Y ?_ Y ?_;omega)
   refine Ep ?_
   refine ⟨rfl,?_⟩
   refine aU Ej (SubM.refl _) iC.nil
   refine El (ao Y Y X) (Ep ?_)
   refine ⟨rfl,?_⟩
   refine bM (rem' := [25,26,27]) (rem'' := [9,26,27]) (i:=9) (j:=25) Z Y Y Y Y ?_ ?_ iC.nil
   refine Em Y (Ep ?_)
   refine ⟨rfl,?_⟩
   refine an (rem' := [26,27]) (i:=25) Z Y Y ?_ iC.nil
   (refine aw 1 Y Y Y ?_ Y ?_;omega)
   refine Ep ?_
   refine ⟨rfl,?_⟩
   refine an (rem' := [27]) (i:=26) Z Y Y ?_ iC.nil
   refine El (ao Y Y X) (Ep ?_)
   refine ⟨rfl,?_⟩
   refine an (rem' := []) (i:=27) Z Y Y ?_ iC.nil
   (refine aw 1 Y Y Y ?_ Y ?_;omega)
   refine Ep ?_
   refine ⟨rfl,?_⟩
   refine aU Ej (SubM.refl _) iC.nil
   (refine aw 1 Y Y Y ?_ Y ?_;omega)
   refine Ep ?_
   refine ⟨rfl,?_⟩
   refine an (rem' := [26,27]) (i:=9) Z Y Y ?_ iC.nil
   refine Em Y (Ep ?_)
   refine ⟨rfl,?_⟩
   refine an (rem' := [27]) (i:=26) Z Y Y ?_ iC.nil
   refine El (ao Y Y X) (Ep ?_)
   refine ⟨rfl,?_⟩
   refine an (rem' := []) (i:=27) Z Y Y ?_ iC.nil
   (refine aw 1 Y Y Y ?_ Y ?_;omega)
   refine Ep ?_
   refine ⟨rfl,?_⟩
   refine aU Ej (SubM.refl _) iC.nil
  ·refine an (rem' := [25,26,27]) (i:=24) Z Y Y ?_ iC.nil
   refine El (ao Y Y X) (Ep ?_)
   refine ⟨rfl,?_⟩
   refine an (rem' := [26,27]) (i:=25) Z Y Y ?_ iC.nil
   (refine aw 1 Y Y Y ?_ Y ?_;omega)
   refine Ep ?_
   refine ⟨rfl,?_⟩
   refine an (rem' := [27]) (i:=26) Z Y Y ?_ iC.nil
   refine El (ao Y Y X) (Ep ?_)
   refine ⟨rfl,?_⟩
   refine an (rem' := []) (i:=27) Z Y Y ?_ iC.nil
   (refine aw 1 Y Y Y ?_ Y ?_;omega)
   refine Ep ?_
   refine ⟨rfl,?_⟩
   refine aU Ej (SubM.refl _) iC.nil
 ·rw [Bg i k φ X]
  refine aa (ai (Em Y (Em Y (El (bH Y) (El (aj Y) (El (ak 0 Y Y Y) (El (cS Y) (El (bH Y) (El (aj Y) ?_)))))))))
  refine aA 0 Y Y Y Y Y (leN Y) Y (Ep (ja ?_))
  exact lA (σ:=Unit) (ψ:=fun _=>bv []) () Tryz.results126 H (SubM.refl _)
theorem zf (b bs r cap:Nat) (last:Int) (odd:Bool) (ψ:VT) (φ:Nat→VT) [hF : ∀ i,Flat (φ i) .one] (i:Nat) (hi:i<r) :
  OkI Tryz.prog 126 [one (.pointer (some ⟨b,0,none⟩)),one (.int .i64 (i:Nat)),one (.int .i64 (i:Nat))] [eJ b (some bs) r cap last odd ψ,aI (some bs) 32 .one cap r φ]
   (fun _:Unit=>bv []) (fun _ => [eJ b (some bs) r cap last odd ψ,aI (some bs) 32 .one cap r φ]):=by
 refine OkI.enter Tryz.func126 Y Tryz.ntmps126 Y (fun w O => ?_)
 refine ae (ai (Em Y (Em Y (El (sF X (dy Y Y)) (Ep (aa (aB Y (az (ja ?_)))))))))
 exact lA (σ:=Unit) (ψ:=fun _=>bv []) () Tryz.results126 H (SubM.refl _)
theorem zg (b bs r cap:Nat) (last:Int) (odd:Bool) (ψ:VT) (φ:Nat→VT) [hF : ∀ i,Flat (φ i) .one] (i k:Nat) (hi:i<r) (hk:k<r) :
  OkI Tryz.prog 126 [one (.pointer (some ⟨b,0,none⟩)),one (.int .i64 (i:Nat)),one (.int .i64 (k:Nat))] [eJ b (some bs) r cap last odd ψ,aI (some bs) 32 .one cap r φ]
   (fun _:Unit=>bv []) (fun _ => [eJ b (some bs) r cap last (xor odd (decide (i≠k))) ψ,aI (some bs) 32 .one cap r (swp i k φ)]):=by
 by_cases h:i=k
 ·subst h
  rw [gS,show xor odd (decide (i≠i))=odd by simp]
  exact zf b bs r cap last odd ψ φ i hi
 ·rw [show xor odd (decide (i≠k)) = !odd by simp [h]]
  exact Bh b bs r cap last odd ψ φ i k hi hk X
end Tor
end
section
namespace Tor
open Go Go.RowKit Go.Proofs
abbrev jg (w:Nat) (f:Nat→Nat):VT:=slT .one w (fun j=>one (.int .u64 (f j:Nat)))
abbrev w6 (p n w:Nat) (W:Nat→Nat→Nat):VT:=bC 3 [(0, .one,one (.int .u64 (p:Nat))),(1, .one,one (.int .i64 (w:Nat))),(2, .one,slT .one n (fun i=>jg w (W i)))]
theorem ut {sv:Option Nat} {T:TypeId} {cap c j p k:Nat} {f g:Nat→Nat} : Own.le (aI sv T .one cap c (upd (fun q=>one (.int .u64 ((if q<j then (f q+k*g q % p) % p else f q:Nat)))) j (one (.int .u64 ((f j+k*g j % p) % p:Nat))))) (aI sv T .one cap c (fun q=>one (.int .u64 ((if q<j+1 then (f q+k*g q % p) % p else f q:Nat))))):=bh fun q _=>by
 unfold upd
 by_cases h:q=j
 ·subst h;rw [if_pos Y,if_pos (Nat.lt_succ_self q)]
 ·rw [if_neg h]
  dsimp only
  by_cases h2:q<j
  ·rw [if_pos h2,if_pos X]
  ·rw [if_neg h2,if_neg X]
attribute [local irreducible] J PJ aK one slT bR bC bv exT cj eP aT aI slV VT.le Ret bL
theorem uu (p x:Nat) (hx:x<p):Ok Tryz.prog 192 [one (.int .u64 (x:Nat)),bR .one (one (.int .u64 (p:Nat)))] (one (.bool false)):=by
 refine Ok.enter Tryz.func192 Y Tryz.ntmps192 Y (fun w O => ?_)
 refine ae (ai (En Y (Ep (aa (ae (ai (Em Y (El (aO Y) (El (sF X (ff Y Y)) ?_)))))))))
 refine En Y (Ep (aa (aD ?_)))
 refine aS Tryz.results192 (.tmp Y H)
theorem w7 (p c:Nat) (f:Nat→Nat) (hf : ∀ j,j<c→f j<p) (hc:c≤1048576):Ok Tryz.prog 194 [jg c f,i7 192 [bR .one (one (.int .u64 (p:Nat)))]] (one (.int .i64 (-1))):=by
 have hC:=fun i (hi:i<c)=>(fp.clo (uu p (f i) (hf i hi)):fp Tryz.prog (i7 192 [bR .one (one (.int .u64 (p:Nat)))]) [one (.int .u64 (f i:Nat))] (one (.bool false)))
 generalize i7 192 [bR .one (one (.int .u64 (p:Nat)))]=cl at *
 refine Ok.enter Tryz.func194 Y Tryz.ntmps194 Y (fun w O => ?_)
 refine ae (ai (En Y (Ep (aa (ae (ae (ai (Em Y (El (aX Y) ?_)))))))))
 refine Em Y (Ep (aa (au (co (Γ' := [(0,_),(1,_),(4,_),(7,_),(8,_)]) Eg (SubM.refl _) ?_))))
 refine bB (σ:=Nat) (Γk := [(0,_),(1,_),(7,_)]) Eg (fun i => [(8,one (.int .i64 (i:Nat)))]) (fun i M0=>M0) (fun i=>i≤c) (fun i=>c - i) (0) (Nat.zero_le _) Eh (.nil) (fun i hi => ?_)
 refine bQ (Γ' := [(8,_),(0,_),(1,_),(7,_)]) (M' := []) Y Y ?_
 by_cases hi':i<c
 ·have h1:=hC i hi'
  refine ae (ai (El (sT X (a6 Y Y)) (Ep (aa (ae (aG Y (az (aa (ae ?_)))))))))
  refine au (ae (ai (Em Y (En Y (Ep (aa (ae (ai (Em Y ?_)))))))))
  refine Em Y (Em Y (El (aC Y Y X) (El (aO Y) ?_)))
  refine El (li h1 Y Y ⟨H,Er⟩) ?_
  refine Ep (aa (aB Y (az (aE (aa (ai (El (bK _ 1 Y Y X) (Em Y (Ep ?_)))))))))
  refine aP (i+1) X X Eh (.nil)
 ·refine ae (ai (El (sF X (a6 Y Y)) (Ep (aa (ae (aB Y (aY (av (av ?_)))))))))
  refine aF (aa (ae (ai (En Y (Ep (aa (aD ?_)))))))
  refine aS Tryz.results194 (.tmp Y H)
theorem re (p c:Nat) (f:Nat→Nat) (hf : ∀ j,j<c→f j<p) (hc:c≤1048576):Ok Tryz.prog 191 [jg c f,i7 192 [bR .one (one (.int .u64 (p:Nat)))]] (one (.bool false)):=by
 have hi:=w7 p c f hf hc
 refine Ok.enter Tryz.func191 Y Tryz.ntmps191 Y (fun w O => ?_)
 refine ae (ai (En Y (Ep (aa (ae (ai (Em Y (Em Y ?_))))))))
 refine El (am (hi) Y ⟨H,H,Er⟩) ?_
 refine El (sF X (ff Y Y)) (En Y (Ep (aa (aD ?_))))
 refine aS Tryz.results191 (.tmp Y H)
theorem uv (p c:Nat) (f:Nat→Nat) (hf : ∀ j,j<c→f j<p) (hc:c≤1048576):Ok Tryz.prog 180 [one (.int .u64 (p:Nat)),jg c f] (one (.bool true)):=by
 have hi:=re p c f hf hc
 refine Ok.enter Tryz.func180 Y Tryz.ntmps180 Y (fun w O => ?_)
 refine ae (ai ?_)
 refine gL Y Y (ltN Y) (fun b2 => ?_)
 refine En Y (Ep (aa (ae (ai (Em Y (El (kE Y) (rF [aT b2 44 1 [(0, .one,one (.int .u64 (p:Nat)))]] (Kp := []) (Kp' := []) (List.Perm.refl _) (EntM.refl []) (wv.set (t:=6) Y (Ent.clo1 (Ent.ptr List.mem_cons_self List.mem_cons_self))) ?_)))))))
 refine El (am (hi) Y ⟨H,H,Er⟩) ?_
 refine El (cS Y) (En Y (Ep (aa (aD ?_))))
 refine aS Tryz.results180 (.tmp Y H)
theorem w8 (p n c:Nat) (W:Nat→Nat→Nat) (hp:cD p=true) (hp':p<2147483648) (hW : ∀ i j,i<n→j<c→W i j<p) (hn:n≤1048576) (hc:c≤1048576):Ok Tryz.prog 160 [w6 p n c W] (one (.bool true)):=by
 have h1:=ke p X
 rw [hp] at h1
 refine Ok.enter Tryz.func160 Y Tryz.ntmps160 Y (fun w O => ?_)
 refine ae (ai ?_)
 refine aV Y Y (ltN Y) (fun b1 => ?_)
 refine En Y (Ep (aa (ae (ae (ai (El (aj Y) (El (ak 0 Y Y Y) ?_)))))))
 refine El (am (h1) Y ⟨H,Er⟩) ?_
 refine El (cS Y) (Em Y (Eo (aj Y) (Eo (ak 0 Y Y Y) (Eo (sF X (a6 Y Y)) (El (bE Y Y) (Ep (aa (aB Y (az ?_)))))))))
 refine aa (ae (ae (ai (El (aj Y) (El (ak 0 Y Y Y) (El (aX Y) (Em Y (Ep (aa ?_)))))))))
 refine au (co (Γ' := [(1,_),(2,_),(15,_),(16,_),(17,_)]) Eg (SubM.refl _) ?_)
 refine bB (σ:=Nat) (Γk := [(1,_),(15,_),(16,_)]) Eg (fun i => [(17,one (.int .i64 (i:Nat)))]) (fun i M0=>M0) (fun i=>i≤n) (fun i=>n - i) (0) (Nat.zero_le _) Eh (.keep Ek (.nil)) (fun i hi => ?_)
 refine bQ (Γ' := [(17,_),(1,_),(15,_),(16,_)]) (M' := [_]) Y Y ?_
 by_cases hi':i<n
 ·have h2:=uv p c (W i) (fun j hj=>hW i j hi' hj) hc
  refine ae (ai (El (sT X (a6 Y Y)) (Ep (aa (ae (aG Y (az (aa (ae ?_)))))))))
  refine au (ae (ai (El (aC Y Y X) (El (aO Y) (En Y (Ep (aa (ae (ai ?_)))))))))
  refine Em Y (El (aX Y) (El (aj Y) (El (ak 0 Y Y Y) (El (sF X (dy Y Y)) (Em Y (Eo (aj Y) (Eo (ak 0 Y Y Y) (Eo (ab Y) ?_))))))))
  refine Eo (am (h2) Y ⟨H,H,Er⟩) ?_
  refine Eo (cS Y) (El (bE Y Y) (Ep (aa (aB Y (az (aE (aa (ai (El (bK _ 1 Y Y X) ?_)))))))))
  refine Em Y (Ep ?_)
  refine aP (i+1) X X Eh (.keep Ek (.nil))
 ·refine ae (ai (El (sF X (a6 Y Y)) (Ep (aa (ae (aB Y (aY (av (av ?_)))))))))
  refine aF (aa (ae (ai (En Y (Ep (aa (aD ?_)))))))
  refine aS Tryz.results160 (.tmp Y H)
theorem w9 (c:Nat) (f:Nat→Nat) (hc0:0<c) (hc:c≤1048576):OkM (σ:=Nat × Nat) Tryz.prog 181 [jg c f] (fun s=>one (slV (some s.1) c s.2)) (fun s => [aI (some s.1) 44 .one s.2 c (fun j=>one (.int .u64 (f j:Nat)))]):=by
 refine OkM.enter Tryz.func181 Y Tryz.ntmps181 Y (fun w O => ?_)
 refine ae (ai (En Y (Ep (aa (ae (ae (ai (Em Y (El (qx Y) ?_)))))))))
 refine Ep (aa ?_)
 refine wr (t:=4) Y (fun b => ?_)
 refine pw (t:=4) Y (fun hb => ?_)
 refine a9 Y (fun hc => ?_) (fun hc => ?_)
 ·exact absurd (hb hc) X
 ·refine az (aa (ae (ai (m5 (n:=0) Y Y Y Y Y ?_))))
  refine PartsK.nil (fun bl => ?_)
  refine Em Y ?_
  (refine cT 0 Y Y Y (leN Y) ?_ ?_ Y (ltN Y) (fun sv7 cap7 => ?_);omega;omega)
  refine En Y (Ep (aa (aD ?_)))
  refine yB (i:=0) (F:=sv7=none→0+c=0) Y (fun g h hp he=>iT hp he) (fun hsv => ?_)
  obtain ⟨bo,rfl⟩:=gE hsv X
  exact jq (bo,cap7) Tryz.results181 (.tmp Y (lO (Nat.zero_add c))) (.keep (gY (Nat.zero_add c) (fun q hq=>by rw [if_neg (Nat.not_lt_zero q),Nat.sub_zero])) .nil)
theorem zh (p c b1 b2 cap1 cap2 k:Nat) (f g:Nat→Nat) (hp0:0<p) (hp:p<4294967296) (hk:k<p) (hf : ∀ j,j<c→f j<p) (hg : ∀ j,j<c→g j<p) (hc:c≤1048576) :
  OkI Tryz.prog 184 [one (.int .u64 (p:Nat)),one (slV (some b1) c cap1),one (slV (some b2) c cap2),one (.int .u64 (k:Nat))] [aI (some b1) 44 .one cap1 c (fun j=>one (.int .u64 (f j:Nat))),aI (some b2) 44 .one cap2 c (fun j=>one (.int .u64 (g j:Nat)))]
   (fun _:Unit=>bv []) (fun _ => [aI (some b1) 44 .one cap1 c (fun j=>one (.int .u64 ((f j+k*g j % p) % p:Nat))),aI (some b2) 44 .one cap2 c (fun j=>one (.int .u64 (g j:Nat)))]):=by
 refine OkI.enter Tryz.func184 Y Tryz.ntmps184 Y (fun w O => ?_)
 by_cases h0:k=0
 ·subst h0
  refine ae (ae (ai (Em Y (El (sT X (cg Y Y)) (Ep (aa (aG Y (aD (aR ?_)))))))))
  exact lA (σ:=Unit) (ψ:=fun _=>bv []) () Tryz.results184 H (.keep (bh fun q hq=>by rw [Nat.zero_mul,Nat.zero_mod,Nat.add_zero,Nat.mod_eq_of_lt (hf q hq)]) (SubM.refl _))
 ·refine ae (ae (ai (Em Y (El (sF X (cg Y Y)) (Ep (aa (aB Y (az (aa ?_)))))))))
  refine ae (ai (Em Y (El (cw Y) (Em Y (Ep (aa (au (co (Γ' := [(0,_),(1,_),(3,_),(12,_),(13,_),(14,_)]) Eg (SubM.refl _) ?_))))))))
  refine bB (σ:=Nat) (Γk := [(0,_),(1,_),(3,_),(12,_),(13,_)]) Eg (fun j => [(14,one (.int .i64 (j:Nat)))]) (fun j M0=>(M0.set 0 (aI (some b1) 44 .one cap1 c (fun q=>one (.int .u64 ((if q<j then (f q+k*g q % p) % p else f q:Nat))))))) (fun j=>j≤c) (fun j=>c - j) (0) (Nat.zero_le _) Eh (.keep Ek (.keep Ek (.nil))) (fun j hj => ?_)
  refine bQ (Γ' := [(14,_),(0,_),(1,_),(3,_),(12,_),(13,_)]) (M' := [_,_]) Y Y ?_
  by_cases hj:j<c
  ·have h1:=hf j hj
   have h2:=hg j hj
   have h3:k*g j % p<p:=Nat.mod_lt _ hp0
   have hm:=it p k (g j) hp0 hp X X
   have ha:=vM p (f j) (k*g j % p) hp0 hp X X
   refine ae (ai (El (sT X (a6 Y Y)) (Ep (aa (ae (aG Y (az (aa (ae ?_)))))))))
   refine au (ae (ai (Em Y (El (ao Y Y X) (El (bg 1 Y Y X) (En Y (En Y (Ep (aa ?_)))))))))
   refine a7 12 aZ Z S (Em Y (Em Y (Em Y (Em Y (Em Y (El (ao Y Y X) (El (bg 0 Y Y X) (Em Y (Em Y ?_)))))))))
   refine Em Y ?_
   refine El (am (hm) Y ⟨H,H,H,Er⟩) ?_
   refine El (am (ha) Y ⟨H,(aq (by rw [if_neg (Nat.lt_irrefl j)])),H,Er⟩) ?_
   refine Ep (El (ao Y Y X) ?_)
   (refine aw 0 Y Y Y ?_ Y ?_;omega)
   refine Ep (aE (aa (ai (El (bK _ 1 Y Y X) (Em Y (Ep ?_))))))
   refine aP (j+1) X X Eh (.keep (ut) (.keep Ek (.nil)))
  ·refine ae (ai (El (sF X (a6 Y Y)) (Ep (aa (ae (aB Y (aY (av (av ?_)))))))))
   refine aF (ja ?_)
   exact lA (σ:=Unit) (ψ:=fun _=>bv []) () Tryz.results184 H (.keep (bh fun q hq=>by rw [if_pos X]) (SubM.refl _))
end Tor
end
section
namespace Tor
open Go Go.RowKit Go.Proofs
abbrev xa (W:Nat→Nat→Nat):Nat→Nat→VT:=fun i j=>one (.int .u64 (W i j:Nat))
abbrev sM (bz n:Nat) (c:Nat) (B C:Nat→Nat):Own:=aI (some bz) 173 .one n n (fun q=>one (slV (some (B q)) c (C q)))
abbrev oD (c n:Nat) (B C:Nat→Nat) (W:Nat→Nat→Nat) (Ed:Nat→Bool):Own:=rwO 44 .one c n B C (xa W) Ed
theorem xb {bz n c i b cap:Nat} {B C:Nat→Nat} {φ:Nat→VT} (hφ:φ=fun q=>if q<i then one (slV (some (B q)) c (C q)) else one (.slice none 0 0)):Own.le (aI (some bz) 173 .one n n (upd φ i (one (slV (some b) c cap)))) (aI (some bz) 173 .one n n (fun q=>if q<i+1 then one (slV (some (if q=i then b else B q)) c (if q=i then cap else C q)) else one (.slice none 0 0))):=bh fun q _=>by
 subst hφ
 unfold upd
 by_cases h:q=i
 ·subst h;rw [if_pos Y,if_pos (Nat.lt_succ_self q),if_pos Y,if_pos Y]
 ·rw [if_neg h]
  dsimp only
  by_cases h2:q<i
  ·rw [if_pos h2,if_pos X,if_neg h,if_neg h]
  ·rw [if_neg h2,if_neg X]
theorem xc {n c i b cap:Nat} {B C:Nat→Nat} {W:Nat→Nat→Nat} : Own.le (rwO 44 .one c n (fun q=>if q=i then b else B q) (fun q=>if q=i then cap else C q) (fun q=>if q=i then (fun j=>one (.int .u64 (W i j:Nat))) else xa W q) (fun q=>if q=i then false else decide (i≤q))) (oD c n (fun q=>if q=i then b else B q) (fun q=>if q=i then cap else C q) W (fun q=>decide (i+1≤q))):=kJ (fun q _=>by
  by_cases h:q=i
  ·rw [if_pos h,decide_eq_false X]
  ·rw [if_neg h]; exact decide_eq_decide.2 X) (fun q _ _=>⟨rfl,rfl⟩) (fun q j _ _ _=>by
  by_cases h:q=i
  ·rw [if_pos h,h]; exact VT.le_refl _
  ·rw [if_neg h]; exact VT.le_refl _)
abbrev DG:Type:=(Nat→Nat) × (Nat→Nat) × Nat
theorem zi {a b a' b':Own} (h1:Own.le a a') (h2:Own.le b b'):ConvM [a,b] [b',a']:=by
 refine ⟨?_,fun g h Ef o ho => ?_⟩
 ·show (a.bl ++ (b.bl ++ [])).Perm (b'.bl ++ (a'.bl ++ []))
  rw [← h1.1, ← h2.1,List.append_nil,List.append_nil]; exact List.perm_append_comm
 ·rcases List.mem_cons.1 ho with rfl | ho
  ·exact h2.2 _ _ (Ef _ (List.mem_cons_of_mem _ List.mem_cons_self))
  ·rcases List.mem_singleton.1 ho with rfl
   exact h1.2 _ _ (Ef _ List.mem_cons_self)
attribute [local irreducible] J PJ aK one slT bR bC bv exT cj eP aT aI slV VT.le Ret bL
attribute [local irreducible] rwO
theorem sN (n c:Nat) (W:Nat→Nat→Nat) (hc0:0<n→0<c) (hn:n≤1048576) (hc:c≤1048576):OkM (σ:=DG) Tryz.prog 161 [slT .one n (fun i=>jg c (W i))] (fun s=>one (slV (some s.2.2) n n)) (fun s => [sM s.2.2 n c s.1 s.2.1,oD c n s.1 s.2.1 W (fun _=>false)]):=by
 refine OkM.enter Tryz.func161 Y Tryz.ntmps161 Y (fun w O => ?_)
 refine ae (ai (En Y (Ep (aa (ae (ai (Em Y (El (aX Y) ?_))))))))
 refine bV n n Y Y Y Y (Nat.le_refl _) Y Y X Y Y (fun bz => ?_)
 refine En Y (Ep (aa (ae (ae (ai (Em Y (El (aX Y) (Em Y (Ep ?_)))))))))
 refine aa (au ?_)
 refine gc (yz (T:=44) (L := .one) (c:=c) (n:=n) (B:=fun _=>0) (C:=fun _=>0) (φ:=xa W) (Ed:=fun q=>decide (0≤q)) (fun i _=>decide_eq_true (Nat.zero_le i))) ?_
 refine co (Γ' := [(2,_),(3,_),(9,_),(10,_),(11,_)]) Eg (SubM.refl _) ?_
 refine bB (σ:=Nat × (Nat→Nat) × (Nat→Nat)) (Γk := [(2,_),(3,_),(9,_),(10,_)]) Eg (fun s => [(11,one (.int .i64 (s.1:Nat)))]) (fun s M0=>((M0.set 1 (aI (some bz) 173 .one n n (fun q=>if q<s.1 then one (slV (some (s.2.1 q)) c (s.2.2 q)) else one (.slice none 0 0)))).set 0 (oD c n s.2.1 s.2.2 W (fun q=>decide (s.1≤q))))) (fun s=>s.1≤n) (fun s=>n - s.1) ((0,fun _=>0,fun _=>0)) (Nat.zero_le _) Eh (.keep Ek (.keep Ek (.nil))) (fun s hs => ?_)
 refine bQ (Γ' := [(11,_),(2,_),(3,_),(9,_),(10,_)]) (M' := [_,_]) Y Y ?_
 obtain ⟨i,B,C⟩:=s
 dsimp only at hs ⊢
 by_cases hi:i<n
 ·have h1:=w9 c (W i) (hc0 X) hc
  refine ae (ai (El (sT X (a6 Y Y)) (Ep (aa (ae (aG Y (az (aa (ae ?_)))))))))
  refine au (ae (ai (Em Y (El (aC Y Y X) (El (aO Y) (En Y (En Y (Ep (aa ?_)))))))))
  refine ai (Em Y (Em Y (Em Y ?_)))
  refine gw (h1) Y ⟨H,Er⟩ Y Y (fun s19 => ?_)
  refine El (ao Y Y X) ?_
  (refine aw 2 Y Y Y ?_ Y ?_;omega)
  refine Ep (aE (aa (ai (El (bK _ 1 Y Y X) (Em Y (Ep (fm (lI (i:=i) hi (decide_eq_true (Nat.le_refl i))) ?_)))))))
  refine aP ((i+1,(fun q=>if q=i then s19.1 else B q),fun q=>if q=i then s19.2 else C q)) X X Eh (.keep (xc) (.keep (xb Y) (.nil)))
 ·have he:i=n:=by omega
  subst he
  refine ae (ai (El (sF X (a6 Y Y)) (Ep (aa (ae (aB Y (aY (av (av ?_)))))))))
  refine aF (aa (ae (ai (Em Y (En Y (Ep (aa (aD ?_))))))))
  refine fm (zi (a':=oD c i B C W (fun _=>false)) (b':=sM bz i c B C) (kJ (fun q hq=>decide_eq_false X) (fun q _ _=>⟨rfl,rfl⟩) (fun q j _ _ _=>VT.le_refl _)) (bh fun q hq=>by rw [if_pos hq])) ?_
  exact jq ((B,C,bz):DG) Tryz.results161 (.tmp Y H) (SubM.refl _)
def CW (W:Nat→Nat→Nat) (n k c i:Nat):Prop:=k≤i∧i<n∧W i c≠0 ∧ ∀ q,k≤q→q<i→W q c=0
theorem xd (bz n c k e i:Nat) (B C:Nat→Nat) (W:Nat→Nat→Nat) (he:e<c) (hn:n≤1048576) (hf:CW W n k e i) :
  OkI Tryz.prog 182 [one (slV (some bz) n n),one (.int .i64 (k:Nat)),one (.int .i64 (e:Nat))] [sM bz n c B C,oD c n B C W (fun _=>false)]
   (fun _:Unit=>one (.int .i64 (i:Nat))) (fun _ => [sM bz n c B C,oD c n B C W (fun _=>false)]):=by
 obtain ⟨f1,f2,f3,f4⟩:=hf
 refine OkI.enter Tryz.func182 Y Tryz.ntmps182 Y (fun w O => ?_)
 refine ae (ai (En Y (Ep (aa (im (ae (ai (En Y (Ep ?_)))))))))
 refine aa (ae (jZ (aa (ae (ae (ai (Em Y (En Y (Ep ?_)))))))))
 refine aa (au (co (Γ' := [(0,_),(2,_),(6,_),(7,_),(8,_)]) Eg (SubM.refl _) ?_))
 refine bB (σ:=Nat) (Γk := [(0,_),(2,_),(6,_)]) Eg (fun j => [(8,one (.int .i64 (j:Nat)))]) (fun j M0=>M0) (fun j=>k≤j∧j≤i) (fun j=>n - j) (k) (⟨Nat.le_refl _,f1⟩) Eh (.keep Ek (.keep Ek (.nil))) (fun j hj => ?_)
 refine bQ (Γ' := [(8,_),(0,_),(2,_),(6,_)]) (M' := [_,_]) Y Y ?_
 obtain ⟨hj1,hj2⟩:=hj
 have hjn:j<n:=by omega
 by_cases hji:j=i
 ·subst hji
  have hz:(W j e:Int)≠0:=by omega
  refine ae (ae (ai (Em Y (Em Y (El (cw Y) (El (sT X (a6 Y Y)) (Ep (aa (aG Y ?_)))))))))
  refine az (aa (ae (au (ae (ai (Em Y (Em Y (El (ao Y Y X) (El (bg 0 Y Y X) ?_)))))))))
  refine Em Y (El (ao Y Y X) (El (oc 1 Y Y X Y X) (Ep (aa (au (ae (ai (El (sF (by assumption) (cg Y Y)) (En Y ?_)))))))))
  refine Ep (aa (aB Y (ae (ai (Em Y (En Y (Ep (aa (aY ?_)))))))))
  refine c8 Y (c8 Y (av (av (aF (aa (ae (ai (Em Y (En Y ?_)))))))))
  refine Ep (aa (aD (ee ?_)))
  exact pC (σ:=Unit) () Tryz.results182 (.tmp Y H) (SubM.refl _)
 ·have hz:(W j e:Int)=0:=by have:=f4 j hj1 X;omega
  refine ae (ae (ai (Em Y (Em Y (El (cw Y) (El (sT X (a6 Y Y)) (Ep (aa (aG Y ?_)))))))))
  refine az (aa (ae (au (ae (ai (Em Y (Em Y (El (ao Y Y X) (El (bg 0 Y Y X) ?_)))))))))
  refine Em Y (El (ao Y Y X) (El (oc 1 Y Y X Y X) (Ep (aa (au (ae (ai (El (sT (by assumption) (cg Y Y)) (En Y ?_)))))))))
  refine Ep (aa (aG Y (az (aE (aE (aa (ai (Em Y (El (bK _ 1 Y Y X) ?_)))))))))
  refine En Y (Ep ?_)
  refine aP (j+1) X X Eh (.keep Ek (.keep Ek (.nil)))
end Tor
end
section
namespace Tor
theorem gF (n:Nat) (f g:Nat→Int):bA n (fun k=>f k+g k)=bA n f+bA n g:=by
 induction n with
 | zero => rfl
 | succ n ih => rw [bA, bA, bA, ih]; omega
theorem dU (n:Nat) (a:Int) (f:Nat→Int):bA n (fun k=>a*f k)=a*bA n f:=by
 induction n with
 | zero => simp [bA]
 | succ n ih => rw [bA, bA, ih, Int.mul_add]
theorem rf {p:Int} {n:Nat} {f:Nat→Int} (h : ∀ k,k<n→p∣f k):p∣bA n f:=by
 induction n with
 | zero => exact Int.dvd_zero p
 | succ n ih => rw [bA]; exact Int.dvd_add (ih fun k hk => h k X) (h n X)
theorem ie {p:Int} {n:Nat} {f g:Nat→Int} (h : ∀ k,k<n→p∣f k - g k):p∣bA n f - bA n g:=by
 have h1:=rf h
 rw [show (fun k=>f k - g k)=(fun k=>f k+(-1)*g k) by funext k;omega,gF,dU] at h1
 rwa [show bA n f - bA n g=bA n f + -1*bA n g by omega]
theorem ig {n i:Nat} {f:Nat→Int} (hi:i<n) (h : ∀ k,k<n→k≠i→f k=0):bA n f=f i:=by
 induction n with
 | zero => exact absurd hi (Nat.not_lt_zero _)
 | succ n ih =>
  rw [bA]
  by_cases e:i=n
  ·subst e
   have : ∀ m,m≤i→bA m f=0:=fun m=>by
    induction m with
    | zero => exact fun _ => rfl
    | succ m ihm => intro hm; rw [bA, ihm X, h m X X]; rfl
   rw [this i (Nat.le_refl i),Int.zero_add]
  ·rw [ih X (fun k hk hne=>h k X hne),h n X X,Int.add_zero]
theorem ei (x p:Nat):(p:Int)∣((x % p:Nat):Int) - (x:Int):=⟨-((x / p:Nat):Int),by
 have h:=Nat.div_add_mod x p
 have:(x:Int)=(p:Int)*((x / p:Nat):Int)+((x % p:Nat):Int):=by rw [← Int.natCast_mul, ← Int.natCast_add,h]
 rw [this,Int.mul_neg]; omega⟩
theorem gg {p a b c:Int} (h1:p∣a - b) (h2:p∣b - c):p∣a - c:=by
 have:=Int.dvd_add h1 h2
 rwa [show a - b+(b - c)=a - c by omega] at this
theorem iF {p a b:Int} (h:p∣a - b):p∣b - a:=by
 have:=Int.dvd_neg.2 h
 rwa [show -(a - b)=b - a by omega] at this
theorem jS {p a b:Int} (h:p∣a - b) (hb:p∣b):p∣a:=by
 have:=Int.dvd_add h hb
 rwa [show a - b+b=a by omega] at this
theorem dq {p a b:Int} (c:Int) (h:p∣a - b):p∣a*c - b*c:=by rw [← Int.sub_mul]; exact Int.dvd_mul_of_dvd_left h
def ij (p inv k:Nat) (W:Nat→Nat→Nat):Nat→Nat→Nat:=fun h j=>if h=k then inv*W k j % p else (W h j+(0+p - W h k) % p*(inv*W k j % p) % p) % p
theorem Bi {p inv k:Nat} {W:Nat→Nat→Nat} (hp:0<p) (h j:Nat):ij p inv k W h j<p:=by
 unfold ij;split <;> exact Nat.mod_lt _ hp
theorem kP {p inv k:Nat} {W:Nat→Nat→Nat} (j:Nat):(p:Int)∣(ij p inv k W k j:Int) - (inv:Int)*(W k j:Int):=by
 unfold ij;rw [if_pos Y, ← Int.natCast_mul]; exact ei _ _
theorem oE {p inv k:Nat} {W:Nat→Nat→Nat} {h:Nat} (hne:h≠k) (hW:W h k<p) (j:Nat):(p:Int)∣(ij p inv k W h j:Int) - ((W h j:Int) - (W h k:Int)*((inv:Int)*(W k j:Int))):=by
 unfold ij;rw [if_neg hne]
 have h1:=ei (W h j+(0+p - W h k) % p*(inv*W k j % p) % p) p
 have h2:=ei ((0+p - W h k) % p*(inv*W k j % p)) p
 have h3:=ei (0+p - W h k) p
 have h4:=ei (inv*W k j) p
 rw [Int.natCast_add] at h1
 rw [Int.natCast_mul] at h2 h4
 rw [show ((0+p - W h k:Nat):Int)=(p:Int) - (W h k:Int) by omega] at h3
 have h5:(p:Int)∣(((0+p - W h k) % p:Nat):Int) - (-(W h k:Int)):=by
  have:=Int.dvd_add h3 (Int.dvd_refl (p:Int))
  rwa [show (((0+p - W h k) % p:Nat):Int) - ((p:Int) - (W h k:Int))+(p:Int)=(((0+p - W h k) % p:Nat):Int) - (-(W h k:Int)) by omega] at this
 have h6:(p:Int)∣(((0+p - W h k) % p:Nat):Int)*((inv*W k j % p:Nat):Int) - -(W h k:Int)*((inv:Int)*(W k j:Int)):=by
  refine gg (dq _ h5) ?_
  rw [Int.mul_comm (-(W h k:Int)),Int.mul_comm (-(W h k:Int))]
  exact dq _ h4
 have h7:=gg h2 h6
 refine gg h1 ?_
 rw [show (W h j:Int)+((((0+p - W h k) % p*(inv*W k j % p) % p:Nat)):Int) - ((W h j:Int) - (W h k:Int)*((inv:Int)*(W k j:Int)))=((((0+p - W h k) % p*(inv*W k j % p) % p:Nat)):Int) - -(W h k:Int)*((inv:Int)*(W k j:Int)) by rw [Int.neg_mul]; omega]
 exact h7
structure EchI (p n:Nat) (F:Nat→Nat→Int) (k:Nat) (W:Nat→Nat→Nat):Prop where
 lt : ∀ i j,i<n→j<n+n→W i j<p
 unit : ∀ h j,h<n→j<k→W h j=if h=j then 1 else 0
 rel : ∀ h j,h<n→j<n→(p:Int)∣(W h j:Int) - bA n (fun t=>(W h (n+t):Int)*F t j)
 ker : ∀ u:Nat→Int,(∀ h,h<n→(p:Int)∣bA n (fun j=>(W h j:Int)*u j)) → ∀ h,h<n→(p:Int)∣bA n (fun j=>F h j*u j)
theorem EchI.swap {p n k i:Nat} {F:Nat→Nat→Int} {W:Nat→Nat→Nat} (h:EchI p n F k W) (hk:k<n) (hi:i<n) (hki:k≤i):EchI p n F k (swp i k W):=by
 have hrow : ∀ q,q<n → ∃ q',q'<n∧swp i k W q=W q':=fun q hq=>by
  unfold swp
  by_cases e1:q=i
  ·exact ⟨k,hk,by rw [if_pos e1]⟩
  ·by_cases e2:q=k
   ·exact ⟨i,hi,by rw [if_neg e1,if_pos e2]⟩
   ·exact ⟨q,hq,by rw [if_neg e1,if_neg e2]⟩
 have hinv : ∀ q,q<n → ∃ q',q'<n∧W q=swp i k W q':=fun q hq=>by
  unfold swp
  by_cases e1:q=i
  ·exact ⟨k,hk,by
    by_cases e:k=i
    ·rw [if_pos e,e1,e]
    ·rw [if_neg e,if_pos Y,e1]⟩
  ·by_cases e2:q=k
   ·exact ⟨i,hi,by rw [if_pos Y,e2]⟩
   ·exact ⟨q,hq,by rw [if_neg e1,if_neg e2]⟩
 refine ⟨fun q j hq hj => ?_,fun q j hq hj => ?_,fun q j hq hj => ?_,fun u hu q hq=>h.ker u (fun q hq => ?_) q hq⟩
 ·obtain ⟨q',h1,h2⟩:=hrow q hq;rw [h2]; exact h.lt q' j h1 hj
 ·unfold swp
  by_cases e1:q=i
  ·rw [if_pos e1,h.unit k j hk hj,if_neg X,if_neg X]
  ·by_cases e2:q=k
   ·rw [if_neg e1,if_pos e2,h.unit i j hi hj,if_neg X,if_neg X]
   ·rw [if_neg e1,if_neg e2]; exact h.unit q j hq hj
 ·obtain ⟨q',h1,h2⟩:=hrow q hq;rw [h2]; exact h.rel q' j h1 hj
 ·obtain ⟨q',h1,h2⟩:=hinv q hq;rw [h2]; exact hu q' h1
theorem EchI.step {p n k inv:Nat} {F:Nat→Nat→Int} {W:Nat→Nat→Nat} (h:EchI p n F k W) (hp:2≤p) (hk:k<n) (hinv:inv*W k k % p=1):EchI p n F (k+1) (ij p inv k W):=by
 have hlt:=fun q (hq:q<n)=>h.lt q k hq X
 have hc1:(p:Int)∣(inv:Int)*(W k k:Int) - 1:=by
  have:=iF (ei (inv*W k k) p)
  rw [hinv,Int.natCast_mul] at this
  exact this
 refine ⟨fun q j hq hj=>Bi X q j,fun q j hq hj => ?_,fun q j hq hj => ?_,fun u hu=>h.ker u fun q hq => ?_⟩
 ·by_cases hjk:j<k
  ·have h0:W k j=0:=by rw [h.unit k j hk hjk,if_neg X]
   unfold ij
   rw [h0,Nat.mul_zero,Nat.zero_mod,Nat.mul_zero,Nat.zero_mod,Nat.add_zero]
   by_cases e:q=k
   ·rw [if_pos e,if_neg X]
   ·rw [if_neg e,Nat.mod_eq_of_lt (h.lt q j hq X)]; exact h.unit q j hq hjk
  ·have hjk:j=k:=by omega
   subst hjk
   unfold ij
   rw [hinv]
   by_cases e:q=j
   ·rw [if_pos e,if_pos e]
   ·rw [if_neg e,if_neg e,Nat.mul_one,Nat.mod_mod]
    have:=hlt q hq
    by_cases hz:W q j=0
    ·rw [hz,Nat.zero_add,Nat.zero_add,Nat.sub_zero,Nat.mod_mod,Nat.mod_self]
    ·rw [Nat.mod_eq_of_lt (show 0+p - W q j<p by omega),show W q j+(0+p - W q j)=p by omega,Nat.mod_self]
 ·by_cases e:q=k
  ·subst e
   refine gg (kP j) ?_
   have h1:=dq (inv:Int) (h.rel q j hq hj)
   rw [Int.mul_comm _ (inv:Int),Int.mul_comm _ (inv:Int), ← dU] at h1
   refine gg h1 (ie fun t ht => ?_)
   have h2:=iF (dq (F t j) (kP (p:=p) (inv:=inv) (k:=q) (W:=W) (n+t)))
   rwa [Int.mul_assoc] at h2
  ·refine gg (oE e (hlt q hq) j) ?_
   have h1:=h.rel q j hq hj
   have h2:=dq ((W q k:Int)*(inv:Int)) (h.rel k j hk hj)
   have h3:=Int.dvd_sub h1 h2
   have h4:(p:Int)∣bA n (fun t=>(W q (n+t):Int)*F t j+(-((W q k:Int)*(inv:Int)))*((W k (n+t):Int)*F t j)) - bA n (fun t=>(ij p inv k W q (n+t):Int)*F t j):=ie fun t ht=>by
    have h5:=iF (dq (F t j) (oE (p:=p) (inv:=inv) e (hlt q hq) (n+t)))
    rwa [show ((W q (n+t):Int) - (W q k:Int)*((inv:Int)*(W k (n+t):Int)))*F t j=(W q (n+t):Int)*F t j+(-((W q k:Int)*(inv:Int)))*((W k (n+t):Int)*F t j) by grind] at h5
   rw [gF,dU] at h4
   have h5:=Int.dvd_add h3 h4
   generalize bA n (fun t=>(W q (n+t):Int)*F t j)=A at *
   generalize bA n (fun t=>(W k (n+t):Int)*F t j)=B at *
   generalize bA n (fun t=>(ij p inv k W q (n+t):Int)*F t j)=C at *
   rwa [show (W q j:Int) - A - ((W k j:Int)*((W q k:Int)*(inv:Int)) - B*((W q k:Int)*(inv:Int)))+(A + -((W q k:Int)*(inv:Int))*B - C)=(W q j:Int) - (W q k:Int)*((inv:Int)*(W k j:Int)) - C by grind] at h5
 ·have hpk:(p:Int)∣(inv:Int)*bA n (fun j=>(W k j:Int)*u j):=by
   have h1:=hu k hk
   rw [← dU]
   refine jS (ie fun j hj => ?_) h1
   have h2:=iF (dq (u j) (kP (p:=p) (inv:=inv) (k:=k) (W:=W) j))
   rwa [Int.mul_assoc] at h2
  by_cases e:q=k
  ·subst e
   have h1:=Int.dvd_trans hpk (Int.dvd_mul_right _ (W q q:Int))
   have h2:=dq (bA n (fun j=>(W q j:Int)*u j)) hc1
   generalize bA n (fun j=>(W q j:Int)*u j)=A at *
   have h3:=Int.dvd_sub h1 h2
   rwa [show (inv:Int)*A*(W q q:Int) - ((inv:Int)*(W q q:Int)*A - 1*A)=A by grind] at h3
  ·have h1:=hu q hq
   have h2:(p:Int)∣bA n (fun j=>(W q j:Int)*u j+(-(W q k:Int))*((inv:Int)*((W k j:Int)*u j))) - bA n (fun j=>(ij p inv k W q j:Int)*u j):=ie fun j hj=>by
    have h5:=iF (dq (u j) (oE (p:=p) (inv:=inv) e (hlt q hq) j))
    rwa [show ((W q j:Int) - (W q k:Int)*((inv:Int)*(W k j:Int)))*u j=(W q j:Int)*u j+(-(W q k:Int))*((inv:Int)*((W k j:Int)*u j)) by grind] at h5
   rw [gF,dU,dU] at h2
   have h3:=Int.dvd_trans hpk (Int.dvd_mul_left (W q k:Int) _)
   have h4:=Int.dvd_add (jS h2 h1) h3
   generalize bA n (fun j=>(W q j:Int)*u j)=A at *
   generalize (inv:Int)*bA n (fun j=>(W k j:Int)*u j)=B at *
   rwa [show A + -(W q k:Int)*B+(W q k:Int)*B=A by grind] at h4
theorem EchI.first {p n k:Nat} {F:Nat→Nat→Int} {W:Nat→Nat→Nat} (h:EchI p n F k W) (hp:2≤p) (hk:k<n) (hF : ∀ u:Nat→Int,(∀ h,h<n→(p:Int)∣bA n (fun j=>F h j*u j)) → ∀ j,j<n→(p:Int)∣u j) : ∃ i,k≤i∧i<n∧W i k≠0 ∧ ∀ q,k≤q→q<i→W q k=0:=by
 by_cases hz : ∀ q,k≤q→q<n→W q k=0
 ·exfalso
  have h1:=hF (fun j=>if j=k then 1 else if j<k then -(W j k:Int) else 0) (h.ker _ fun q hq => ?_) k hk
  ·rw [if_pos Y] at h1
   have:=Int.le_of_dvd S h1
   omega
  ·have hsum:bA n (fun j=>(W q j:Int)*(if j=k then 1 else if j<k then -(W j k:Int) else 0))=0:=by
    by_cases hqk:q<k
    ·rw [show (fun j=>(W q j:Int)*(if j=k then 1 else if j<k then -(W j k:Int) else 0))=(fun j=>(W q j:Int)*(if j=k then 1 else 0)+(W q j:Int)*(if j<k then -(W j k:Int) else 0)) by
       funext j
       by_cases e:j=k
       ·rw [if_pos e,if_pos e,if_neg X,Int.mul_zero,Int.add_zero]
       ·rw [if_neg e,if_neg e,Int.mul_zero,Int.zero_add],gF,
      ig hk (fun j hj hne=>by rw [if_neg hne,Int.mul_zero]),if_pos Y,Int.mul_one,
      ig hq (fun j hj hne=>by
       by_cases e:j<k
       ·rw [h.unit q j hq e,if_neg (Ne.symm hne)]; simp
       ·rw [if_neg e,Int.mul_zero]),if_pos hqk,h.unit q q hq hqk,if_pos Y]
     omega
    ·rw [dF (g:=fun _=>(0:Int)*0) (fun j hj=>by
      by_cases e:j=k
      ·rw [e,hz q X hq]; simp
      ·by_cases e2:j<k
       ·rw [h.unit q j hq e2,if_neg X]; simp
       ·rw [if_neg e,if_neg e2,Int.mul_zero,Int.mul_zero]),dU,Int.zero_mul]
   rw [hsum]; exact Int.dvd_zero _
 ·have : ∃ i,k≤i∧i<n∧W i k≠0:=Classical.byContradiction fun hc=>hz fun q h1 h2=>Classical.byContradiction fun h3=>hc ⟨q,h1,h2,h3⟩
  obtain ⟨i,h1,h2,h3⟩:=this
  induction i using Nat.strongRecOn with
  | _ i ih =>
   by_cases hall : ∀ q,k≤q→q<i→W q k=0
   ·exact ⟨i,h1,h2,h3,hall⟩
   ·have : ∃ q,k≤q∧q<i∧W q k≠0:=Classical.byContradiction fun hc=>hall fun q h4 h5=>Classical.byContradiction fun h6=>hc ⟨q,h4,h5,h6⟩
    obtain ⟨q,h4,h5,h6⟩:=this
    exact ih q h5 h4 X h6
theorem EchI.done {p n:Nat} {F:Nat→Nat→Int} {W:Nat→Nat→Nat} (h:EchI p n F n W) : ∀ i j,i<n→j<n→(p:Int)∣bA n (fun t=>(W i (n+t):Int)*F t j) - (if i=j then 1 else 0):=fun i j hi hj=>by
 have h1:=h.rel i j hi hj
 rw [h.unit i j hi hj] at h1
 refine iF ?_
 by_cases e:i=j
 ·rw [if_pos e] at h1 ⊢; exact h1
 ·rw [if_neg e] at h1 ⊢; exact h1
theorem EchI.start {p n:Nat} {F:Nat→Nat→Int} {W:Nat→Nat→Nat} (hp:0<p) (h1 : ∀ i j,i<n→j<n→(W i j:Int)=F i j % (p:Int)) (h2 : ∀ i t,i<n→t<n→W i (n+t)=if i=t then 1 else 0) (hp1:1<p):EchI p n F 0 W:=by
 have hcong : ∀ i j,i<n→j<n→(p:Int)∣(W i j:Int) - F i j:=fun i j hi hj=>by
  rw [h1 i j hi hj]
  exact ⟨-(F i j / (p:Int)),by have:=Int.mul_ediv_add_emod (F i j) (p:Int);rw [Int.mul_neg]; omega⟩
 refine ⟨fun i j hi hj => ?_,fun h j _ hj=>absurd hj (Nat.not_lt_zero _),fun i j hi hj => ?_,fun u hu i hi => ?_⟩
 ·by_cases e:j<n
  ·have:=h1 i j hi e
   have:=Int.emod_lt_of_pos (F i j) (show 0<(p:Int) by omega)
   omega
  ·have:=h2 i (j - n) hi X
   rw [show n+(j - n)=j by omega] at this
   rw [this]; split <;> omega
 ·rw [ig (f:=fun t=>(W i (n+t):Int)*F t j) hi (fun t ht hne=>by rw [h2 i t hi ht,if_neg (Ne.symm hne)]; simp),h2 i i hi hi,if_pos Y]
  have:=hcong i j hi hj
  simpa using this
 ·exact jS (ie fun j hj=>by
   have:=iF (dq (u j) (hcong i j hi hj))
   exact this) (hu i hi)
end Tor
end
