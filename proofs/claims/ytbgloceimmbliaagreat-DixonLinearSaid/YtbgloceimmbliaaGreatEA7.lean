/-
  Theorems that the proofs of laws of this seat rest on.
  No condition.
-/
import Derived.Test.YtbgloceimmbliaaGreatEA6
set_option linter.unusedVariables false
set_option linter.unusedSimpArgs false
section
namespace Tor
open Go Go.RowKit Go.Proofs
attribute [local irreducible] Tor.J Tor.PJ Tor.aK Tor.one Tor.slT Tor.bO Tor.bC Tor.bv Tor.exT Tor.cd Tor.eP Tor.aR Tor.aI Tor.slV Tor.VT.le Tor.Ret Tor.bJ
set_option maxHeartbeats 1000000 in
theorem yQ (n:Nat) (φ ψ χ:Nat→VT) [hF : ∀ i,Flat (χ i) (.agg 2)] (cl:VT) (hn:n≤1048576) (hC : ∀ i,i<n→fe Tryz.prog cl [φ i, ψ i] (χ i)):Ok Tryz.prog 153 [slT (.agg 2) n φ,slT (.agg 2) n ψ,cl] (slT (.agg 2) n χ):=by
 refine Ok.enter Tryz.func153 Y Tryz.ntmps153 Y (fun w O => ?_)
 refine ae (ai (st (ah Y) Y (Run.nil (aa (ae (ai (st (ab Y) Y (st (aU Y) Y ?_))))))))
 refine bV n n Y Y Y Y (Nat.le_refl _) Y Y Z Y Y (fun bz => ?_)
 refine st (ah Y) Y (Run.nil (aa (ae (ae (ai (st (ab Y) Y (st (cx Y) Y (st (ab Y) Y (Run.nil ?_)))))))))
 refine aa (au ?_)
 refine cC (σ:=Nat) (fun i => [(0,slT (.agg 2) n φ),(1,slT (.agg 2) n ψ),(2,cl),(7,one (slV (some bz) n n)),(13,one (.int .i64 n)),(14,one (.int .i64 (i:Nat)))])
  (fun i => [aI (some bz) 37 (.agg 2) n n (fun q=>if q<i then χ q else bJ)]) (fun i=>i≤n) (fun i=>n - i) 0 (Nat.zero_le _) DS (.keep (ec fun q hq=>by rw [if_neg Z]; exact jG _) .nil) (fun i hi => ?_)
 refine ae (ai (st (a7 Y Y) Y (Run.nil (aa (ae ?_)))))
 refine a8 Y (fun hc => ?_) (fun hc => ?_) <;> simp only [decide_eq_true_eq,decide_eq_false_iff_not,ne_eq,Decidable.not_not] at hc
 ·refine az (aa (ae (au (ae (ai (st (ab Y) Y (st (ah Y) Y (Run.nil (aa ?_)))))))))
  refine a6 13 aZ X S (st (ab Y) Y (st (ab Y) Y (st (ab Y) Y (st (ab Y) Y (st (ab Y) Y ?_)))))
  (refine st (aC Y Y ?_) Y ?_;omega)
  refine st (aM Y) Y (st (ab Y) Y (st (ab Y) Y ?_))
  (refine st (aC Y Y ?_) Y ?_;omega)
  refine st (aM Y) Y ?_
  refine st (ld (hC i Z) Y Y ⟨VT.le_refl _,VT.le_refl _,trivial⟩) Y ?_
  (refine st (ao Y Y ?_) Y ?_;omega)
  refine Run.nil ?_
  (refine aw 0 Y Y Y ?_ Y ?_;omega)
  refine Run.nil (aD (aa (ai ?_)))
  (refine st (cp Y Y (aP ?_ ?_)) Y ?_;omega;omega)
  refine st (ab Y) Y (Run.nil ?_)
  refine bU (s:=i) (i+1) (show _ from by omega) (by show n - (i+1)<n - i;omega) DS (.keep (be fun q hq => ?_) .nil)
  unfold upd
  by_cases h:q=i
  ·subst h;rw [if_pos Y,if_pos Z]
  ·rw [if_neg h]
   have e:q<i+1↔q<i:=by omega
   simp only [e]
 ·have hk:i=n:=by omega
  subst hk
  refine aX (av (av (aF (aa (ae (ai (st (ab Y) Y (st (ah Y) Y (Run.nil ?_)))))))))
  refine aa (aE (cq (t:=6) (i:=0) Y Y ?_))
  refine aT Tryz.results153 (.tmp Y (dX fun q hq => ?_))
  rw [if_pos hq]; exact VT.le_refl _
set_option maxHeartbeats 1000000 in
theorem yR (n:Nat) (φ ψ χ:Nat→VT) [hF : ∀ i,Flat (χ i) .one] (cl:VT) (hn:n≤1048576) (hC : ∀ i,i<n→fe Tryz.prog cl [φ i, ψ i] (χ i)):Ok Tryz.prog 158 [slT .one n φ,slT .one n ψ,cl] (slT .one n χ):=by
 refine Ok.enter Tryz.func158 Y Tryz.ntmps158 Y (fun w O => ?_)
 refine ae (ai (st (ah Y) Y (Run.nil (aa (ae (ai (st (ab Y) Y (st (aU Y) Y ?_))))))))
 refine bV n n Y Y Y Y (Nat.le_refl _) Y Y Z Y Y (fun bz => ?_)
 refine st (ah Y) Y (Run.nil (aa (ae (ae (ai (st (ab Y) Y (st (cx Y) Y (st (ab Y) Y (Run.nil ?_)))))))))
 refine aa (au ?_)
 refine cC (σ:=Nat) (fun i => [(0,slT .one n φ),(1,slT .one n ψ),(2,cl),(7,one (slV (some bz) n n)),(13,one (.int .i64 n)),(14,one (.int .i64 (i:Nat)))])
  (fun i => [aI (some bz) 32 .one n n (fun q=>if q<i then χ q else bJ)]) (fun i=>i≤n) (fun i=>n - i) 0 (Nat.zero_le _) DS (.keep (ec fun q hq=>by rw [if_neg Z]; exact jG _) .nil) (fun i hi => ?_)
 refine ae (ai (st (a7 Y Y) Y (Run.nil (aa (ae ?_)))))
 refine a8 Y (fun hc => ?_) (fun hc => ?_) <;> simp only [decide_eq_true_eq,decide_eq_false_iff_not,ne_eq,Decidable.not_not] at hc
 ·refine az (aa (ae (au (ae (ai (st (ab Y) Y (st (ah Y) Y (Run.nil (aa ?_)))))))))
  refine a6 13 aZ X S (st (ab Y) Y (st (ab Y) Y (st (ab Y) Y (st (ab Y) Y (st (ab Y) Y ?_)))))
  (refine st (aC Y Y ?_) Y ?_;omega)
  refine st (aM Y) Y (st (ab Y) Y (st (ab Y) Y ?_))
  (refine st (aC Y Y ?_) Y ?_;omega)
  refine st (aM Y) Y ?_
  refine st (ld (hC i Z) Y Y ⟨VT.le_refl _,VT.le_refl _,trivial⟩) Y ?_
  (refine st (ao Y Y ?_) Y ?_;omega)
  refine Run.nil ?_
  (refine aw 0 Y Y Y ?_ Y ?_;omega)
  refine Run.nil (aD (aa (ai ?_)))
  (refine st (cp Y Y (aP ?_ ?_)) Y ?_;omega;omega)
  refine st (ab Y) Y (Run.nil ?_)
  refine bU (s:=i) (i+1) (show _ from by omega) (by show n - (i+1)<n - i;omega) DS (.keep (be fun q hq => ?_) .nil)
  unfold upd
  by_cases h:q=i
  ·subst h;rw [if_pos Y,if_pos Z]
  ·rw [if_neg h]
   have e:q<i+1↔q<i:=by omega
   simp only [e]
 ·have hk:i=n:=by omega
  subst hk
  refine aX (av (av (aF (aa (ae (ai (st (ab Y) Y (st (ah Y) Y (Run.nil ?_)))))))))
  refine aa (aE (cq (t:=6) (i:=0) Y Y ?_))
  refine aT Tryz.results158 (.tmp Y (dX fun q hq => ?_))
  rw [if_pos hq]; exact VT.le_refl _
end Tor
end
section
namespace Tor
open Go Go.RowKit Go.Proofs
def bA:Nat→(Nat→Int)→Int
 | 0, _ => 0
 | n + 1, f => bA n f + f n
theorem dU {n:Nat} {f g:Nat→Int} (h : ∀ i,i<n→f i=g i):bA n f=bA n g:=by
 induction n with
 | zero => rfl
 | succ n ih => rw [bA, bA, ih (fun i hi => h i Z), h n Z]
theorem t9 {n B:Nat} {f:Nat→Int} (h : ∀ i,(f i).natAbs≤B):(bA n f).natAbs≤n*B:=by
 induction n with
 | zero => simp [bA]
 | succ n ih =>
  rw [bA,Nat.succ_mul]
  have:=h n
  omega
theorem pX {n:Nat} {f:Nat→Int} (hn:n≤1048576) (h : ∀ i,(f i).natAbs≤2^800):bm (bA n f) :=
 cY (t9 h) (Nat.lt_of_le_of_lt (Nat.mul_le_mul_right _ hn) U)
def ub (n:Nat) (F G:Nat→Nat→Int):Nat→Nat→Int:=fun i j=>bA n (fun k=>F i k*G k j)
theorem ka {n:Nat} {f:Nat→Int} : bA (n+1) f=bA n f+f n:=rfl
attribute [local irreducible] Tor.J Tor.PJ Tor.aK Tor.one Tor.slT Tor.bO Tor.bC Tor.bv Tor.exT Tor.cd Tor.eP Tor.aR Tor.aI Tor.slV Tor.VT.le Tor.Ret Tor.bJ
attribute [local irreducible] aL
set_option maxHeartbeats 4000000 in
theorem wG (r c:Nat) (v:Nat→Int) (G:Nat→Nat→Int) (hr:r≤1048576) (hc0:c≤1048576) (hv : ∀ i,oc (v i)) (hG : ∀ i j,oc (G i j)) :
  Ok Tryz.prog 143 [bD r v,bR r c G] (bD c (fun j=>bA r (fun k=>v k*G k j))):=by
 unfold bD bR
 refine Ok.enter Tryz.func143 Y Tryz.ntmps143 Y (fun w O => ?_)
 refine ae (ai ?_)
 refine aS Y Y (ltN Y) (fun b => ?_)
 refine st (ah Y) Y (Run.nil (aa (ae (ai (st (aj Y) Y (st (ak 0 Y Y Y) Y ?_))))))
 refine bV c c Y Y Y Y (Nat.le_refl _) Y Y Z Y Y (fun bz => ?_)
 refine st (ah Y) Y (Run.nil (aa (ae (ae (ai (st (ab Y) Y (st (aU Y) Y (st (ab Y) Y (Run.nil ?_)))))))))
 refine aa (au ?_)
 refine cC (σ:=Nat) (fun i => [(3,one (.pointer (some ⟨b,0,none⟩))),(5,one (slV (some bz) c c)),(13,slT (.agg 2) r (fun j=>aL (v j))),(14,one (.int .i64 r)),(15,one (.int .i64 (i:Nat)))])
  (fun i => [aI (some bz) 37 (.agg 2) c c (fun q=>aL (bA i (fun k=>v k*G k q))),aR b 30 3 [(0, .one,one (.int .i64 r)),(1, .one,one (.int .i64 c)),(2, .one,slT .one r (fun i=>bD c (G i)))]])
  (fun i=>i≤r) (fun i=>r - i) 0 (Nat.zero_le _) DS (.keep (ec fun q hq=>iQ) (SubM.refl _)) (fun i hi => ?_)
 unfold bD
 refine ae (ai (st (a7 Y Y) Y (Run.nil (aa (ae ?_)))))
 refine a8 Y (fun hc => ?_) (fun hc => ?_) <;> simp only [decide_eq_true_eq,decide_eq_false_iff_not,ne_eq,Decidable.not_not] at hc
 ·refine az (aa (ae (au (ae (ai (st (ab Y) Y ?_))))))
  (refine st (aC Y Y ?_) Y ?_;omega)
  refine st (aM Y) Y ?_
  refine aG (T:=37) Y (ltN Y) (fun b => ?_)
  refine st (ah Y) Y (aA 0 Y Y Y Y Y (leN Y) Y (Run.nil (aa (ae (ae (ai (st (ak 0 Y Y Y) Y ?_)))))))
  rename_i ba
  refine st (am (db (v i)) Y ⟨VT.le_refl _,trivial⟩) Y ?_
  refine st (ci Y Y) Y (Run.nil (aa ?_))
  refine a8 Y (fun hc2 => ?_) (fun hc2 => ?_) <;> simp only [decide_eq_true_eq,decide_eq_false_iff_not,eD] at hc2
  ·refine aX (av (aF (aa (ai ?_))))
   (refine st (cp Y Y (aP ?_ ?_)) Y ?_;omega;omega)
   refine st (ab Y) Y (Run.nil ?_)
   refine bU (s:=i) (i+1) (show _ from by omega) (by show r - (i+1)<r - i;omega) DS (.drop (.keep (be fun q hq => ?_) (SubM.refl _)))
   rw [ka,hc2]; simp
  ·refine az (aa (ae (ai (st (aj Y) Y (st (ak 2 Y Y Y) Y (st (ab Y) Y ?_))))))
   (refine st (aC Y Y ?_) Y ?_;omega)
   refine st (aM Y) Y (st (aU Y) Y (st (ab Y) Y (Run.nil (aa (au ?_)))))
   refine cC (σ:=Nat) (fun j => [(3,one (.pointer (some ⟨ba,0,none⟩))),(5,one (slV (some bz) c c)),(6,one (.int .i64 (i:Nat))),(7,one (.pointer (some ⟨b,0,none⟩))),(13,slT (.agg 2) r (fun j=>aL (v j))),(14,one (.int .i64 r)),(15,one (.int .i64 (i:Nat))),(27,slT (.agg 2) c (fun j=>aL (G i j))),(28,one (.int .i64 c)),(29,one (.int .i64 (j:Nat)))])
    (fun j => [aR b 37 2 [(0, .agg 2,aL (v i))],aI (some bz) 37 (.agg 2) c c (fun q=>aL (if q<j then bA (i+1) (fun k=>v k*G k q) else bA i (fun k=>v k*G k q))),aR ba 30 3 [(0, .one,one (.int .i64 r)),(1, .one,one (.int .i64 c)),(2, .one,slT .one r (fun i=>slT (.agg 2) c (fun j=>aL (G i j))))]])
    (fun j=>j≤c) (fun j=>c - j) 0 (Nat.zero_le _) DS (.keep DU (.keep (be fun q hq=>by rw [if_neg Z]) (SubM.refl _))) (fun j hj => ?_)
   refine ae (ai (st (a7 Y Y) Y (Run.nil (aa (ae ?_)))))
   refine a8 Y (fun hc3 => ?_) (fun hc3 => ?_) <;> simp only [decide_eq_true_eq,decide_eq_false_iff_not,Int.ofNat_lt] at hc3
   ·refine az (aa (ae (au (ae (ai (st (ab Y) Y ?_))))))
    (refine st (aC Y Y ?_) Y ?_;omega)
    refine st (aM Y) Y ?_
    refine aG (T:=37) Y (ltN Y) (fun b => ?_)
    refine st (ah Y) Y (aA 0 Y Y Y Y Y (leN Y) Y (Run.nil (aa (ae (ai (st (ak 0 Y Y Y) Y ?_))))))
    refine st (am (db (G i j)) Y ⟨VT.le_refl _,trivial⟩) Y ?_
    refine st (di Y Y) Y (Run.nil (aa ?_))
    refine a8 Y (fun hc4 => ?_) (fun hc4 => ?_) <;> simp only [decide_eq_true_eq,decide_eq_false_iff_not,ne_eq,Decidable.not_not,eD] at hc4
    ·skip
     refine a6 11 aZ X S (st (ab Y) Y (st (ab Y) Y (st (ab Y) Y (st (ab Y) Y ?_))))
     (refine st (ao Y Y ?_) Y ?_;omega)
     (refine st (bh 2 Y Y ?_) Y ?_;omega)
     refine st (ak 1 Y Y Y) Y (st (ak 0 Y Y Y) Y ?_)
     refine st (am (eR (v i) (G i j) (i7 (hv i)) (i7 (hG i j))) Y ⟨VT.le_refl _,VT.le_refl _,trivial⟩) Y ?_
     rw [if_neg (Nat.lt_irrefl j)]
     refine st (am (j6 (bA i (fun k=>v k*G k j)) (v i*G i j) (pX Z (fun k=>lM (hv k) (hG k j))) (cY (lM (hv i) (hG i j)) U)) Y ⟨VT.le_refl _,VT.le_refl _,trivial⟩) Y ?_
     (refine st (ao Y Y ?_) Y ?_;omega)
     refine Run.nil ?_
     (refine aw 2 Y Y Y ?_ Y ?_;omega)
     refine Run.nil (aD (aa (ai ?_)))
     (refine st (cp Y Y (aP ?_ ?_)) Y ?_;omega;omega)
     refine st (ab Y) Y (Run.nil ?_)
     refine bU (s:=j) (j+1) (show _ from by omega) (by show c - (j+1)<c - j;omega) DS (.drop (.keep DU (.keep (be fun q hq => ?_) (SubM.refl _))))
     unfold upd
     by_cases h:q=j
     ·subst h;rw [if_pos Y,if_pos Z]; rfl
     ·rw [if_neg h]
      have e:q<j+1↔q<j:=by omega
      simp only [e]
    ·refine az (aD (aa (ai ?_)))
     (refine st (cp Y Y (aP ?_ ?_)) Y ?_;omega;omega)
     refine st (ab Y) Y (Run.nil ?_)
     refine bU (s:=j) (j+1) (show _ from by omega) (by show c - (j+1)<c - j;omega) DS (.drop (.keep DU (.keep (be fun q hq => ?_) (SubM.refl _))))
     by_cases h:q=j
     ·subst h;rw [if_neg (Nat.lt_irrefl _),if_pos Z,ka,hc4]; simp
     ·have e:q<j+1↔q<j:=by omega
      simp only [e]
   ·refine aX (av (av (aF (aD (aa (ai ?_))))))
    (refine st (cp Y Y (aP ?_ ?_)) Y ?_;omega;omega)
    refine st (ab Y) Y (Run.nil ?_)
    refine bU (s:=i) (i+1) (show _ from by omega) (by show r - (i+1)<r - i;omega) DS (.drop (.keep (be fun q hq => ?_) (SubM.refl _)))
    rw [if_pos Z]
 ·have hk:i=r:=by omega
  subst hk
  refine aX (av (av (aF (aa (ae (ai (st (ab Y) Y (st (ah Y) Y (Run.nil ?_)))))))))
  refine aa (aE (cq (t:=4) (i:=0) Y Y ?_))
  exact aT Tryz.results143 (.tmp Y H)
end Tor
end
section
namespace Tor
open Go Go.RowKit Go.Proofs
instance:Idle Tryz.prog 179:=Idle.of Tryz.func179 Y Tryz.ntmps179 Tryz.results179
instance:Idle Tryz.prog 142:=Idle.of Tryz.func142 Y Tryz.ntmps142 Tryz.results142
def Do (ok:Bool) (e:Int) (n:Nat) (f:Nat→Int):VT:=bv [bD (if ok then n else 0) f,one (.int .i64 (if ok then 0 else e))]
attribute [local irreducible] Tor.J Tor.PJ Tor.aK Tor.one Tor.slT Tor.bO Tor.bC Tor.bv Tor.exT Tor.cd Tor.eP Tor.aR Tor.aI Tor.slV Tor.VT.le Tor.Ret Tor.bJ
attribute [local irreducible] Tor.dY
set_option maxHeartbeats 2000000 in
theorem CB (r c:Nat) (hr:r≤1048576) (hc0:c≤1048576):OkM Tryz.prog 159 [one (.int .i64 r),one (.int .i64 c)] (m8 r c) (fun s => [iS s.1.2.1 s.1.2.2 r c s.1.1,fX c s.1.1 (fun _ _=>0)]):=by
 refine OkM.enterD Tryz.func159 Y Tryz.ntmps159 Y (fun w O => ?_)
 have e1:max (r:Int) 0=r:=by omega
 have e2:max (c:Int) 0=c:=by omega
 refine ae (ai ?_)
 refine bq (T:=30) Y Y Y (fun b => ?_)
 refine Run.nil (aa (ae (ai (uS Y (Run.nil (aa (ae (ai (st (ab Y) Y ?_)))))))))
 refine st (po Y Y) Y (st (ab Y) Y (st (po Y Y) Y (st (ah Y) Y (st (ah Y) Y (Run.nil (aa (ae (ai (st (ab Y) Y ?_)))))))))
 rw [e1,e2]
 refine bV r r Y Y Y Y (Nat.le_refl _) Y Y Z Y Y (fun bo => ?_)
 refine st (ah Y) Y (Run.nil (aa (ae (ae (ai (st (ab Y) Y (st (cx Y) Y (st (ab Y) Y (Run.nil ?_)))))))))
 refine aa (au ?_)
 refine f8 (ConvM.rows0 (T:=37) (L := .agg 2) (c:=c) (φ:=fun _ _=>aL 0) _) ?_
 refine cC (σ:=List Nat) (fun s => [(0,one (.int .i64 r)),(1,one (.int .i64 c)),(4,one (.pointer (some ⟨b,0,none⟩))),(5,one (slV (some bo) r r)),(14,one (.int .i64 r)),(15,one (.int .i64 s.length))])
  (fun s => [aI (some bo) 32 .one r r (fun q=>if q<s.length then one (slV (some (s.getD q 0)) c c) else bJ),aR b 30 3 (dx #[Value.int IntKind.i64 0,Value.int IntKind.i64 0,Value.slice none 0 0] [(0,Lay.one),(1,Lay.one),(2,Lay.one)]),fX c s (fun _ _=>0)])
  (fun s=>s.length≤r) (fun s=>r - s.length) [] (Nat.zero_le _) DS (.keep (ec fun q hq=>by rw [if_neg (by simp)]; exact jG _) (SubM.refl _)) (fun bs hk => ?_)
 refine ae (ai (st (a7 Y Y) Y (Run.nil (aa (ae ?_)))))
 refine a8 Y (fun hc => ?_) (fun hc => ?_) <;> simp only [decide_eq_true_eq,decide_eq_false_iff_not,ne_eq,Decidable.not_not] at hc
 ·refine az (aa (ae (au (ae (ai (st (ab Y) Y (st (ah Y) Y (Run.nil (aa ?_)))))))))
  refine ai (st (ab Y) Y (st (ab Y) Y (st (ab Y) Y ?_)))
  refine bV c c Y Y Y Y (Nat.le_refl _) Y Y Z Y Y (fun bz => ?_)
  (refine st (ao Y Y ?_) Y ?_;omega)
  (refine aw 1 Y Y Y ?_ Y ?_;omega)
  refine Run.nil (aD (aa (ai ?_)))
  (refine st (cp Y Y (aP ?_ ?_)) Y ?_;omega;omega)
  refine st (ab Y) Y (Run.nil (fc (ConvM.row (k:=2) Y) (bU (s:=bs) (bs ++ [bz]) (by simp;omega) (by simp;omega) (.cons Y H (.cons Y H (.cons Y H (.cons Y H (.cons Y H (.cons Y (ar (by simp)) .nil)))))) ?_)))
  refine .keep (be (fun q hq => ?_)) (.keep DU (.keep (nL fun i j hi hj => ?_) .nil))
  ·unfold upd
   by_cases h:q=bs.length
   ·subst h;simp
   ·rw [if_neg h]
    show (if q<bs.length then one (slV (some (bs.getD q 0)) c c) else bJ)=_
    by_cases h2:q<bs.length
    ·rw [if_pos h2,if_pos (by simp;omega)]; simp [List.getElem?_append_left h2]
    ·rw [if_neg h2,if_neg (by simp;omega)]
  ·simp only
   split
   ·exact VT.le_refl _
   ·exact iQ
 ·have hlen:bs.length=r:=by omega
  subst hlen
  refine aX (av (av (aF (aa (ae (ai (st (ab Y) Y (st (ab Y) Y (st (ab Y) Y ?_)))))))))
  refine stB Y Y Y (BuildK.cons Y Y Y (BuildK.cons Y Y Y (BuildK.cons Y Y Y (BuildK.nil (a4 1 Y Y Y Y (Run.nil (aa (aE ?_))))))))
  refine qu (kt ⟨(bs,some bo,bs.length),rfl,fun h=>by cases h⟩ Tryz.results159 (.cellW 1 Y Y H) ?_)
  refine .keep (be fun q hq => ?_) (.drop (SubM.refl _))
  rw [if_pos hq]
attribute [local irreducible] aL
set_option maxHeartbeats 2000000 in
theorem sO (n:Nat) (hn:n≤1048576):Ok Tryz.prog 137 [one (.int .i64 n)] (bR n n (fun i j=>if i=j then 1 else 0)):=by
 refine Ok.enter Tryz.func137 Y Tryz.ntmps137 Y (fun w O => ?_)
 refine ae (ai ?_)
 refine bq (T:=30) Y Y Y (fun b => ?_)
 refine Run.nil (aa (ae (ai (st (ab Y) Y (st (ab Y) Y ?_)))))
 refine gl (CB n n hn hn) Y ⟨VT.le_refl _,VT.le_refl _,trivial⟩ Y Y (fun s => ?_)
 obtain ⟨⟨bs,sv1,cap1⟩,hlen,hsv⟩:=s
 simp only at hlen hsv
 unfold m8
 refine bq (T:=30) Y Y Y (fun b => ?_)
 refine a4 0 Y Y Y Y (Run.nil (aa (ae (ae (ai (st (aj Y) Y (st (ak 0 Y Y Y) Y (st (cx Y) Y (st (ab Y) Y ?_)))))))))
 refine Run.nil (aa (au ?_))
 rename_i b2
 refine cC (σ:=Nat) (fun i => [(2,one (.pointer (some ⟨b2,0,none⟩))),(3,one (.pointer (some ⟨b,0,none⟩))),(10,one (.int .i64 n)),(11,one (.int .i64 (i:Nat)))])
  (fun i => [aR b 30 3 [(0, .one,one (.int .i64 n)),(1, .one,one (.int .i64 n)),(2, .one,one (slV sv1 n cap1))],iS sv1 cap1 n n bs,fX n bs (fun q k=>if q<i then (if q=k then 1 else 0) else 0),
   aR b2 30 3 (dx #[Value.int IntKind.i64 0,Value.int IntKind.i64 0,Value.slice none 0 0] [(0,Lay.one),(1,Lay.one),(2,Lay.one)])])
  (fun i=>i≤n) (fun i=>n - i) 0 (Nat.zero_le _) DS (.keep DU (.keep DU (.keep (gu fun i j hi hj=>by simp) (SubM.refl _)))) (fun i hi => ?_)
 refine ae (ai (st (a7 Y Y) Y (Run.nil (aa (ae ?_)))))
 refine a8 Y (fun hc => ?_) (fun hc => ?_) <;> simp only [decide_eq_true_eq,decide_eq_false_iff_not,ne_eq,Decidable.not_not] at hc
 ·obtain ⟨bo,rfl⟩:=gv hsv Z
  refine az (aa (ae (au (ae (ai (st (ab Y) Y (st (ah Y) Y (Run.nil (aa ?_)))))))))
  refine a6 8 aZ X S (st (aj Y) Y (st (ak 0 Y Y Y) Y (st (ab Y) Y ?_)))
  (refine st (ao Y Y ?_) Y ?_;omega)
  (refine st (bh 1 Y Y ?_) Y ?_;omega)
  refine st (ab Y) Y ?_
  refine st (am (jn 1 S S) Y ⟨VT.le_refl _,trivial⟩) Y ?_
  (refine st (ao Y Y ?_) Y ?_;omega)
  refine Run.nil ?_
  (refine jz 2 Y Y Y (wF ?_) ?_ Y ?_;omega;omega)
  refine Run.nil (aD (aa (ai ?_)))
  (refine st (cp Y Y (aP ?_ ?_)) Y ?_;omega;omega)
  refine st (ab Y) Y (Run.nil ?_)
  refine bU (s:=i) (i+1) (show _ from by omega) Z DS (.keep DU (.keep DU (.keep (k9 fun q k hq hk => ?_) (SubM.refl _))))
  unfold m4
  by_cases h:q=i
  ·subst h
   by_cases h2:k=q
   ·subst h2;simp
   ·have h3 : ¬ q=k:=fun e=>h2 e.symm
    simp [h2,h3]
  ·have h3:q<i+1↔q<i:=by omega
   simp [h,h3]
 ·have hin:i=n:=by omega
  subst hin
  refine aX (av (av (aF (aa (ae (ai (st (aO 0 Y Y) Y (a4 3 Y Y Y Y (Run.nil ?_)))))))))
  refine aa (aE ?_)
  have hperm : ∀ (x y z u:Own), [x,y,z,u].Perm ([y,z] ++ [x,u]):=fun x y z u=>(List.Perm.swap y x _).trans (List.Perm.cons y (List.Perm.swap z x _))
  refine gm [iS sv1 cap1 i i bs,fX i bs (fun q k=>if q<i then (if q=k then 1 else 0) else 0)] (hperm _ _ _ _) (.keep (v8.refl _) (.keep (v8.box (iT hlen ⟨by simp,by simp,by simp⟩)) .nil)) (v9.refl _) ?_
  refine aT Tryz.results137 (.cellW 1 Y Y ?_)
  exact nq fun a b ha hb=>by simp [ha]
set_option maxHeartbeats 2000000 in
theorem yS (n:Nat) (v:Nat→Int) (r c:Nat) (G:Nat→Nat→Int) (hr:r≤1048576) (hc0:c≤1048576) (hv : ∀ i,oc (v i)) (hG : ∀ i j,oc (G i j)) :
  Ok Tryz.prog 94 [bD n v,bR r c G] (Do (decide (n=r)) 50 c (fun j=>bA r (fun k=>v k*G k j))):=by
 unfold Do
 refine Ok.enterD Tryz.func94 Y Tryz.ntmps94 Y (fun w O => ?_)
 refine iA (t:=0) Y (fun _ _=>eC) (fun hb => ?_)
 unfold bR
 refine ae (ai ?_)
 refine aS Y Y (ltN Y) (fun b => ?_)
 refine st (ah Y) Y (st (ah Y) Y (Run.nil (aa (ae (ai (uS Y (Run.nil (aa (ae ?_)))))))))
 refine ae (ai (st (aO 0 Y Y) Y ?_))
 refine st (am (fo r c G) Y ⟨VT.le_refl _,trivial⟩) Y ?_
 unfold bD
 refine st (cK Y) Y (st (ab Y) Y (sg1 Y Y (ab Y) Y (sg1 Y Y (aU Y) Y (sg1 Y Y (aj Y) Y (sg1 Y Y (ak 0 Y Y Y) Y (sg1 Y Y (di Y Y) Y (st (bF Y Y) Y (Run.nil (aa ?_)))))))))
 refine a8 Y (fun hc => ?_) (fun hc => ?_) <;> simp only [decide_eq_true_eq,decide_eq_false_iff_not,ne_eq,Decidable.not_not] at hc
 ·have hne : ¬ n=r:=by omega
  refine ae (ai (st (ah Y) Y (st (ah Y) Y (Run.nil (aa (aE (aW ?_)))))))
  refine qu (cV Tryz.results94 (.tmp Y ?_) (.tmp Y (ar ?_)))
  ·rw [decide_eq_false hne]; exact eQ
  ·rw [decide_eq_false hne]; rfl
 ·have he:n=r:=by omega
  subst he
  refine az (aa (ae (ai (st (ab Y) Y (st (aO 0 Y Y) Y ?_)))))
  refine st (am (wG n c v G hr hc0 hv hG) Y ⟨VT.le_refl _,VT.le_refl _,trivial⟩) Y ?_
  refine st (ah Y) Y (st (ah Y) Y (Run.nil (aa (aE ?_))))
  refine qu (cV Tryz.results94 (.tmp Y ?_) (.tmp Y (ar ?_)))
  ·simp only [decide_true]; exact VT.le_refl _
  ·simp
end Tor
end
section
namespace Tor
open Go Go.RowKit Go.Proofs
def mS (ok:Bool) (e:Int) (r c:Nat) (F:Nat→Nat→Int):VT:=bv [bR (if ok then r else 0) (if ok then c else 0) F,one (.int .i64 (if ok then 0 else e))]
theorem lU (F:Nat→Nat→Int):VT.le (bC 3 (dx #[Value.int IntKind.i64 0,Value.int IntKind.i64 0,Value.slice none 0 0] [(0,Lay.one),(1,Lay.one),(2,Lay.one)])) (bR 0 0 F):=by
 unfold bR
 refine eO (fun q hq => ?_)
 rcases List.mem_cons.1 hq with rfl | hq
 ·exact ⟨_,List.mem_cons_self,VT.le_refl _⟩
 rcases List.mem_cons.1 hq with rfl | hq
 ·exact ⟨_,List.mem_cons_of_mem _ List.mem_cons_self,VT.le_refl _⟩
 rcases List.mem_cons.1 hq with rfl | hq
 ·exact ⟨_,List.mem_cons_of_mem _ (List.mem_cons_of_mem _ List.mem_cons_self),eQ⟩
 ·cases hq
theorem kb:VT.le (bC 2 (dx #[Value.bool false,Value.slice none 0 0] [(0,Lay.one),(1,Lay.one)])) (aL 0):=by
 unfold aL
 refine eO (fun q hq => ?_)
 rcases List.mem_cons.1 hq with rfl | hq
 ·exact ⟨_,List.mem_cons_self,VT.le_refl _⟩
 rcases List.mem_cons.1 hq with rfl | hq
 ·exact ⟨_,List.mem_cons_of_mem _ List.mem_cons_self,eQ⟩
 ·cases hq
attribute [local irreducible] Tor.J Tor.PJ Tor.aK Tor.one Tor.slT Tor.bO Tor.bC Tor.bv Tor.exT Tor.cd Tor.eP Tor.aR Tor.aI Tor.slV Tor.VT.le Tor.Ret Tor.bJ
attribute [local irreducible] aL
set_option maxHeartbeats 2000000 in
theorem CD (n m:Nat) (f g:Nat→Int) (hn:n≤1048576) (hm:m≤1048576) (hf : ∀ i,oc (f i)) (hg : ∀ i,oc (g i)) :
  Ok Tryz.prog 130 [bD n f,bD m g] (bv [aL (if n=m then bA n (fun k=>f k*g k) else 0),one (.int .i64 (if n=m then 0 else 50))]):=by
 unfold bD
 refine Ok.enter Tryz.func130 Y Tryz.ntmps130 Y (fun w O => ?_)
 refine ae (ai ?_)
 refine aG (T:=37) Y (ltN Y) (fun b => ?_)
 refine st (ah Y) Y (Run.nil (aa (ae (ae (ai (st (ab Y) Y (st (aU Y) Y (st (ab Y) Y (st (aU Y) Y ?_)))))))))
 refine st (di Y Y) Y (Run.nil (aa ?_))
 refine a8 Y (fun hc => ?_) (fun hc => ?_) <;> simp only [decide_eq_true_eq,decide_eq_false_iff_not,ne_eq,Decidable.not_not] at hc
 ·have hne : ¬ n=m:=by omega
  refine ae (ai (stB Y Y Y (BuildK.nil (aA 0 Y Y Y Y Y (leN Y) Y (st (ah Y) Y (Run.nil (aa (aE (aW ?_)))))))))
  refine cV Tryz.results130 (.cellB 0 Y Y Y ?_) (.tmp Y (ar ?_))
  ·rw [if_neg hne]; exact kb
  ·rw [if_neg hne]
 ·have he:n=m:=by omega
  subst he
  refine az (aa (ae (ai ?_)))
  refine aG (T:=37) Y (ltN Y) (fun b => ?_)
  refine Run.nil (aa (ae (ae (ai (st (ab Y) Y (st (ab Y) Y ?_))))))
  rename_i b4
  refine st (am (yQ n (fun j=>aL (f j)) (fun j=>aL (g j)) (fun j=>aL (f j*g j)) (one (.func (.func 54) #[] #[])) hn (fun i hi=>fe.fn (eR _ _ (i7 (hf i)) (i7 (hg i))))) Y ⟨VT.le_refl _,VT.le_refl _,VT.le_refl _,trivial⟩) Y ?_
  refine st (aU Y) Y (st (ab Y) Y (Run.nil (aa (au ?_))))
  refine cC (σ:=Nat) (fun i => [(4,one (.pointer (some ⟨b4,0,none⟩))),(6,one (.pointer (some ⟨b,0,none⟩))),(17,slT (.agg 2) n (fun j=>aL (f j*g j))),(18,one (.int .i64 n)),(19,one (.int .i64 (i:Nat)))])
   (fun i => [aR b 37 2 [(0, .agg 2,aL (bA i (fun k=>f k*g k)))],aR b4 37 2 [(0, .agg 2,one (.agg #[.bool false, .slice none 0 0]))]])
   (fun i=>i≤n) (fun i=>n - i) 0 (Nat.zero_le _) DS (.keep (qo fun q hq=>by rcases List.mem_cons.1 hq with rfl | hq;exact ⟨_,List.mem_cons_self,iQ⟩;cases hq) (SubM.refl _)) (fun i hi => ?_)
  refine ae (ai (st (a7 Y Y) Y (Run.nil (aa (ae ?_)))))
  refine a8 Y (fun hc => ?_) (fun hc => ?_) <;> simp only [decide_eq_true_eq,decide_eq_false_iff_not,Int.ofNat_lt] at hc
  ·refine az (aa (ae (au (ae (ai ?_)))))
   (refine st (aC Y Y ?_) Y ?_;omega)
   refine st (aM Y) Y ?_
   refine aG (T:=37) Y (ltN Y) (fun b => ?_)
   refine aA 0 Y Y Y Y Y (leN Y) Y (Run.nil (aa (ai (st (ak 1 Y Y Y) Y (st (ak 0 Y Y Y) Y ?_)))))
   refine st (am (j6 (bA i (fun k=>f k*g k)) (f i*g i) (pX Z (fun k=>lM (hf k) (hg k))) (cY (lM (hf i) (hg i)) U)) Y ⟨VT.le_refl _,VT.le_refl _,trivial⟩) Y ?_
   refine aA 1 Y Y Y Y Y (leN Y) Y (Run.nil (aD (aa (ai ?_))))
   (refine st (cp Y Y (aP ?_ ?_)) Y ?_;omega;omega)
   refine st (ab Y) Y (Run.nil ?_)
   exact bU (s:=i) (i+1) (show _ from by omega) (by show n - (i+1)<n - i;omega) DS (.drop (.keep DU (SubM.refl _)))
  ·have hin:i=n:=by omega
   subst hin
   refine aX (av (av (aF (aa (ae (ai (st (ak 0 Y Y Y) Y (aA 1 Y Y Y Y Y (leN Y) Y (st (ah Y) Y ?_)))))))))
   refine Run.nil (aa (aE ?_))
   refine cV Tryz.results130 (.cellB 1 Y Y Y ?_) (.tmp Y (ar ?_))
   ·rw [if_pos Y]; exact VT.le_refl _
   ·rw [if_pos Y]
set_option maxHeartbeats 2000000 in
theorem wH (ra ca:Nat) (F:Nat→Nat→Int) (rb cb:Nat) (G:Nat→Nat→Int) (h1:ra≤1048576) (h2:ca≤1048576) (h4:cb≤1048576) (hF : ∀ i j,bm (F i j)) (hG : ∀ i j,bm (G i j)) :
  Ok Tryz.prog 136 [bR ra ca F,bR rb cb G] (mS (decide (ra=rb)) 50 ra (ca+cb) (fun i k=>if k<ca then F i k else G i (k - ca))):=by
 unfold mS
 refine Ok.enter Tryz.func136 Y Tryz.ntmps136 Y (fun w O => ?_)
 have hI : ∀ (φ:VT), φ=φ:=fun _=>rfl
 unfold bR
 refine ae (ai ?_)
 refine aS Y Y (ltN Y) (fun b => ?_)
 refine aS Y Y (ltN Y) (fun b => ?_)
 refine bq (T:=30) Y Y Y (fun b => ?_)
 refine st (ah Y) Y (Run.nil (aa (ae (ae (ai (st (aO 2 Y Y) Y (st (aO 1 Y Y) Y (stS Y Y Y Y (PartsK.cons Y ?_)))))))))
 refine PartsK.cons Y (PartsK.nil ?_)
 refine st (am (pV ra ca F rb cb G) Y ⟨sN,trivial⟩) Y ?_
 refine st (cK Y) Y (st (ab Y) Y (sg1 Y Y (aj Y) Y (sg1 Y Y (ak 2 Y Y Y) Y (sg1 Y Y (aj Y) Y (sg1 Y Y (ak 1 Y Y Y) Y (sg1 Y Y (di Y Y) Y (st (bF Y Y) Y (Run.nil (aa ?_)))))))))
 refine a8 Y (fun hc => ?_) (fun hc => ?_) <;> simp only [decide_eq_true_eq,decide_eq_false_iff_not,ne_eq,Decidable.not_not] at hc
 ·have hne : ¬ ra=rb:=by omega
  refine ae (ai (stB Y Y Y (BuildK.nil (a4 0 Y Y Y Y (st (ah Y) Y (Run.nil (aa (aE (aW ?_)))))))))
  refine cV Tryz.results136 (.cellW 0 Y Y ?_) (.tmp Y (ar ?_))
  ·rw [decide_eq_false hne]; exact lU _
  ·rw [decide_eq_false hne]; rfl
 ·have he:ra=rb:=by omega
  subst he
  refine az (aa (ae (a6 13 aZ X S (st (aj Y) Y (st (ak 2 Y Y Y) Y (st (aj Y) Y (st (ak 2 Y Y Y) Y (st (aj Y) Y (st (ak 1 Y Y Y) Y ?_)))))))))
  (refine st (cp Y Y (aP ?_ ?_)) Y ?_;omega;omega)
  refine st (aj Y) Y (st (ak 2 Y Y Y) Y (st (aj Y) Y (st (ak 1 Y Y Y) Y ?_)))
  refine st (am (yR ra (fun i=>bD ca (F i)) (fun i=>bD cb (G i)) (fun i=>bD (ca+cb) (fun k=>if k<ca then F i k else G i (k - ca))) (hF:=fun i=>by unfold bD;infer_instance) (one (.func (.func 83) #[] #[])) h1 (fun i hi=>fe.fn (pW ca cb (F i) (G i) h2 h4 (hF i) (hG i)))) Y ⟨VT.le_refl _,VT.le_refl _,VT.le_refl _,trivial⟩) Y ?_
  refine stB Y Y Y (BuildK.cons Y Y Y (BuildK.cons Y Y Y (BuildK.cons Y Y Y (BuildK.nil (Run.nil (a4 0 Y Y Y Y (st (ah Y) Y (Run.nil (aa ?_)))))))))
  refine aE ?_
  refine cV Tryz.results136 (.cellW 0 Y Y ?_) (.tmp Y (ar ?_))
  ·simp only [decide_true,if_true]
   exact VT.le_refl _
  ·simp
end Tor
end
section
namespace Tor
open Go Go.RowKit Go.Proofs
def gg (F:Nat→Nat→Int) (i j:Nat):Nat→Nat→Int:=fun q k=>if q<i∨(q=i∧k<j) then F q k else 0
theorem pY {T:TypeId} {c:Nat} {bs:List Nat} {F:Nat→Nat→Int} {i j:Nat} (x:Int) (hx:x=F i j) :
  Own.le (dY T (.agg 2) c bs (m4 (fun q k=>aL (gg F i j q k)) i j (aL x))) (dY T (.agg 2) c bs (fun q k=>aL (gg F i (j+1) q k))):=by
 subst hx
 refine k9 fun q k hq hk => ?_
 unfold m4 gg
 by_cases h:q=i∧k=j
 ·obtain ⟨rfl,rfl⟩:=h;simp
 ·rw [if_neg h]
  have e:(q<i∨q=i∧k<j+1)↔(q<i∨q=i∧k<j):=by omega
  simp only [e]
theorem ow {c:Nat} {bs:List Nat} {F:Nat→Nat→Int} {i:Nat} : Own.le (fX c bs (gg F i c)) (fX c bs (gg F (i+1) 0)):=by
 refine gu fun q k hq hk => ?_
 unfold gg
 have e:(q<i∨q=i∧k<c)↔(q<i+1∨q=i+1∧k<0):=by omega
 simp only [e]
attribute [local irreducible] Tor.J Tor.PJ Tor.aK Tor.one Tor.slT Tor.bO Tor.bC Tor.bv Tor.exT Tor.cd Tor.eP Tor.aR Tor.aI Tor.slV Tor.VT.le Tor.Ret Tor.bJ
attribute [local irreducible] aL Tor.dY
end Tor
end
section
namespace Tor
open Go Go.RowKit Go.Proofs
theorem ConvM.nilSl {T:TypeId} {L:Lay} {φ:Nat→VT} (M:Mem):ConvM M (aI none T L 0 0 φ :: M) :=
 ⟨by simp [aI],fun g h DP o ho=>by
  rcases List.mem_cons.1 ho with rfl | ho
  ·exact ⟨Nat.le_refl _,by decide,fun _=>rfl,fun b hb=>by cases hb⟩
  ·exact DP o ho⟩
def kq (ra rb i:Nat):Nat:=if i=0 then 0 else if i=1 then ra else ra+rb
def dn (ra:Nat) (F G:Nat→Nat→Int):Nat→Nat→Int:=fun i k=>if i<ra then F i k else G (i - ra) k
attribute [local irreducible] Tor.J Tor.PJ Tor.aK Tor.one Tor.slT Tor.bO Tor.bC Tor.bv Tor.exT Tor.cd Tor.eP Tor.aR Tor.aI Tor.slV Tor.VT.le Tor.Ret Tor.bJ
set_option maxHeartbeats 8000000 in
theorem yT (ra ca:Nat) (F:Nat→Nat→Int) (rb cb:Nat) (G:Nat→Nat→Int) (h1:ra≤1048576) (h2:ca≤1048576) (h3:rb≤1048576) (hF : ∀ i j,bm (F i j)) (hG : ∀ i j,bm (G i j)) :
  Ok Tryz.prog 52 [bR ra ca F,bR rb cb G] (mS (decide (ca=cb)) 50 (ra+rb) ca (dn ra F G)):=by
 unfold mS
 refine Ok.enter Tryz.func52 Y Tryz.ntmps52 Y (fun w O => ?_)
 unfold bR
 refine ae (ai ?_)
 refine aS Y Y (ltN Y) (fun b => ?_)
 refine aS Y Y (ltN Y) (fun b => ?_)
 refine bq (T:=30) Y Y Y (fun b => ?_)
 refine st (ah Y) Y (Run.nil (aa (ae (ae (ai (st (aO 2 Y Y) Y (st (aO 1 Y Y) Y (stS Y Y Y Y (PartsK.cons Y ?_)))))))))
 refine PartsK.cons Y (PartsK.nil ?_)
 refine st (am (pV ra ca F rb cb G) Y ⟨sN,trivial⟩) Y ?_
 refine st (cK Y) Y (st (ab Y) Y (sg1 Y Y (aj Y) Y (sg1 Y Y (ak 2 Y Y Y) Y (sg1 Y Y (aj Y) Y (sg1 Y Y (ak 1 Y Y Y) Y (sg1 Y Y (di Y Y) Y (st (bF Y Y) Y (Run.nil (aa ?_)))))))))
 refine a8 Y (fun hc => ?_) (fun hc => ?_) <;> simp only [decide_eq_true_eq,decide_eq_false_iff_not,ne_eq,Decidable.not_not] at hc
 ·have hne : ¬ ca=cb:=by omega
  refine ae (ai (stB Y Y Y (BuildK.nil (a4 0 Y Y Y Y (st (ah Y) Y (Run.nil (aa (aE (aW ?_)))))))))
  refine cV Tryz.results52 (.cellW 0 Y Y ?_) (.tmp Y (ar ?_))
  ·rw [decide_eq_false hne]; exact lU _
  ·rw [decide_eq_false hne]; rfl
 ·have he:ca=cb:=by omega
  subst he
  refine az (aa (ae (ai (st (aj Y) Y (st (ak 2 Y Y Y) Y (st (aj Y) Y (st (ak 1 Y Y Y) Y ?_)))))))
  (refine st (cp Y Y (aP ?_ ?_)) Y ?_;omega;omega)
  refine st (aj Y) Y (st (ak 2 Y Y Y) Y (stB Y Y Y (BuildK.cons Y Y Y (BuildK.cons Y Y Y (BuildK.nil ?_)))))
  refine bq (T:=30) Y Y Y (fun b => ?_)
  refine a4 0 Y Y Y Y (Run.nil (aa (ae (ae (ai (st (aO 3 Y Y) Y (st (aO 2 Y Y) Y (stB Y Y Y (BuildK.cons Y Y Y ?_)))))))))
  refine BuildK.cons Y Y Y (BuildK.nil (st (ab Y) Y (Run.nil (aa (au ?_)))))
  rename_i b2 b3 b4
  have hlk1 : ∀ i,i<2→eH [(0,Lay.agg 3,bR ra ca F),(3,Lay.agg 3,bR rb ca G)] (i*(Lay.agg 3).sz)=some (.agg 3,bR (if i=0 then ra else rb) ca (if i=0 then F else G)):=fun i hi=>by
   rcases i with _ | _ | i
   ·rfl
   ·rfl
   ·omega
  have hsm1 : ∀ i j k,bm ((if i=0 then F else G) j k):=fun i j k=>by split <;> first | exact hF _ _ | exact hG _ _
  revert b
  intro b6
  refine f8 (ConvM.nilSl (T:=32) (L := .one) (φ:=fun q=>bD ca (dn ra F G q)) _) ?_
  refine cC (σ:=Nat × Option Nat × Nat) (fun s => [(4,one (.pointer (some ⟨b4,0,none⟩))),(6,one (.pointer (some ⟨b6,0,none⟩))),(34,bC 6 [(0, .agg 3,bR ra ca F),(3, .agg 3,bR rb ca G)]),(35,one (.int .i64 (s.1:Nat)))])
   (fun s => [aI s.2.1 32 .one s.2.2 (kq ra rb s.1) (fun q=>bD ca (dn ra F G q)),aR b6 30 3 [(0, .one,one (.int .i64 ((ra:Int)+rb))),(1, .one,one (.int .i64 ca)),(2, .one,one (slV s.2.1 (kq ra rb s.1) s.2.2))],
    aR b4 30 3 (dx #[Value.int IntKind.i64 0,Value.int IntKind.i64 0,Value.slice none 0 0] [(0,Lay.one),(1,Lay.one),(2,Lay.one)])])
   (fun s=>s.1≤2) (fun s=>2 - s.1) (0,none,0) (Nat.zero_le _) DS (.keep DU (.keep (qo fun q hq => ?_) (.keep DU (SubM.nilR _)))) (fun s hs => ?_)
  ·rcases List.mem_cons.1 hq with rfl | hq
   ·exact ⟨_,List.mem_cons_self,VT.le_refl _⟩
   rcases List.mem_cons.1 hq with rfl | hq
   ·exact ⟨_,List.mem_cons_of_mem _ List.mem_cons_self,VT.le_refl _⟩
   rcases List.mem_cons.1 hq with rfl | hq
   ·exact ⟨one (.slice none 0 0),List.mem_cons_of_mem _ (List.mem_cons_of_mem _ List.mem_cons_self),ar (by simp [kq,slV])⟩
   ·cases hq
  obtain ⟨i,sv0,cap0⟩:=s
  simp only at hs ⊢
  refine ae (ai (st (a7 Y Y) Y (Run.nil (aa (ae ?_)))))
  refine a8 Y (fun hc => ?_) (fun hc => ?_) <;> simp only [decide_eq_true_eq,decide_eq_false_iff_not] at hc
  ·have hi2:i<2:=by omega
   have hup:kq ra rb i≤2097152∧kq ra rb i+(if i=0 then ra else rb)=kq ra rb (i+1)∧kq ra rb i+(if i=0 then ra else rb)≤2097152:=by
    unfold kq
    rcases i with _ | _ | i
    ·simp;omega
    ·simp;omega
    ·omega
   have hrow : ∀ j,j<(if i=0 then ra else rb)→(if i=0 then F else G) j=dn ra F G (kq ra rb i+j):=fun j hj=>by
    unfold kq dn
    rcases i with _ | _ | i
    ·simp at hj ⊢; funext k;rw [if_pos hj]
    ·simp;funext k;rw [if_neg Z]
    ·omega
   have hlk:=hlk1 i hi2
   have hsm:=fun j k=>hsm1 i j k
   generalize (if i=0 then F else G)=DP at *
   generalize (if i=0 then ra else rb)=R at *
   refine az (aa (ae (au (ae (ai (st (rL Y Y hi2 hlk) Y ?_))))))
   unfold bR
   refine bq (T:=30) Y Y Y (fun b => ?_)
   refine a4 0 Y Y Y Y (Run.nil (aa (ae (ai (st (aj Y) Y (st (ak 0 Y Y Y) Y (st (aU Y) Y (st (ab Y) Y (Run.nil ?_)))))))))
   refine aa (au ?_)
   refine cC (σ:=Nat × Option Nat × Nat) (fun s => [(4,one (.pointer (some ⟨b4,0,none⟩))),(6,one (.pointer (some ⟨b6,0,none⟩))),(34,bC 6 [(0, .agg 3,bR ra ca F),(3, .agg 3,bR rb ca G)]),(35,one (.int .i64 (i:Nat))),(39,slT .one R (fun q=>bD ca (DP q))),(40,one (.int .i64 R)),(41,one (.int .i64 (s.1:Nat)))])
    (fun s => [aI s.2.1 32 .one s.2.2 (kq ra rb i+s.1) (fun q=>bD ca (dn ra F G q)),aR b6 30 3 [(0, .one,one (.int .i64 ((ra:Int)+rb))),(1, .one,one (.int .i64 ca)),(2, .one,one (slV s.2.1 (kq ra rb i+s.1) s.2.2))],
     aR b4 30 3 (dx #[Value.int IntKind.i64 0,Value.int IntKind.i64 0,Value.slice none 0 0] [(0,Lay.one),(1,Lay.one),(2,Lay.one)])])
    (fun s=>s.1≤R) (fun s=>R - s.1) (0,sv0,cap0) (Nat.zero_le _) (by unfold bR;repeat (first | exact dG.nil | refine dG.cons Y H ?_ | (refine dG.cons Y (ar ?_) ?_;(congr 1;first | omega | (simp;omega) | simp)))) (.drop (.keep DU (.keep DU (SubM.refl _)))) (fun s hs2 => ?_)
   obtain ⟨j,sv1,cap1⟩:=s
   simp only at hs2 ⊢
   refine ae (ai (st (a7 Y Y) Y (Run.nil (aa (ae ?_)))))
   refine a8 Y (fun hc2 => ?_) (fun hc2 => ?_) <;> simp only [decide_eq_true_eq,decide_eq_false_iff_not,Int.ofNat_lt] at hc2
   ·refine az (aa (ae (au (ae (ai ?_)))))
    (refine st (aC Y Y ?_) Y ?_;omega)
    refine st (aM Y) Y (st (ah Y) Y (Run.nil (aa (fd 5 aZ X S (st (aj Y) Y (st (ak 1 Y Y Y) Y (st (ab Y) Y ?_)))))))
    refine st (am (pW ca 0 (DP j) (fun _=>0) h2 S (hsm j) (fun _=>dt U)) Y ⟨VT.le_refl _,eQ,trivial⟩) Y ?_
    have hfl:Flat (bD (ca+0) fun k=>if k<ca then DP j k else 0) .one:=by unfold bD;infer_instance
    have hfl2 : ∀ q,Flat (bD ca (dn ra F G q)) .one:=fun q=>by unfold bD;infer_instance
    refine fS Y Y Y Y (Run.nil ?_)
    (refine cS 0 Y Y Y (leN Y) ?_ ?_ Y (ltN Y) (fun sv cap => ?_);omega;omega)
    refine st (aj Y) Y (aA 1 Y Y Y Y Y (leN Y) Y (Run.nil (aD (aa (ai ?_)))))
    (refine st (cp Y Y (aP ?_ ?_)) Y ?_;omega;omega)
    refine st (ab Y) Y (Run.nil ?_)
    refine bU (s:=(j,sv1,cap1)) (j+1,sv,cap) (show _ from by simp only;omega) (by show R - (j+1)<R - j;omega) (by unfold bR;repeat (first | exact dG.nil | refine dG.cons Y H ?_ | (refine dG.cons Y (ar ?_) ?_;(congr 1;first | omega | (simp;omega) | simp)))) (.keep (ec fun q hq => ?_) (.keep DU (SubM.refl _)))
    by_cases h:q<kq ra rb i+j
    ·rw [if_pos h]; exact VT.le_refl _
    ·have e:q=kq ra rb i+j:=by omega
     subst e
     rw [if_neg h, ← hrow j hc2]
     unfold bD
     exact cE (by simp) (fun k hk=>by show aL (if k<ca then DP j k else 0)=_;rw [if_pos Z])
   ·have hj:j=R:=by omega
    subst hj
    refine aX (av (av (aF (aD (aa (ai ?_))))))
    (refine st (cp Y Y (aP ?_ ?_)) Y ?_;omega;omega)
    refine st (ab Y) Y (Run.nil ?_)
    have e:=hup.2.1
    rw [e]
    exact bU (s:=(i,sv0,cap0)) (i+1,sv1,cap1) (show _ from by simp only;omega) (by show 2 - (i+1)<2 - i;omega) (by unfold bR;repeat (first | exact dG.nil | refine dG.cons Y H ?_ | (refine dG.cons Y (ar ?_) ?_;(congr 1;first | omega | (simp;omega) | simp)))) (.keep DU (.keep DU (SubM.refl _)))
  ·have hi2:i=2:=by omega
   subst hi2
   refine aX (av (av (aF (aa (ae (ai (st (aO 1 Y Y) Y (a4 2 Y Y Y Y (st (ah Y) Y ?_)))))))))
   refine Run.nil (aa (aE ?_))
   have e2:kq ra rb 2=ra+rb:=by simp [kq]
   rw [e2]
   refine gm [aI sv0 32 .one cap0 (ra+rb) (fun q=>bD ca (dn ra F G q))] (List.Perm.refl _) (.keep (v8.refl _) (.keep (v8.box (cs' := [(0, .one,one (.int .i64 ((ra+rb:Nat):Int))),(1, .one,one (.int .i64 ca)),(2, .one,slT .one (ra+rb) (fun q=>bD ca (dn ra F G q)))])
    (.cons List.mem_cons_self (Ent.le (ar (by simp))) (.cons (List.mem_cons_of_mem _ List.mem_cons_self) (Ent.refl _) (.cons (List.mem_cons_of_mem _ (List.mem_cons_of_mem _ List.mem_cons_self)) (Ent.sl List.mem_cons_self) .nil)))) .nil)) (v9.refl _) ?_
   refine cV Tryz.results52 (.cellW 1 Y Y ?_) (.tmp Y (ar ?_))
   ·simp only [decide_true,if_true]
    exact VT.le_refl _
   ·simp
end Tor
end
section
namespace Tor
open Go Go.RowKit Go.Proofs
attribute [local irreducible] Tor.J Tor.PJ Tor.aK Tor.one Tor.slT Tor.bO Tor.bC Tor.bv Tor.exT Tor.cd Tor.eP Tor.aR Tor.aI Tor.slV Tor.VT.le Tor.Ret Tor.bJ
attribute [local irreducible] aL Tor.dY
set_option maxHeartbeats 4000000 in
theorem wI (r c:Nat) (F:Nat→Nat→Int) (k:Int) (hr0:r≤1048576) (hc0:c≤1048576) (hF : ∀ i j,bm (F i j)) (hk:bm k):Ok Tryz.prog 29 [bR r c F,aL k] (bR r c (fun i j=>F i j*k)):=by
 unfold bR
 refine Ok.enter Tryz.func29 Y Tryz.ntmps29 Y (fun w O => ?_)
 refine ae (ai ?_)
 refine aS Y Y (ltN Y) (fun b => ?_)
 refine gC Y Y (ltN Y) (fun b => ?_)
 refine bq (T:=30) Y Y Y (fun b => ?_)
 refine Run.nil (aa (ae (ai (st (aj Y) Y (st (ak 2 Y Y Y) Y (st (aj Y) Y (st (ak 2 Y Y Y) Y ?_)))))))
 refine gl (lT r c hr0 hc0) Y ⟨VT.le_refl _,VT.le_refl _,trivial⟩ Y Y (fun s => ?_)
 obtain ⟨⟨bs,sv1,cap1⟩,hlen,hsv⟩:=s
 simp only at hlen hsv
 unfold m8
 refine bq (T:=30) Y Y Y (fun b => ?_)
 refine a4 0 Y Y Y Y (Run.nil (aa (ae (ae (ai (st (ah Y) Y (Run.nil (aa (au ?_)))))))))
 rename_i b2 b3 b4
 refine cC (σ:=Nat) (fun i => [(2,one (.pointer (some ⟨b2,0,none⟩))),(3,one (.pointer (some ⟨b3,0,none⟩))),(4,one (.pointer (some ⟨b4,0,none⟩))),(5,one (.pointer (some ⟨b,0,none⟩))),(6,one (.int .i64 (i:Nat)))])
  (fun i => [aR b 30 3 [(0, .one,one (.int .i64 r)),(1, .one,one (.int .i64 c)),(2, .one,one (slV sv1 r cap1))],iS sv1 cap1 r c bs,fX c bs (gg (fun i j=>F i j*k) i 0),
   aR b4 30 3 (dx #[Value.int IntKind.i64 0,Value.int IntKind.i64 0,Value.slice none 0 0] [(0,Lay.one),(1,Lay.one),(2,Lay.one)]),
   aR b3 37 2 [(0, .agg 2,aL k)],
   aR b2 30 3 [(0, .one,one (.int .i64 r)),(1, .one,one (.int .i64 c)),(2, .one,slT .one r (fun i=>bD c (F i)))]])
  (fun i=>i≤r) (fun i=>r - i) 0 (Nat.zero_le _) DS (.keep DU (.keep DU (.keep (gu fun i j hi hj=>by simp [gg]) (SubM.refl _)))) (fun i hi => ?_)
 refine ae (ae (ai (st (ab Y) Y (st (aj Y) Y (st (ak 5 Y Y Y) Y (st (a7 Y Y) Y (Run.nil (aa ?_))))))))
 refine a8 Y (fun hc => ?_) (fun hc => ?_) <;> simp only [decide_eq_true_eq,decide_eq_false_iff_not,Int.ofNat_lt] at hc
 ·obtain ⟨bo,rfl⟩:=gv hsv Z
  refine az (aa (ae (au (ae (ai (st (ah Y) Y (Run.nil (aa (au ?_)))))))))
  refine cC (σ:=Nat) (fun j => [(2,one (.pointer (some ⟨b2,0,none⟩))),(3,one (.pointer (some ⟨b3,0,none⟩))),(4,one (.pointer (some ⟨b4,0,none⟩))),(5,one (.pointer (some ⟨b,0,none⟩))),(6,one (.int .i64 (i:Nat))),(7,one (.int .i64 (j:Nat)))])
   (fun j => [aR b 30 3 [(0, .one,one (.int .i64 r)),(1, .one,one (.int .i64 c)),(2, .one,one (slV (some bo) r cap1))],iS (some bo) cap1 r c bs,fX c bs (gg (fun i j=>F i j*k) i j),
   aR b4 30 3 (dx #[Value.int IntKind.i64 0,Value.int IntKind.i64 0,Value.slice none 0 0] [(0,Lay.one),(1,Lay.one),(2,Lay.one)]),
   aR b3 37 2 [(0, .agg 2,aL k)],
   aR b2 30 3 [(0, .one,one (.int .i64 r)),(1, .one,one (.int .i64 c)),(2, .one,slT .one r (fun i=>bD c (F i)))]])
   (fun j=>j≤c) (fun j=>c - j) 0 (Nat.zero_le _) DS (SubM.refl _) (fun j hj => ?_)
  refine ae (ae (ai (st (ab Y) Y (st (aj Y) Y (st (ak 5 Y Y Y) Y (st (a7 Y Y) Y (Run.nil (aa ?_))))))))
  refine a8 Y (fun hc2 => ?_) (fun hc2 => ?_) <;> simp only [decide_eq_true_eq,decide_eq_false_iff_not,Int.ofNat_lt] at hc2
  ·refine az (aa (ae (au (a6 17 aZ X S ?_))))
   unfold bD
   refine st (aj Y) Y (st (ak 0 Y Y Y) Y (st (ab Y) Y ?_))
   (refine st (ao Y Y ?_) Y ?_;omega)
   (refine st (bh 1 Y Y ?_) Y ?_;omega)
   refine st (ab Y) Y (st (aj Y) Y (st (ak 5 Y Y Y) Y (st (ab Y) Y ?_)))
   (refine st (aC Y Y ?_) Y ?_;omega)
   refine st (aM Y) Y (st (ab Y) Y ?_)
   (refine st (aC Y Y ?_) Y ?_;omega)
   refine st (aM Y) Y (st (ak 4 Y Y Y) Y ?_)
   refine st (am (eu (F i j) k (hF i j) hk) Y ⟨VT.le_refl _,VT.le_refl _,trivial⟩) Y ?_
   (refine st (ao Y Y ?_) Y ?_;omega)
   refine Run.nil ?_
   (refine jz 2 Y Y Y (wF ?_) ?_ Y ?_;omega;omega)
   refine Run.nil (aD (aa (ai (st (ab Y) Y ?_))))
   (refine st (cp Y Y (aP ?_ ?_)) Y ?_;omega;omega)
   refine st (ah Y) Y (Run.nil ?_)
   exact bU (s:=j) (j+1) (show _ from by omega) (by show c - (j+1)<c - j;omega) DS (.keep DU (.keep DU (.keep (pY _ Y) (SubM.refl _))))
  ·have hjm:j=c:=by omega
   subst hjm
   refine aX (av (av (aF (aD (aa (ai (st (ab Y) Y ?_)))))))
   (refine st (cp Y Y (aP ?_ ?_)) Y ?_;omega;omega)
   refine st (ah Y) Y (Run.nil ?_)
   exact bU (s:=i) (i+1) (show _ from by omega) (by show r - (i+1)<r - i;omega) DS (.keep DU (.keep DU (.keep ow (SubM.refl _))))
 ·have hin:i=r:=by omega
  subst hin
  refine aX (av (av (aF (aa (ae (ai (st (aO 0 Y Y) Y (a4 3 Y Y Y Y (Run.nil ?_)))))))))
  refine aa (aE ?_)
  have hperm : ∀ (x y z u t s:Own), [x,y,z,u,t,s].Perm ([y,z] ++ [x,u,t,s]):=fun x y z u t s=>(List.Perm.swap y x _).trans (List.Perm.cons y (List.Perm.swap z x _))
  refine gm [iS sv1 cap1 i c bs,fX c bs (gg (fun i j=>F i j*k) i 0)] (hperm _ _ _ _ _ _) (.keep (v8.refl _) (.keep (v8.box (iT hlen ⟨by simp,by simp,by simp⟩)) (.keep (v8.refl _) (.keep (v8.refl _) .nil)))) (v9.refl _) ?_
  refine aT Tryz.results29 (.cellW 1 Y Y ?_)
  exact nq fun a b ha hb=>by simp [gg,ha]
end Tor
end
section
namespace Tor
open Go Go.RowKit Go.Proofs
attribute [local irreducible] Tor.J Tor.PJ Tor.aK Tor.one Tor.slT Tor.bO Tor.bC Tor.bv Tor.exT Tor.cd Tor.eP Tor.aR Tor.aI Tor.slV Tor.VT.le Tor.Ret Tor.bJ
attribute [local irreducible] aL Tor.dY
set_option maxHeartbeats 8000000 in
theorem yU (ra ca:Nat) (F:Nat→Nat→Int) (rb cb:Nat) (G:Nat→Nat→Int) (hr0:ra≤1048576) (hc0:ca≤1048576) (hF : ∀ i j,bm (F i j)) (hG : ∀ i j,bm (G i j)) :
  Ok Tryz.prog 33 [bR ra ca F,bR rb cb G] (mS (decide (ra=rb∧ca=cb)) 50 ra ca (fun i j=>F i j+G i j)):=by
 unfold mS bR
 refine Ok.enter Tryz.func33 Y Tryz.ntmps33 Y (fun w O => ?_)
 refine ae (ai ?_)
 refine aS Y Y (ltN Y) (fun b => ?_)
 refine aS Y Y (ltN Y) (fun b => ?_)
 refine bq (T:=30) Y Y Y (fun b => ?_)
 refine st (ah Y) Y (Run.nil (aa (ae (ae (ai (st (aj Y) Y (st (ak 2 Y Y Y) Y (st (aj Y) Y (st (ak 1 Y Y Y) Y ?_)))))))))
 refine st (di Y Y) Y (st (ab Y) Y ?_)
 refine mZ (t:=13) Y (fun o1 h1 => ?_)
 rw [h1]
 cases o1
 ·have e1:ra=rb:=by simp at h1;omega
  subst e1
  refine sg1 Y Y (aj Y) Y (sg1 Y Y (ak 2 Y Y Y) Y (sg1 Y Y (aj Y) Y (sg1 Y Y (ak 1 Y Y Y) Y (sg1 Y Y (di Y Y) Y (st (bF Y Y) Y (Run.nil (aa ?_)))))))
  refine a8 Y (fun hc => ?_) (fun hc => ?_) <;> simp only [decide_eq_true_eq,decide_eq_false_iff_not,ne_eq,Decidable.not_not] at hc
  ·have hne : ¬ (ra=ra∧ca=cb):=by omega
   refine ae (ai (stB Y Y Y (BuildK.nil (a4 0 Y Y Y Y (st (ah Y) Y (Run.nil (aa (aE (aW ?_)))))))))
   refine cV Tryz.results33 (.cellW 0 Y Y ?_) (.tmp Y (ar ?_))
   ·rw [decide_eq_false hne]; exact lU _
   ·rw [decide_eq_false hne]; rfl
  ·have e2:ca=cb:=by omega
   subst e2
   refine az (aa (ae (ai (st (aj Y) Y (st (ak 2 Y Y Y) Y (st (aj Y) Y (st (ak 2 Y Y Y) Y ?_)))))))
   refine gl (lT ra ca hr0 hc0) Y ⟨VT.le_refl _,VT.le_refl _,trivial⟩ Y Y (fun s => ?_)
   obtain ⟨⟨bs,sv1,cap1⟩,hlen,hsv⟩:=s
   simp only at hlen hsv
   unfold m8
   refine bq (T:=30) Y Y Y (fun b => ?_)
   refine a4 0 Y Y Y Y (Run.nil (aa (ae (ae (ai (st (ah Y) Y (Run.nil (aa (au ?_)))))))))
   rename_i b2 b3 b4
   refine cC (σ:=Nat) (fun i => [(2,one (.pointer (some ⟨b2,0,none⟩))),(3,one (.pointer (some ⟨b3,0,none⟩))),(4,one (.pointer (some ⟨b4,0,none⟩))),(6,one (.pointer (some ⟨b,0,none⟩))),(7,one (.int .i64 (i:Nat)))])
    (fun i => [aR b 30 3 [(0, .one,one (.int .i64 ra)),(1, .one,one (.int .i64 ca)),(2, .one,one (slV sv1 ra cap1))],iS sv1 cap1 ra ca bs,fX ca bs (gg (fun i j=>F i j+G i j) i 0),aR b4 30 3 (dx #[Value.int IntKind.i64 0,Value.int IntKind.i64 0,Value.slice none 0 0] [(0,Lay.one),(1,Lay.one),(2,Lay.one)]),aR b3 30 3 [(0, .one,one (.int .i64 ra)),(1, .one,one (.int .i64 ca)),(2, .one,slT .one ra (fun i=>bD ca (G i)))],aR b2 30 3 [(0, .one,one (.int .i64 ra)),(1, .one,one (.int .i64 ca)),(2, .one,slT .one ra (fun i=>bD ca (F i)))]])
    (fun i=>i≤ra) (fun i=>ra - i) 0 (Nat.zero_le _) DS (.keep DU (.keep DU (.keep (gu fun i j hi hj=>by simp [gg]) (SubM.refl _)))) (fun i hi => ?_)
   refine ae (ae (ai (st (ab Y) Y (st (aj Y) Y (st (ak 5 Y Y Y) Y (st (a7 Y Y) Y (Run.nil (aa ?_))))))))
   refine a8 Y (fun hc => ?_) (fun hc => ?_) <;> simp only [decide_eq_true_eq,decide_eq_false_iff_not,Int.ofNat_lt] at hc
   ·obtain ⟨bo,rfl⟩:=gv hsv Z
    refine az (aa (ae (au (ae (ai (st (ah Y) Y (Run.nil (aa (au ?_)))))))))
    refine cC (σ:=Nat) (fun j => [(2,one (.pointer (some ⟨b2,0,none⟩))),(3,one (.pointer (some ⟨b3,0,none⟩))),(4,one (.pointer (some ⟨b4,0,none⟩))),(6,one (.pointer (some ⟨b,0,none⟩))),(7,one (.int .i64 (i:Nat))),(8,one (.int .i64 (j:Nat)))])
     (fun j => [aR b 30 3 [(0, .one,one (.int .i64 ra)),(1, .one,one (.int .i64 ca)),(2, .one,one (slV (some bo) ra cap1))],iS (some bo) cap1 ra ca bs,fX ca bs (gg (fun i j=>F i j+G i j) i j),aR b4 30 3 (dx #[Value.int IntKind.i64 0,Value.int IntKind.i64 0,Value.slice none 0 0] [(0,Lay.one),(1,Lay.one),(2,Lay.one)]),aR b3 30 3 [(0, .one,one (.int .i64 ra)),(1, .one,one (.int .i64 ca)),(2, .one,slT .one ra (fun i=>bD ca (G i)))],aR b2 30 3 [(0, .one,one (.int .i64 ra)),(1, .one,one (.int .i64 ca)),(2, .one,slT .one ra (fun i=>bD ca (F i)))]])
     (fun j=>j≤ca) (fun j=>ca - j) 0 (Nat.zero_le _) DS (SubM.refl _) (fun j hj => ?_)
    refine ae (ae (ai (st (ab Y) Y (st (aj Y) Y (st (ak 5 Y Y Y) Y (st (a7 Y Y) Y (Run.nil (aa ?_))))))))
    refine a8 Y (fun hc2 => ?_) (fun hc2 => ?_) <;> simp only [decide_eq_true_eq,decide_eq_false_iff_not,Int.ofNat_lt] at hc2
    ·refine az (aa (ae (au (a6 24 aZ X S ?_))))
     unfold bD
     refine st (aj Y) Y (st (ak 0 Y Y Y) Y (st (ab Y) Y ?_))
     (refine st (ao Y Y ?_) Y ?_;omega)
     (refine st (bh 1 Y Y ?_) Y ?_;omega)
     refine st (ab Y) Y (st (aj Y) Y (st (ak 5 Y Y Y) Y (st (ab Y) Y ?_)))
     (refine st (aC Y Y ?_) Y ?_;omega)
     refine st (aM Y) Y (st (ab Y) Y ?_)
     (refine st (aC Y Y ?_) Y ?_;omega)
     refine st (aM Y) Y (st (aj Y) Y (st (ak 4 Y Y Y) Y (st (ab Y) Y ?_)))
     (refine st (aC Y Y ?_) Y ?_;omega)
     refine st (aM Y) Y (st (ab Y) Y ?_)
     (refine st (aC Y Y ?_) Y ?_;omega)
     refine st (aM Y) Y ?_
     refine st (am (jF (F i j) (G i j) (hF i j) (hG i j)) Y ⟨VT.le_refl _,VT.le_refl _,trivial⟩) Y ?_
     (refine st (ao Y Y ?_) Y ?_;omega)
     refine Run.nil ?_
     (refine jz 2 Y Y Y (wF ?_) ?_ Y ?_;omega;omega)
     refine Run.nil (aD (aa (ai (st (ab Y) Y ?_))))
     (refine st (cp Y Y (aP ?_ ?_)) Y ?_;omega;omega)
     refine st (ah Y) Y (Run.nil ?_)
     exact bU (s:=j) (j+1) (show _ from by omega) (by show ca - (j+1)<ca - j;omega) DS (.keep DU (.keep DU (.keep (pY _ Y) (SubM.refl _))))
    ·have hjm:j=ca:=by omega
     subst hjm
     refine aX (av (av (aF (aD (aa (ai (st (ab Y) Y ?_)))))))
     (refine st (cp Y Y (aP ?_ ?_)) Y ?_;omega;omega)
     refine st (ah Y) Y (Run.nil ?_)
     exact bU (s:=i) (i+1) (show _ from by omega) (by show ra - (i+1)<ra - i;omega) DS (.keep DU (.keep DU (.keep ow (SubM.refl _))))
   ·have hin:i=ra:=by omega
    subst hin
    refine aX (av (av (aF (aa (ae (ai (st (aO 0 Y Y) Y (a4 3 Y Y Y Y (st (ah Y) Y ?_)))))))))
    refine Run.nil (aa (aE ?_))
    have hperm : ∀ (x y z u t s:Own), [x,y,z,u,t,s].Perm ([y,z] ++ [x,u,t,s]):=fun x y z u t s=>(List.Perm.swap y x _).trans (List.Perm.cons y (List.Perm.swap z x _))
    refine gm [iS sv1 cap1 i ca bs,fX ca bs (gg (fun i j=>F i j+G i j) i 0)] (hperm _ _ _ _ _ _) (.keep (v8.refl _) (.keep (v8.box (iT hlen ⟨by simp,by simp,by simp⟩)) (.keep (v8.refl _) (.keep (v8.refl _) .nil)))) (v9.refl _) ?_
    refine cV Tryz.results33 (.cellW 1 Y Y ?_) (.tmp Y (ar ?_))
    ·simp only [and_self,decide_true,if_true]; exact nq fun a b ha hb=>by simp [gg,ha]
    ·simp
 ·have hne : ¬ (ra=rb∧ca=cb):=by simp at h1;omega
  refine sg0 Y Y Y Y (sg0 Y Y Y Y (sg0 Y Y Y Y (sg0 Y Y Y Y (sg0 Y Y Y Y (st (bj Y Y) Y (Run.nil (aa ?_)))))))
  refine a8 Y (fun hc => ?_) (fun hc => ?_)
  ·refine ae (ai (stB Y Y Y (BuildK.nil (a4 0 Y Y Y Y (st (ah Y) Y (Run.nil (aa (aE (aW ?_)))))))))
   refine cV Tryz.results33 (.cellW 0 Y Y ?_) (.tmp Y (ar ?_))
   ·rw [decide_eq_false hne]; exact lU _
   ·rw [decide_eq_false hne]; rfl
  ·cases hc
end Tor
end
section
namespace Tor
open Go Go.RowKit Go.Proofs
attribute [local irreducible] Tor.J Tor.PJ Tor.aK Tor.one Tor.slT Tor.bO Tor.bC Tor.bv Tor.exT Tor.cd Tor.eP Tor.aR Tor.aI Tor.slV Tor.VT.le Tor.Ret Tor.bJ
attribute [local irreducible] aL
set_option maxHeartbeats 2000000 in
theorem vu (n:Nat) (f:Nat→Int):Ok Tryz.prog 30 [bD n f] (bR 1 n (fun _=>f)):=by
 unfold bD
 refine Ok.enter Tryz.func30 Y Tryz.ntmps30 Y (fun w O => ?_)
 refine ae (ai ?_)
 refine bq (T:=30) Y Y Y (fun b => ?_)
 refine Run.nil (aa (ae (ai (st (ab Y) Y (st (aU Y) Y (st (ab Y) Y (fS Y Y Y Y (stB Y Y Y (BuildK.cons Y Y Y ?_)))))))))
 refine BuildK.cons Y Y Y (BuildK.cons Y Y Y (BuildK.nil (a4 0 Y Y Y Y (Run.nil (aa (aE ?_))))))
 refine aT Tryz.results30 (.cellW 0 Y Y ?_)
 unfold bR bD
 refine eO (fun q hq => ?_)
 rcases List.mem_cons.1 hq with rfl | hq
 ·exact ⟨_,List.mem_cons_self,ar Y⟩
 rcases List.mem_cons.1 hq with rfl | hq
 ·exact ⟨_,List.mem_cons_of_mem _ List.mem_cons_self,VT.le_refl _⟩
 rcases List.mem_cons.1 hq with rfl | hq
 ·exact ⟨_,List.mem_cons_of_mem _ (List.mem_cons_of_mem _ List.mem_cons_self),VT.le_refl _⟩
 ·cases hq
end Tor
end
section
namespace Tor
open Go Go.RowKit Go.Proofs
attribute [local irreducible] Tor.J Tor.PJ Tor.aK Tor.one Tor.slT Tor.bO Tor.bC Tor.bv Tor.exT Tor.cd Tor.eP Tor.aR Tor.aI Tor.slV Tor.VT.le Tor.Ret Tor.bJ
attribute [local irreducible] aL
set_option maxHeartbeats 2000000 in
theorem kK (l:List Int) (n:Nat) (hn:n≤16):Ok Tryz.prog 11 [fI .i8 l,one (.int .i64 n)] (bD n (dig l)):=by
 refine Ok.enter Tryz.func11 Y Tryz.ntmps11 Y (fun w O => ?_)
 refine ae (ai (st (ah Y) Y (Run.nil (aa (ae (ai (st (ab Y) Y (st (ab Y) Y ?_))))))))
 refine st (am (ou 1 n l S hn) Y ⟨ar Y,VT.le_refl _,VT.le_refl _,trivial⟩) Y ?_
 unfold bR
 refine st (uL Y Y) Y ?_
 (refine st (fP Y Y ?_ ?_) Y ?_;omega;omega)
 refine st (aM Y) Y (st (ah Y) Y (Run.nil (aa (aE ?_))))
 refine aT Tryz.results11 (.tmp Y ?_)
 unfold bD
 refine cE Y fun j hj => ?_
 simp
end Tor
end
section
namespace Tor.Lin
abbrev pv (e:ElS) (l:Nat):Nat:=e.piv.getD l 0
structure GJ (r w c:Nat) (full:Bool) (A:Nat→Nat→Int) (e:ElS) (V:Nat→Nat→Rat):Prop where
 d0:e.last≠0
 pr:e.piv.length≤r
 pc : ∀ l,l<e.piv.length→pv e l<c
 dP:(e.last:Rat)=det e.piv.length (fun a b=>(A a (pv e b):Rat))
 A2 : ∀ i,i<r → ∀ j,j<w→(A i j:Rat)=sm e.piv.length (fun k=>(A i (pv e k):Rat)*V k j)+(if i<e.piv.length then 0 else V i j)
 B3 : ∀ i,i<r → ∀ j,j<w→(full=true∨e.piv.length≤i)→(e.R i j:Rat)=(e.last:Rat)*V i j
 V4 : ∀ l,l<e.piv.length → ∀ i,i<r→V i (pv e l)=if i=l then 1 else 0
 V5 : ∀ c',c'<c → ∀ i,e.piv.length≤i→i<r→V i c'=0
 V6 : ∀ y:Nat→Rat,(∀ i,i<r→sm w (fun j=>y j*(A i j:Rat))=0) → ∀ i,i<r→sm w (fun j=>y j*V i j)=0
theorem uc {x:Int} (h:x≠0):(x:Rat)≠0:=fun e=>h (by exact_mod_cast e)
theorem GJ.int {r w c:Nat} {full:Bool} {A:Nat→Nat→Int} {d:Int} {piv:List Nat} {V:Nat→Nat→Rat}
  (dP:(d:Rat)=det piv.length (fun a b=>(A a (piv.getD b 0):Rat)))
  (A2 : ∀ i,i<r → ∀ j,j<w→(A i j:Rat)=sm piv.length (fun k=>(A i (piv.getD k 0):Rat)*V k j)+(if i<piv.length then 0 else V i j)) (pr:piv.length≤r)
  {i j:Nat} (hi:i<r) (hj:j<w) : ∃ N:Int,(N:Rat)=(d:Rat)*V i j:=by
 by_cases h:i<piv.length
 ·refine ⟨bY piv.length (fun a b=>if b=i then A a j else A a (piv.getD b 0)),?_⟩
  rw [dj,dP]
  have e:det piv.length (fun a b=>((if b=i then A a j else A a (piv.getD b 0):Int):Rat))=det piv.length (cD (fun a b=>(A a (piv.getD b 0):Rat)) i (fun a=>sm piv.length (fun l=>V l j*(A a (piv.getD l 0):Rat)))):=bG fun a b ha hb=>by
   unfold cD
   by_cases c:b=i
   ·rw [if_pos c,if_pos c,A2 a Z j hj,if_pos ha,Rat.add_zero]
    exact bg fun l _=>Rat.mul_comm _ _
   ·rw [if_neg c,if_neg c]
  rw [e,r8 h (fun a b=>(A a (piv.getD b 0):Rat)) (fun l=>V l j),Rat.mul_comm]
 ·refine ⟨bY (piv.length+1) (fun a b=>A (if a<piv.length then a else i) (if b<piv.length then piv.getD b 0 else j)),?_⟩
  rw [dj,dP,r9 _ (fun l=>V l j) (V i j) (fun a ha => ?_),Rat.mul_comm]
  ·congr 1
   exact bG fun a b ha hb=>by rw [if_pos ha,if_pos hb]
  ·rw [if_neg (Nat.lt_irrefl _)]
   by_cases c:a<piv.length
   ·rw [if_pos c,if_neg (show a≠piv.length by omega),A2 a Z j hj,if_pos c]
    congr 1
    exact bg fun l hl=>by rw [if_pos hl]; exact Rat.mul_comm _ _
   ·rw [if_neg c,if_pos (show a=piv.length by omega),A2 i hi j hj,if_neg h]
    congr 1
    exact bg fun l hl=>by rw [if_pos hl]; exact Rat.mul_comm _ _
theorem GJ.start {r w:Nat} {full:Bool} (A:Nat→Nat→Int):GJ r w 0 full A ⟨A,1,false, []⟩ (fun i j=>(A i j:Rat)) where
 d0:=(by decide:(1:Int)≠0)
 pr:=Nat.zero_le _
 pc:=fun l h=>absurd h (Nat.not_lt_zero _)
 dP:=rfl
 A2:=fun i hi j hj=>by
  show (A i j:Rat)=0+(if i<0 then 0 else (A i j:Rat))
  rw [if_neg (Nat.not_lt_zero _)]; grind
 B3:=fun i hi j hj _=>by
  show (A i j:Rat)=((1:Int):Rat)*(A i j:Rat)
  have:((1:Int):Rat)=1:=rfl
  rw [this]; grind
 V4:=fun l h=>absurd h (Nat.not_lt_zero _)
 V5:=fun c' h=>absurd h (Nat.not_lt_zero _)
 V6:=fun y h=>h
theorem GJ.skip {r w c:Nat} {full:Bool} {A:Nat→Nat→Int} {e:ElS} {V:Nat→Nat→Rat} (h:GJ r w c full A e V) (hc:c<w) (h0 : ∀ q,e.piv.length≤q→q<r→e.R q c=0):GJ r w (c+1) full A e V :=
 ⟨h.d0,h.pr,fun l hl=>Nat.lt_succ_of_lt (h.pc l hl),h.dP,h.A2,h.B3,h.V4,fun c' hc' i h1 h2=>by
  by_cases e1:c'=c
  ·subst e1
   have:=h.B3 i h2 c' hc (.inr h1)
   rw [h0 i h1 h2] at this
   have hd:=uc h.d0
   have h3:((0:Int):Rat)=0:=rfl
   rw [h3] at this
   grind
  ·exact h.V5 c' Z i h1 h2,h.V6⟩
theorem GJ.swap {r w c:Nat} {full:Bool} {A:Nat→Nat→Int} {e:ElS} {V:Nat→Nat→Rat} (h:GJ r w c full A e V) {i:Nat} (hp:e.piv.length<r) (hk:e.piv.length≤i) (hi:i<r) (odd:Bool) :
  GJ r w c full (Tor.swp i e.piv.length A) ⟨Tor.swp i e.piv.length e.R,e.last,odd,e.piv⟩ (Tor.swp i e.piv.length V):=by
 have low : ∀ {α:Type} (φ:Nat→α) (q:Nat),q<e.piv.length→Tor.swp i e.piv.length φ q=φ q:=fun φ q hq=>by
  unfold Tor.swp;rw [if_neg Z,if_neg Z]
 have val : ∀ q,q<r → ∃ q',q'<r∧(q<e.piv.length↔q'<e.piv.length)∧(q<e.piv.length→q'=q) ∧ ∀ {α:Type} (φ:Nat→α),Tor.swp i e.piv.length φ q=φ q':=fun q hq=>by
  by_cases h1:q=i
  ·exact ⟨e.piv.length,hp,by omega,by omega,fun φ=>by unfold Tor.swp;rw [if_pos h1]⟩
  ·by_cases h2:q=e.piv.length
   ·exact ⟨i,hi,by omega,by omega,fun φ=>by unfold Tor.swp;rw [if_neg h1,if_pos h2]⟩
   ·exact ⟨q,hq,Iff.rfl,fun _=>rfl,fun φ=>by unfold Tor.swp;rw [if_neg h1,if_neg h2]⟩
 refine ⟨h.d0,h.pr,h.pc,?_,fun q hq j hj => ?_,fun q hq j hj hf => ?_,fun l hl q hq => ?_,fun c' hc' q h1 h2 => ?_,fun y hy q hq => ?_⟩
 ·show (e.last:Rat)=_
  rw [h.dP]
  exact bG fun a b ha hb=>by rw [low A a ha]
 ·obtain ⟨q',h1,h2,h3,h4⟩:=val q hq
  show ((Tor.swp i e.piv.length A q j:Int):Rat)=sm e.piv.length (fun k=>((Tor.swp i e.piv.length A q (pv e k):Int):Rat)*Tor.swp i e.piv.length V k j)+(if q<e.piv.length then 0 else Tor.swp i e.piv.length V q j)
  rw [h4 A,h4 V,h.A2 q' h1 j hj]
  congr 1
  ·exact bg fun k hk'=>by rw [low V k hk']
  ·by_cases c:q<e.piv.length
   ·rw [if_pos c,if_pos (h2.1 c)]
   ·rw [if_neg c,if_neg (fun k=>c (h2.2 k))]
 ·obtain ⟨q',h1,h2,h3,h4⟩:=val q hq
  show ((Tor.swp i e.piv.length e.R q j:Int):Rat)=(e.last:Rat)*Tor.swp i e.piv.length V q j
  rw [h4 e.R,h4 V]
  exact h.B3 q' h1 j hj (hf.imp id fun k=>by
   have k:e.piv.length≤q:=k
   omega)
 ·obtain ⟨q',h1,h2,h3,h4⟩:=val q hq
  have hl:l<e.piv.length:=hl
  show Tor.swp i e.piv.length V q (pv e l)=_
  rw [h4 V,h.V4 l hl q' h1]
  by_cases c:q<e.piv.length
  ·rw [h3 c]
  ·rw [if_neg Z,if_neg Z]
 ·obtain ⟨q',h3,h4,h5,h6⟩:=val q h2
  have h1:e.piv.length≤q:=h1
  show Tor.swp i e.piv.length V q c'=0
  rw [h6 V]
  exact h.V5 c' hc' q' Z h3
 ·obtain ⟨q',h1,h2,h3,h4⟩:=val q hq
  show sm w (fun j=>y j*Tor.swp i e.piv.length V q j)=0
  rw [h4 V]
  refine h.V6 y (fun k hk' => ?_) q' h1
  obtain ⟨k',g1,g2,g3,g4⟩:=val k hk'
  have hb : ∃ q0,q0<r∧Tor.swp i e.piv.length A q0=A k:=by
   by_cases c1:k=i
   ·exact ⟨e.piv.length,hp,by rw [gM,c1]⟩
   ·by_cases c2:k=e.piv.length
    ·exact ⟨i,hi,by unfold Tor.swp;rw [if_pos Y,c2]⟩
    ·exact ⟨k,hk',by unfold Tor.swp;rw [if_neg c1,if_neg c2]⟩
  obtain ⟨q0,g5,g6⟩:=hb
  rw [← g6]; exact hy q0 g5
theorem jJ {l:List Nat} {c k:Nat} (h:k<l.length):(l ++ [c]).getD k 0=l.getD k 0:=by
 simp [List.getD,List.getElem?_append_left h]
theorem fM (l:List Nat) (c:Nat):(l ++ [c]).getD l.length 0=c:=by simp [List.getD]
theorem GJ.step {r w c:Nat} {full:Bool} {A:Nat→Nat→Int} {e:ElS} {V:Nat→Nat→Rat} (h:GJ r w c full A e V) (hc:c<w) (hp:e.piv.length<r) (hn:e.R e.piv.length c≠0) (odd:Bool) :
  GJ r w (c+1) full A ⟨gb e.piv.length c e.last full e.R,e.R e.piv.length c,odd,e.piv ++ [c]⟩ (fun i j=>if i=e.piv.length then V i j / V i c else V i j - V i c*(V e.piv.length j / V e.piv.length c))∧V e.piv.length c≠0:=by
 have hd:=uc h.d0
 have hpc:=h.B3 e.piv.length hp c hc (.inr (Nat.le_refl _))
 have hnq:=uc hn
 have hv:V e.piv.length c≠0:=fun k=>hnq (by rw [hpc,k]; grind)
 refine ⟨?_,hv⟩
 generalize hV':(fun i j=>if i=e.piv.length then V i j / V i c else V i j - V i c*(V e.piv.length j / V e.piv.length c))=V'
 have hlen:(e.piv ++ [c]).length=e.piv.length+1:=by simp
 have vp : ∀ j,V' e.piv.length j=V e.piv.length j / V e.piv.length c:=fun j=>by rw [← hV']; simp only [if_pos]
 have vi : ∀ i j,i≠e.piv.length→V' i j=V i j - V i c*V' e.piv.length j:=fun i j hi=>by rw [vp, ← hV']; simp only [if_neg hi]
 have vpm : ∀ j,V e.piv.length j=V e.piv.length c*V' e.piv.length j:=fun j=>by rw [vp]; grind
 have hA2 : ∀ i,i<r → ∀ j,j<w→(A i j:Rat)=sm (e.piv ++ [c]).length (fun k=>(A i ((e.piv ++ [c]).getD k 0):Rat)*V' k j)+(if i<(e.piv ++ [c]).length then 0 else V' i j):=fun i hi j hj=>by
  rw [hlen,sm,fM]
  have e1:sm e.piv.length (fun k=>(A i ((e.piv ++ [c]).getD k 0):Rat)*V' k j)=sm e.piv.length (fun k=>(A i (pv e k):Rat)*V k j) - sm e.piv.length (fun k=>(A i (pv e k):Rat)*V k c)*V' e.piv.length j:=by
   rw [← io, ← mn]
   exact bg fun k hk=>by rw [jJ hk,vi k j Z]; grind
  rw [e1]
  have a1:=h.A2 i hi j hj
  have a2:=h.A2 i hi c hc
  by_cases c1:i<e.piv.length
  ·rw [if_pos c1] at a1 a2
   rw [if_pos Z]
   grind
  ·rw [if_neg c1] at a1 a2
   by_cases c2:i=e.piv.length
   ·subst c2
    rw [if_pos Z]
    have:=vpm j
    grind
   ·rw [if_neg Z,vi i j c2]
    grind
 have hdP:((e.R e.piv.length c:Int):Rat)=det (e.piv ++ [c]).length (fun a b=>(A a ((e.piv ++ [c]).getD b 0):Rat)):=by
  rw [hlen,r9 _ (fun l=>V l c) (V e.piv.length c) (fun a ha => ?_),hpc,h.dP,Rat.mul_comm]
  ·congr 1
   exact bG fun a b ha hb=>by rw [jJ hb]
  ·rw [fM,h.A2 a Z c hc]
   have e2:sm e.piv.length (fun k=>(A a (pv e k):Rat)*V k c)=sm e.piv.length (fun l=>V l c*(A a ((e.piv ++ [c]).getD l 0):Rat)):=bg fun l hl=>by rw [jJ hl]; exact Rat.mul_comm _ _
   rw [e2]
   congr 1
   by_cases c1:a<e.piv.length
   ·rw [if_pos c1,if_neg Z]
   ·rw [if_neg c1,if_pos Z,show a=e.piv.length by omega]
 refine ⟨hn,by rw [hlen]; exact hp,fun l hl => ?_,hdP,hA2,fun i hi j hj hf => ?_,fun l hl i hi => ?_,fun c' hc' i h1 h2 => ?_,fun y hy i hi => ?_⟩
 ·have hl:l<(e.piv ++ [c]).length:=hl
  show (e.piv ++ [c]).getD l 0<c+1
  rw [hlen] at hl
  by_cases c1:l<e.piv.length
  ·rw [jJ c1]; exact Nat.lt_succ_of_lt (h.pc l c1)
  ·rw [show l=e.piv.length by omega,fM]; omega
 ·have hf:full=true∨(e.piv ++ [c]).length≤i:=hf
  show ((Tor.gb e.piv.length c e.last full e.R i j:Int):Rat)=((e.R e.piv.length c:Int):Rat)*V' i j
  unfold Tor.gb
  by_cases c1:i=e.piv.length
  ·subst c1
   rw [if_neg (by simp),hpc,vp,h.B3 _ hp j hj (.inr (Nat.le_refl _))]
   grind
  ·have hf':full=true∨e.piv.length≤i:=hf.imp id fun k=>by omega
   rw [if_pos (by
    rcases Nat.lt_or_ge e.piv.length i with h1 | h1
    ·simp [h1]
    ·rcases hf with h2 | h2
     ·have:i<e.piv.length:=by omega
      simp [h2,this]
     ·omega)]
   obtain ⟨N,hN⟩:=GJ.int (c:=c) (full:=full) hdP hA2 Z hi hj
   have key:e.R e.piv.length c*e.R i j - e.R i c*e.R e.piv.length j=e.last*N:=by
    have:((e.R e.piv.length c*e.R i j - e.R i c*e.R e.piv.length j:Int):Rat)=((e.last*N:Int):Rat):=by
     rw [Rat.intCast_sub,Rat.intCast_mul,Rat.intCast_mul,Rat.intCast_mul,hN,hpc,h.B3 i hi j hj hf',h.B3 i hi c hc hf',h.B3 _ hp j hj (.inr (Nat.le_refl _)),vi i j c1]
     have:=vpm j
     grind
    exact_mod_cast this
   unfold jm
   rw [key,Int.mul_ediv_cancel_left _ h.d0,hN]
 ·have hl:l<(e.piv ++ [c]).length:=hl
  show V' i ((e.piv ++ [c]).getD l 0)=_
  rw [hlen] at hl
  by_cases c1:l<e.piv.length
  ·rw [jJ c1]
   have v1:=h.V4 l c1 e.piv.length hp
   rw [if_neg Z] at v1
   by_cases c2:i=e.piv.length
   ·subst c2
    rw [vp,v1,if_neg Z]; grind
   ·rw [vi i _ c2,vp,v1,h.V4 l c1 i hi]
    split <;> grind
  ·rw [show l=e.piv.length by omega,fM]
   by_cases c2:i=e.piv.length
   ·subst c2
    rw [vp,if_pos Y]; grind
   ·rw [vi i _ c2,vp,if_neg c2]; grind
 ·have h1:(e.piv ++ [c]).length≤i:=h1
  rw [hlen] at h1
  rw [vi i c' Z,vp]
  by_cases c1:c'=c
  ·subst c1;grind
  ·rw [h.V5 c' Z i Z h2,h.V5 c' Z e.piv.length (Nat.le_refl _) hp]; grind
 ·have z:=h.V6 y hy
  have zp:sm w (fun j=>y j*V' e.piv.length j)=0:=by
   rw [bg (g:=fun j=>y j*V e.piv.length j*(1 / V e.piv.length c)) (fun j _=>by rw [vp]; grind),io,z _ hp]; grind
  by_cases c2:i=e.piv.length
  ·rw [c2]; exact zp
  ·rw [bg (g:=fun j=>y j*V i j - y j*V' e.piv.length j*V i c) (fun j _=>by rw [vi i j c2]; grind),mn,io,zp,z i hi]; grind
end Tor.Lin
end
section
namespace Tor.Lin
def mT (r w:Nat) (F:Nat→Nat→Int) (c:Nat):Prop := ¬ ∃ y:Nat→Rat,y c=1∧(∀ j,c<j→y j=0) ∧ ∀ i,i<r→sm w (fun j=>y j*(F i j:Rat))=0
open Classical in
noncomputable def lV (r w:Nat) (F:Nat→Nat→Int) (n:Nat):List Nat:=(List.range n).filter fun c=>decide (mT r w F c)
theorem pd {r w:Nat} {F:Nat→Nat→Int} {n:Nat} (h:mT r w F n):lV r w F (n+1)=lV r w F n ++ [n]:=by
 unfold lV;rw [List.range_succ,List.filter_append]; simp [h]
theorem pf {r w:Nat} {F:Nat→Nat→Int} {n:Nat} (h : ¬ mT r w F n):lV r w F (n+1)=lV r w F n:=by
 unfold lV;rw [List.range_succ,List.filter_append]; simp [h]
structure EL (r w c:Nat) (full:Bool) (F:Nat→Nat→Int) (e:ElS) (A:Nat→Nat→Int) (V:Nat→Nat→Rat):Prop where
 gj:GJ r w c full A e V
 p1 : ∀ i,i<r → ∃ k,k<r∧A i=F k
 p2 : ∀ k,k<r → ∃ i,i<r∧A i=F k
 sg:det r (fun i j=>(A i j:Rat))=(if e.odd then -1 else 1)*det r (fun i j=>(F i j:Rat))
 pl:e.piv=lV r w F c
theorem EL.rel {r w c:Nat} {full:Bool} {F:Nat→Nat→Int} {e:ElS} {A:Nat→Nat→Int} {V:Nat→Nat→Rat} (h:EL r w c full F e A V) {P:(Nat→Int)→Prop} : (∀ i,i<r→P (A i))↔(∀ i,i<r→P (F i)):=by
 constructor
 ·intro DP k hk;obtain ⟨i,hi,e⟩:=h.p2 k hk;rw [← e]; exact DP i hi
 ·intro DP i hi;obtain ⟨k,hk,e⟩:=h.p1 i hi;rw [e]; exact DP k hk
theorem CE {r w c:Nat} {full:Bool} {F:Nat→Nat→Int} {e:ElS} {A:Nat→Nat→Int} {V:Nat→Nat→Rat} (h:EL r w c full F e A V) (hc:c<w) (h0 : ∀ q,e.piv.length≤q→q<r→e.R q c=0) : ¬ mT r w F c:=by
 intro hn
 have g':=h.gj.skip hc h0
 have hp : ∀ k,k<e.piv.length→pv e k<c:=h.gj.pc
 refine hn ⟨fun j=>(if j=c then 1 else 0) - sm e.piv.length (fun k=>if j=pv e k then V k c else 0),?_,fun j hj => ?_,?_⟩
 ·show (if c=c then (1:Rat) else 0) - _=1
  rw [if_pos Y,ip (fun k hk=>by rw [if_neg]; have:=hp k hk;omega)]; grind
 ·show (if j=c then (1:Rat) else 0) - _=0
  rw [if_neg Z,ip (fun k hk=>by rw [if_neg]; have:=hp k hk;omega)]; grind
 ·refine (h.rel (P:=fun a=>sm w (fun j=>((if j=c then 1 else 0) - sm e.piv.length (fun k=>if j=pv e k then V k c else 0))*(a j:Rat))=0)).1 (fun i hi => ?_)
  have a2:=h.gj.A2 i hi c hc
  have a3:(if i<e.piv.length then 0 else V i c)=0:=by
   split
   ·rfl
   ·exact g'.V5 c Z i Z hi
  rw [a3] at a2
  have e1:sm w (fun j=>((if j=c then 1 else 0) - sm e.piv.length (fun k=>if j=pv e k then V k c else 0))*(A i j:Rat))=sm w (fun j=>(if j=c then (A i j:Rat) else 0)) - sm w (fun j=>sm e.piv.length (fun k=>if j=pv e k then V k c*(A i j:Rat) else 0)):=by
   rw [← mn]
   refine bg fun j _ => ?_
   have e2:sm e.piv.length (fun k=>if j=pv e k then V k c*(A i j:Rat) else 0)=sm e.piv.length (fun k=>if j=pv e k then V k c else 0)*(A i j:Rat):=by
    rw [← io]; exact bg fun k _=>by split <;> grind
   rw [e2]; split <;> grind
  rw [e1,mo hc,qO]
  have e3:sm e.piv.length (fun k=>sm w (fun j=>if j=pv e k then V k c*(A i j:Rat) else 0))=sm e.piv.length (fun k=>(A i (pv e k):Rat)*V k c):=bg fun k hk=>by
   rw [mo (by have:=hp k hk;omega) (fun j=>V k c*(A i j:Rat))]; exact Rat.mul_comm _ _
  rw [e3]; grind
theorem CF {r w c:Nat} {full:Bool} {F:Nat→Nat→Int} {e:ElS} {A:Nat→Nat→Int} {V:Nat→Nat→Rat} (h:GJ r w c full A e V) (p2 : ∀ k,k<r → ∃ i,i<r∧A i=F k) (p1 : ∀ i,i<r → ∃ k,k<r∧A i=F k) (hc:c<w) (hp:e.piv.length<r) (hv:V e.piv.length c≠0):mT r w F c:=by
 rintro ⟨y,y1,y2,y3⟩
 have z:=h.V6 y (fun i hi=>by obtain ⟨k,hk,ek⟩:=p1 i hi;rw [ek]; exact y3 k hk) _ hp
 rw [gK hc (fun j hj hne=>by
  rcases Nat.lt_or_ge j c with h1 | h1
  ·rw [h.V5 j h1 _ (Nat.le_refl _) hp]; grind
  ·rw [y2 j Z]; grind),y1] at z
 exact hv (by grind)
theorem CG {i p:Nat} (A:Nat→Nat→Int):(fun a b=>((Tor.swp i p A a b:Int):Rat))=tw (fun a b=>(A a b:Rat)) i p (fun b=>(A p b:Rat)) (fun b=>(A i b:Rat)):=by
 funext a b
 unfold Tor.swp tw
 by_cases h1:a=i
 ·rw [if_pos h1,if_pos h1]
 ·rw [if_neg h1,if_neg h1]
  by_cases h2:a=p
  ·rw [if_pos h2,if_pos h2]
  ·rw [if_neg h2,if_neg h2]
theorem rc (r w:Nat) (full:Bool) (F:Nat→Nat→Int) : ∀ c,c≤w → ∃ A V,EL r w c full F (elN r full F c) A V
 | 0, _ => ⟨F, _, GJ.start F, fun i hi => ⟨i, hi, rfl⟩, fun k hk => ⟨k, hk, rfl⟩, by show _ = (if false = true then (-1 : Rat) else 1) * _; rw [if_neg (by simp)]; grind, rfl⟩
 | c + 1, hc => by
  obtain ⟨A,V,h⟩:=rc r w full F c Z
  show ∃ A V,EL r w (c+1) full F (elR r full c (elN r full F c)) A V
  generalize elN r full F c=e at h
  rcases r6 e.R c e.piv.length r with h0 | ⟨i,hk,hi,h0,hn⟩
  ·rw [nY h0]
   exact ⟨A,V,h.gj.skip Z h0,h.p1,h.p2,h.sg,by rw [pf (CE h Z h0)]; exact h.pl⟩
  ·have hp:e.piv.length<r:=by omega
   rw [nZ hp hk hi h0 hn]
   have hs:=h.gj.swap hp hk hi (xor e.odd (decide (i≠e.piv.length)))
   obtain ⟨st,hv⟩:=hs.step Z hp (by show Tor.swp i e.piv.length e.R e.piv.length c≠0;rw [gM]; exact hn) (xor e.odd (decide (i≠e.piv.length)))
   have q1 : ∀ q,q<r → ∃ k,k<r∧Tor.swp i e.piv.length A q=F k:=fun q hq=>by
    unfold Tor.swp;split
    ·exact h.p1 _ hp
    ·split
     ·exact h.p1 _ hi
     ·exact h.p1 q hq
   have q2 : ∀ k,k<r → ∃ q,q<r∧Tor.swp i e.piv.length A q=F k:=fun k hk'=>by
    obtain ⟨q,hq,eq⟩:=h.p2 k hk'
    by_cases c1:q=i
    ·exact ⟨e.piv.length,hp,by rw [gM, ← c1]; exact eq⟩
    ·by_cases c2:q=e.piv.length
     ·exact ⟨i,hi,by unfold Tor.swp;rw [if_pos Y, ← c2]; exact eq⟩
     ·exact ⟨q,hq,by unfold Tor.swp;rw [if_neg c1,if_neg c2]; exact eq⟩
   refine ⟨_,_,st,q1,q2,?_,?_⟩
   ·show det r (fun a b=>((Tor.swp i e.piv.length A a b:Int):Rat))=(if (xor e.odd (decide (i≠e.piv.length)))=true then (-1:Rat) else 1)*_
    by_cases c1:i=e.piv.length
    ·rw [← c1,gL,h.sg]; simp
    ·rw [CG,rZ fL c1 hi hp,h.sg]
     cases e.odd <;> simp [c1] <;> grind
   ·show e.piv ++ [c]=lV r w F (c+1)
    rw [pd (CF hs q2 q1 Z hp hv), ← h.pl]
theorem vv {n c:Nat} {F:Nat→Nat→Rat} {y:Nat→Rat} (hc:c<n) (h1:y c=1) (h : ∀ i,i<n→sm n (fun j=>y j*F i j)=0):det n F=0:=by
 have e:det n F=det n (cD F c (fun a=>sm n (fun l=>(if l=c then 0 else - y l)*F a l))):=bG fun i j hi hj=>by
  unfold cD
  by_cases hj':j=c
  ·rw [if_pos hj',hj']
   have e1:sm n (fun l=>(if l=c then 0 else - y l)*F i l)=sm n (fun l=>(if l=c then F i l else 0)) - sm n (fun l=>y l*F i l):=by
    rw [← mn]
    exact bg fun l _=>by
     by_cases hl:l=c
     ·rw [if_pos hl,if_pos hl,hl,h1]; grind
     ·rw [if_neg hl,if_neg hl]; grind
   show F i c=sm n (fun l=>(if l=c then 0 else - y l)*F i l)
   rw [e1,mo hc,h i hi]; grind
  ·rw [if_neg hj']
 rw [e,r8 hc F (fun l=>if l=c then 0 else - y l),if_pos Y]; grind
theorem ud {α:Type} {p:α→Bool} {l:List α} (h : ¬ (l.filter p).length<l.length):l.filter p=l:=by
 have h1:=List.length_filter_le p l
 exact List.filter_eq_self.2 (List.length_filter_eq_length_iff.1 Z)
theorem pZ {r w n:Nat} {F:Nat→Nat→Int} (h : ¬ (lV r w F n).length<n):lV r w F n=List.range n:=by
 unfold lV at *
 have:=ud (l:=List.range n) (p:=fun c => @decide (mT r w F c) (Classical.propDecidable _)) (by rw [List.length_range]; exact h)
 exact this
theorem ox {r w n:Nat} {F:Nat→Nat→Int} (h:(lV r w F n).length<n) : ∃ c,c<n ∧ ¬ mT r w F c:=by
 refine Classical.byContradiction fun hn => ?_
 have:lV r w F n=List.range n:=by
  unfold lV
  rw [List.filter_eq_self]
  intro c hc
  have h1:mT r w F c:=Classical.byContradiction fun k=>hn ⟨c,List.mem_range.1 hc,k⟩
  simp [h1]
 rw [this,List.length_range] at h
 omega
def yV (r:Nat) (F:Nat→Nat→Int):Int:=if (elN r false F r).piv.length<r then 0 else if (elN r false F r).odd then -(elN r false F r).last else (elN r false F r).last
theorem vy (r:Nat) (F:Nat→Nat→Int):yV r F=bY r F:=by
 have key:((yV r F:Int):Rat)=((bY r F:Int):Rat):=by
  rw [dj]
  obtain ⟨A,V,h⟩:=rc r r false F r (Nat.le_refl _)
  unfold yV
  split
  ·rename_i hp
   rw [h.pl] at hp
   obtain ⟨c,hc,hn⟩:=ox hp
   obtain ⟨y,y1,y2,y3⟩:=Classical.not_not.1 hn
   rw [vv hc y1 y3]; rfl
  ·rename_i hp
   have hl:(elN r false F r).piv.length=r:=by have:=h.gj.pr;omega
   have hr:=pZ (by rw [← h.pl]; exact hp)
   have hd:=h.gj.dP
   rw [hl] at hd
   have e1:det r (fun a b=>(A a (pv (elN r false F r) b):Rat))=det r (fun a b=>(A a b:Rat)):=bG fun a b ha hb=>by
    show ((A a ((elN r false F r).piv.getD b 0):Int):Rat)=_
    rw [h.pl,hr]
    simp [List.getD,hb]
   rw [e1,h.sg] at hd
   cases ho:(elN r false F r).odd
   ·rw [ho] at hd
    simp at hd ⊢
    rw [hd]
   ·rw [ho] at hd
    simp at hd ⊢
    rw [hd]; grind
 exact_mod_cast key
end Tor.Lin
end
section
namespace Tor
open Go Go.RowKit Go.Proofs
theorem A3 (i k:Nat) (φ:Nat→VT) (h:i≠k):upd (upd φ i (φ k)) k (φ i)=swp i k φ:=by
 funext q;unfold upd swp
 by_cases h1:q=k
 ·subst h1;rw [if_pos Y,if_neg (fun e=>h e.symm),if_pos Y]
 ·rw [if_neg h1]; by_cases h2:q=i
  ·rw [if_pos h2,if_pos h2]
  ·rw [if_neg h2,if_neg h2,if_neg h1]
abbrev eE (b:Nat) (sv:Option Nat) (r cap:Nat) (last:Int) (odd:Bool) (ψ:VT):Own:=aR b 117 5 [(0, .one,one (slV sv r cap)),(1, .agg 2,aL last),(3, .one,one (.bool odd)),(4, .one, ψ)]
attribute [local irreducible] Tor.J Tor.PJ Tor.aK Tor.one Tor.slT Tor.bO Tor.bC Tor.bv Tor.exT Tor.cd Tor.eP Tor.aR Tor.aI Tor.slV Tor.VT.le Tor.Ret Tor.bJ
attribute [local irreducible] aL
set_option maxHeartbeats 4000000 in
theorem A4 (b bs r cap:Nat) (last:Int) (odd:Bool) (ψ:VT) (φ:Nat→VT) [hF : ∀ i,Flat (φ i) .one] (i k:Nat) (hi:i<r) (hk:k<r) (hne:(i:Int)≠(k:Int)) :
  OkI Tryz.prog 126 [one (.pointer (some ⟨b,0,none⟩)),one (.int .i64 (i:Nat)),one (.int .i64 (k:Nat))] [eE b (some bs) r cap last odd ψ,aI (some bs) 32 .one cap r φ]
   (fun _:Unit=>bv []) (fun _ => [eE b (some bs) r cap last (!odd) ψ,aI (some bs) 32 .one cap r (swp i k φ)]):=by
 refine OkI.enter Tryz.func126 Y Tryz.ntmps126 Y (fun w O => ?_)
 refine ae (ai (st (ab Y) Y (st (ab Y) Y (st (sT (by assumption) (di Y Y)) Y (Run.nil (aa (aH Y (ae ?_))))))))
 refine iE (Γ1 := [(0,one (.pointer (some ⟨b,0,none⟩)))]) (M1 := [eE b (some bs) r cap last odd ψ,aI (some bs) 32 .one cap r (upd (upd φ i (φ k)) k (φ i))]) 24 5 [9] [] aZ X S ?_ ?_
 ·refine st (ab Y) Y (st (bH Y) Y (st (aj Y) Y (st (ak 0 Y Y Y) Y (st (ab Y) Y (st (ab Y) Y (st (bH Y) Y (st (aj Y) Y (st (ak 0 Y Y Y) Y (st (ab Y) Y ?_)))))))))
  refine st (ab Y) Y (st (bH Y) Y (st (aj Y) Y (st (ak 0 Y Y Y) Y (st (ab Y) Y (st (ao Y Y Z) Y (st (bh 1 Y Y Z) Y (st (ab Y) Y (st (bH Y) Y (st (aj Y) Y ?_)))))))))
  refine st (ak 0 Y Y Y) Y (st (ab Y) Y (st (ao Y Y Z) Y (st (bh 1 Y Y Z) Y (Run.nil ?_))))
  refine yc (Γe := [(0,_),(12,_),(13,_),(25,_),(17,_),(32,_),(2,_)]) (Γe' := [(0,_),(12,_),(13,_),(25,_),(17,_),(32,_),(18,_)]) (rem := [24,25,26,27]) Y DT Y DT Y ?_ ?_
  ·refine bK (rem' := [24,25,26,27]) (rem'' := [9,25,26,27]) (i:=9) (j:=24) X Y Y Y Y ?_ ?_ iD.nil
   refine st (ab Y) Y (Run.nil ?_)
   refine ⟨rfl,?_⟩
   refine an (rem' := [25,26,27]) (i:=24) X Y Y ?_ iD.nil
   refine st (ao Y Y Z) Y (Run.nil ?_)
   refine ⟨rfl,?_⟩
   refine an (rem' := [26,27]) (i:=25) X Y Y ?_ iD.nil
   (refine aw 1 Y Y Y ?_ Y ?_;omega)
   refine Run.nil ?_
   refine ⟨rfl,?_⟩
   refine an (rem' := [27]) (i:=26) X Y Y ?_ iD.nil
   refine st (ao Y Y Z) Y (Run.nil ?_)
   refine ⟨rfl,?_⟩
   refine an (rem' := []) (i:=27) X Y Y ?_ iD.nil
   (refine aw 1 Y Y Y ?_ Y ?_;omega)
   refine Run.nil ?_
   refine ⟨rfl,?_⟩
   refine aV DT (SubM.refl _) iD.nil
   refine st (ao Y Y Z) Y (Run.nil ?_)
   refine ⟨rfl,?_⟩
   refine bK (rem' := [25,26,27]) (rem'' := [9,26,27]) (i:=9) (j:=25) X Y Y Y Y ?_ ?_ iD.nil
   refine st (ab Y) Y (Run.nil ?_)
   refine ⟨rfl,?_⟩
   refine an (rem' := [26,27]) (i:=25) X Y Y ?_ iD.nil
   (refine aw 1 Y Y Y ?_ Y ?_;omega)
   refine Run.nil ?_
   refine ⟨rfl,?_⟩
   refine an (rem' := [27]) (i:=26) X Y Y ?_ iD.nil
   refine st (ao Y Y Z) Y (Run.nil ?_)
   refine ⟨rfl,?_⟩
   refine an (rem' := []) (i:=27) X Y Y ?_ iD.nil
   (refine aw 1 Y Y Y ?_ Y ?_;omega)
   refine Run.nil ?_
   refine ⟨rfl,?_⟩
   refine aV DT (SubM.refl _) iD.nil
   (refine aw 1 Y Y Y ?_ Y ?_;omega)
   refine Run.nil ?_
   refine ⟨rfl,?_⟩
   refine an (rem' := [26,27]) (i:=9) X Y Y ?_ iD.nil
   refine st (ab Y) Y (Run.nil ?_)
   refine ⟨rfl,?_⟩
   refine an (rem' := [27]) (i:=26) X Y Y ?_ iD.nil
   refine st (ao Y Y Z) Y (Run.nil ?_)
   refine ⟨rfl,?_⟩
   refine an (rem' := []) (i:=27) X Y Y ?_ iD.nil
   (refine aw 1 Y Y Y ?_ Y ?_;omega)
   refine Run.nil ?_
   refine ⟨rfl,?_⟩
   refine aV DT (SubM.refl _) iD.nil
  ·refine an (rem' := [25,26,27]) (i:=24) X Y Y ?_ iD.nil
   refine st (ao Y Y Z) Y (Run.nil ?_)
   refine ⟨rfl,?_⟩
   refine an (rem' := [26,27]) (i:=25) X Y Y ?_ iD.nil
   (refine aw 1 Y Y Y ?_ Y ?_;omega)
   refine Run.nil ?_
   refine ⟨rfl,?_⟩
   refine an (rem' := [27]) (i:=26) X Y Y ?_ iD.nil
   refine st (ao Y Y Z) Y (Run.nil ?_)
   refine ⟨rfl,?_⟩
   refine an (rem' := []) (i:=27) X Y Y ?_ iD.nil
   (refine aw 1 Y Y Y ?_ Y ?_;omega)
   refine Run.nil ?_
   refine ⟨rfl,?_⟩
   refine aV DT (SubM.refl _) iD.nil
 ·rw [A3 i k φ Z]
  refine aa (ai (st (ab Y) Y (st (ab Y) Y (st (bH Y) Y (st (aj Y) Y (st (ak 0 Y Y Y) Y (st (cK Y) Y (st (bH Y) Y (st (aj Y) Y ?_)))))))))
  refine aA 0 Y Y Y Y Y (leN Y) Y (Run.nil (i6 ?_))
  exact lk (σ:=Unit) (ψ:=fun _=>bv []) () Tryz.results126 H (SubM.refl _)
set_option maxHeartbeats 4000000 in
theorem yW (b bs r cap:Nat) (last:Int) (odd:Bool) (ψ:VT) (φ:Nat→VT) [hF : ∀ i,Flat (φ i) .one] (i:Nat) (hi:i<r) :
  OkI Tryz.prog 126 [one (.pointer (some ⟨b,0,none⟩)),one (.int .i64 (i:Nat)),one (.int .i64 (i:Nat))] [eE b (some bs) r cap last odd ψ,aI (some bs) 32 .one cap r φ]
   (fun _:Unit=>bv []) (fun _ => [eE b (some bs) r cap last odd ψ,aI (some bs) 32 .one cap r φ]):=by
 refine OkI.enter Tryz.func126 Y Tryz.ntmps126 Y (fun w O => ?_)
 refine ae (ai (st (ab Y) Y (st (ab Y) Y (st (sF Z (di Y Y)) Y (Run.nil (aa (aB Y (az (i6 ?_)))))))))
 exact lk (σ:=Unit) (ψ:=fun _=>bv []) () Tryz.results126 H (SubM.refl _)
theorem yX (b bs r cap:Nat) (last:Int) (odd:Bool) (ψ:VT) (φ:Nat→VT) [hF : ∀ i,Flat (φ i) .one] (i k:Nat) (hi:i<r) (hk:k<r) :
  OkI Tryz.prog 126 [one (.pointer (some ⟨b,0,none⟩)),one (.int .i64 (i:Nat)),one (.int .i64 (k:Nat))] [eE b (some bs) r cap last odd ψ,aI (some bs) 32 .one cap r φ]
   (fun _:Unit=>bv []) (fun _ => [eE b (some bs) r cap last (xor odd (decide (i≠k))) ψ,aI (some bs) 32 .one cap r (swp i k φ)]):=by
 by_cases h:i=k
 ·subst h
  rw [gL,show xor odd (decide (i≠i))=odd by simp]
  exact yW b bs r cap last odd ψ φ i hi
 ·rw [show xor odd (decide (i≠k)) = !odd by simp [h]]
  exact A4 b bs r cap last odd ψ φ i k hi hk Z
end Tor
end
section
namespace Tor
open Go Go.RowKit Go.Proofs
abbrev jc (w:Nat) (f:Nat→Nat):VT:=slT .one w (fun j=>one (.int .u64 (f j:Nat)))
abbrev wJ (p n w:Nat) (W:Nat→Nat→Nat):VT:=bC 3 [(0, .one,one (.int .u64 (p:Nat))),(1, .one,one (.int .i64 (w:Nat))),(2, .one,slT .one n (fun i=>jc w (W i)))]
theorem ue {sv:Option Nat} {T:TypeId} {cap c j p k:Nat} {f g:Nat→Nat} : Own.le (aI sv T .one cap c (upd (fun q=>one (.int .u64 ((if q<j then (f q+k*g q % p) % p else f q:Nat)))) j (one (.int .u64 ((f j+k*g j % p) % p:Nat))))) (aI sv T .one cap c (fun q=>one (.int .u64 ((if q<j+1 then (f q+k*g q % p) % p else f q:Nat))))):=be fun q _=>by
 unfold upd
 by_cases h:q=j
 ·subst h;rw [if_pos Y,if_pos (Nat.lt_succ_self q)]
 ·rw [if_neg h]
  dsimp only
  by_cases h2:q<j
  ·rw [if_pos h2,if_pos Z]
  ·rw [if_neg h2,if_neg Z]
attribute [local irreducible] Tor.J Tor.PJ Tor.aK Tor.one Tor.slT Tor.bO Tor.bC Tor.bv Tor.exT Tor.cd Tor.eP Tor.aR Tor.aI Tor.slV Tor.VT.le Tor.Ret Tor.bJ
set_option maxHeartbeats 1000000 in
theorem uf (p x:Nat) (hx:x<p):Ok Tryz.prog 192 [one (.int .u64 (x:Nat)),bO .one (one (.int .u64 (p:Nat)))] (one (.bool false)):=by
 refine Ok.enter Tryz.func192 Y Tryz.ntmps192 Y (fun w O => ?_)
 refine ae (ai (st (ah Y) Y (Run.nil (aa (ae (ai (st (ab Y) Y (st (aM Y) Y (st (sF Z (fx Y Y)) Y ?_)))))))))
 refine st (ah Y) Y (Run.nil (aa (aE ?_)))
 refine aT Tryz.results192 (.tmp Y H)
set_option maxHeartbeats 1000000 in
theorem wK (p c:Nat) (f:Nat→Nat) (hf : ∀ j,j<c→f j<p) (hc:c≤1048576):Ok Tryz.prog 194 [jc c f,iZ 192 [bO .one (one (.int .u64 (p:Nat)))]] (one (.int .i64 (-1))):=by
 have hC:=fun i (hi:i<c)=>(fe.clo (uf p (f i) (hf i hi)):fe Tryz.prog (iZ 192 [bO .one (one (.int .u64 (p:Nat)))]) [one (.int .u64 (f i:Nat))] (one (.bool false)))
 generalize iZ 192 [bO .one (one (.int .u64 (p:Nat)))]=cl at *
 refine Ok.enter Tryz.func194 Y Tryz.ntmps194 Y (fun w O => ?_)
 refine ae (ai (st (ah Y) Y (Run.nil (aa (ae (ae (ai (st (ab Y) Y (st (aU Y) Y ?_)))))))))
 refine st (ab Y) Y (Run.nil (aa (au (cn (Γ' := [(0,_),(1,_),(4,_),(7,_),(8,_)]) DQ (SubM.refl _) ?_))))
 refine bB (σ:=Nat) (Γk := [(0,_),(1,_),(7,_)]) DQ (fun i => [(8,one (.int .i64 (i:Nat)))]) (fun i M0=>M0) (fun i=>i≤c) (fun i=>c - i) (0) (Nat.zero_le _) DR (.nil) (fun i hi => ?_)
 refine bQ (Γ' := [(8,_),(0,_),(1,_),(7,_)]) (M' := []) Y Y ?_
 by_cases hi':i<c
 ·have h1:=hC i hi'
  refine ae (ai (st (sT Z (a7 Y Y)) Y (Run.nil (aa (ae (aH Y (az (aa (ae ?_)))))))))
  refine au (ae (ai (st (ab Y) Y (st (ah Y) Y (Run.nil (aa (ae (ai (st (ab Y) Y ?_)))))))))
  refine st (ab Y) Y (st (ab Y) Y (st (aC Y Y Z) Y (st (aM Y) Y ?_)))
  refine st (ld h1 Y Y ⟨VT.le_refl _,trivial⟩) Y ?_
  refine Run.nil (aa (aB Y (az (aD (aa (ai (st (bI _ 1 Y Y Z) Y (st (ab Y) Y (Run.nil ?_)))))))))
  refine aQ (i+1) Z Z DR (.nil)
 ·refine ae (ai (st (sF Z (a7 Y Y)) Y (Run.nil (aa (ae (aB Y (aX (av (av ?_)))))))))
  refine aF (aa (ae (ai (st (ah Y) Y (Run.nil (aa (aE ?_)))))))
  refine aT Tryz.results194 (.tmp Y H)
set_option maxHeartbeats 1000000 in
theorem rd (p c:Nat) (f:Nat→Nat) (hf : ∀ j,j<c→f j<p) (hc:c≤1048576):Ok Tryz.prog 191 [jc c f,iZ 192 [bO .one (one (.int .u64 (p:Nat)))]] (one (.bool false)):=by
 have hi:=wK p c f hf hc
 refine Ok.enter Tryz.func191 Y Tryz.ntmps191 Y (fun w O => ?_)
 refine ae (ai (st (ah Y) Y (Run.nil (aa (ae (ai (st (ab Y) Y (st (ab Y) Y ?_))))))))
 refine st (am (hi) Y ⟨VT.le_refl _,VT.le_refl _,trivial⟩) Y ?_
 refine st (sF Z (fx Y Y)) Y (st (ah Y) Y (Run.nil (aa (aE ?_))))
 refine aT Tryz.results191 (.tmp Y H)
set_option maxHeartbeats 1000000 in
theorem ug (p c:Nat) (f:Nat→Nat) (hf : ∀ j,j<c→f j<p) (hc:c≤1048576):Ok Tryz.prog 180 [one (.int .u64 (p:Nat)),jc c f] (one (.bool true)):=by
 have hi:=rd p c f hf hc
 refine Ok.enter Tryz.func180 Y Tryz.ntmps180 Y (fun w O => ?_)
 refine ae (ai ?_)
 refine gC Y Y (ltN Y) (fun b2 => ?_)
 refine st (ah Y) Y (Run.nil (aa (ae (ai (st (ab Y) Y (st (kx Y) Y (rG [aR b2 44 1 [(0, .one,one (.int .u64 (p:Nat)))]] (Kp := []) (Kp' := []) (List.Perm.refl _) (EntM.refl []) (v9.set (t:=6) Y (Ent.clo1 (Ent.ptr List.mem_cons_self List.mem_cons_self))) ?_)))))))
 refine st (am (hi) Y ⟨VT.le_refl _,VT.le_refl _,trivial⟩) Y ?_
 refine st (cK Y) Y (st (ah Y) Y (Run.nil (aa (aE ?_))))
 refine aT Tryz.results180 (.tmp Y H)
set_option maxHeartbeats 1000000 in
theorem wL (p n c:Nat) (W:Nat→Nat→Nat) (hp:cB p=true) (hp':p<2147483648) (hW : ∀ i j,i<n→j<c→W i j<p) (hn:n≤1048576) (hc:c≤1048576):Ok Tryz.prog 160 [wJ p n c W] (one (.bool true)):=by
 have h1:=j8 p Z
 rw [hp] at h1
 refine Ok.enter Tryz.func160 Y Tryz.ntmps160 Y (fun w O => ?_)
 refine ae (ai ?_)
 refine aS Y Y (ltN Y) (fun b1 => ?_)
 refine st (ah Y) Y (Run.nil (aa (ae (ae (ai (st (aj Y) Y (st (ak 0 Y Y Y) Y ?_)))))))
 refine st (am (h1) Y ⟨VT.le_refl _,trivial⟩) Y ?_
 refine st (cK Y) Y (st (ab Y) Y (sg1 Y Y (aj Y) Y (sg1 Y Y (ak 0 Y Y Y) Y (sg1 Y Y (sF Z (a7 Y Y)) Y (st (bF Y Y) Y (Run.nil (aa (aB Y (az ?_)))))))))
 refine aa (ae (ae (ai (st (aj Y) Y (st (ak 0 Y Y Y) Y (st (aU Y) Y (st (ab Y) Y (Run.nil (aa ?_)))))))))
 refine au (cn (Γ' := [(1,_),(2,_),(15,_),(16,_),(17,_)]) DQ (SubM.refl _) ?_)
 refine bB (σ:=Nat) (Γk := [(1,_),(15,_),(16,_)]) DQ (fun i => [(17,one (.int .i64 (i:Nat)))]) (fun i M0=>M0) (fun i=>i≤n) (fun i=>n - i) (0) (Nat.zero_le _) DR (.keep DU (.nil)) (fun i hi => ?_)
 refine bQ (Γ' := [(17,_),(1,_),(15,_),(16,_)]) (M' := [_]) Y Y ?_
 by_cases hi':i<n
 ·have h2:=ug p c (W i) (fun j hj=>hW i j hi' hj) hc
  refine ae (ai (st (sT Z (a7 Y Y)) Y (Run.nil (aa (ae (aH Y (az (aa (ae ?_)))))))))
  refine au (ae (ai (st (aC Y Y Z) Y (st (aM Y) Y (st (ah Y) Y (Run.nil (aa (ae (ai ?_)))))))))
  refine st (ab Y) Y (st (aU Y) Y (st (aj Y) Y (st (ak 0 Y Y Y) Y (st (sF Z (di Y Y)) Y (st (ab Y) Y (sg1 Y Y (aj Y) Y (sg1 Y Y (ak 0 Y Y Y) Y (sg1 Y Y (ab Y) Y ?_))))))))
  refine sg1 Y Y (am (h2) Y ⟨VT.le_refl _,VT.le_refl _,trivial⟩) Y ?_
  refine sg1 Y Y (cK Y) Y (st (bF Y Y) Y (Run.nil (aa (aB Y (az (aD (aa (ai (st (bI _ 1 Y Y Z) Y ?_)))))))))
  refine st (ab Y) Y (Run.nil ?_)
  refine aQ (i+1) Z Z DR (.keep DU (.nil))
 ·refine ae (ai (st (sF Z (a7 Y Y)) Y (Run.nil (aa (ae (aB Y (aX (av (av ?_)))))))))
  refine aF (aa (ae (ai (st (ah Y) Y (Run.nil (aa (aE ?_)))))))
  refine aT Tryz.results160 (.tmp Y H)
set_option maxHeartbeats 1000000 in
theorem wM (c:Nat) (f:Nat→Nat) (hc0:0<c) (hc:c≤1048576):OkM (σ:=Nat × Nat) Tryz.prog 181 [jc c f] (fun s=>one (slV (some s.1) c s.2)) (fun s => [aI (some s.1) 44 .one s.2 c (fun j=>one (.int .u64 (f j:Nat)))]):=by
 refine OkM.enter Tryz.func181 Y Tryz.ntmps181 Y (fun w O => ?_)
 refine ae (ai (st (ah Y) Y (Run.nil (aa (ae (ae (ai (st (ab Y) Y (st (qv Y) Y ?_)))))))))
 refine Run.nil (aa ?_)
 refine v6 (t:=4) Y (fun b => ?_)
 refine pu (t:=4) Y (fun hb => ?_)
 refine a8 Y (fun hc => ?_) (fun hc => ?_)
 ·exact absurd (hb hc) Z
 ·refine az (aa (ae (ai (m0 (n:=0) Y Y Y Y Y ?_))))
  refine PartsK.nil (fun bl => ?_)
  refine st (ab Y) Y ?_
  (refine cS 0 Y Y Y (leN Y) ?_ ?_ Y (ltN Y) (fun sv7 cap7 => ?_);omega;omega)
  refine st (ah Y) Y (Run.nil (aa (aE ?_)))
  refine yn (i:=0) (F:=sv7=none→0+c=0) Y (fun g h hp he=>iR hp he) (fun hsv => ?_)
  obtain ⟨bo,rfl⟩:=gv hsv Z
  exact kt (bo,cap7) Tryz.results181 (.tmp Y (lK (Nat.zero_add c))) (.keep (gR (Nat.zero_add c) (fun q hq=>by rw [if_neg (Nat.not_lt_zero q),Nat.sub_zero])) .nil)
set_option maxHeartbeats 1000000 in
theorem yY (p c b1 b2 cap1 cap2 k:Nat) (f g:Nat→Nat) (hp0:0<p) (hp:p<4294967296) (hk:k<p) (hf : ∀ j,j<c→f j<p) (hg : ∀ j,j<c→g j<p) (hc:c≤1048576) :
  OkI Tryz.prog 184 [one (.int .u64 (p:Nat)),one (slV (some b1) c cap1),one (slV (some b2) c cap2),one (.int .u64 (k:Nat))] [aI (some b1) 44 .one cap1 c (fun j=>one (.int .u64 (f j:Nat))),aI (some b2) 44 .one cap2 c (fun j=>one (.int .u64 (g j:Nat)))]
   (fun _:Unit=>bv []) (fun _ => [aI (some b1) 44 .one cap1 c (fun j=>one (.int .u64 ((f j+k*g j % p) % p:Nat))),aI (some b2) 44 .one cap2 c (fun j=>one (.int .u64 (g j:Nat)))]):=by
 refine OkI.enter Tryz.func184 Y Tryz.ntmps184 Y (fun w O => ?_)
 by_cases h0:k=0
 ·subst h0
  refine ae (ae (ai (st (ab Y) Y (st (sT Z (ci Y Y)) Y (Run.nil (aa (aH Y (aE (aW ?_)))))))))
  exact lk (σ:=Unit) (ψ:=fun _=>bv []) () Tryz.results184 H (.keep (be fun q hq=>by rw [Nat.zero_mul,Nat.zero_mod,Nat.add_zero,Nat.mod_eq_of_lt (hf q hq)]) (SubM.refl _))
 ·refine ae (ae (ai (st (ab Y) Y (st (sF Z (ci Y Y)) Y (Run.nil (aa (aB Y (az (aa ?_)))))))))
  refine ae (ai (st (ab Y) Y (st (cx Y) Y (st (ab Y) Y (Run.nil (aa (au (cn (Γ' := [(0,_),(1,_),(3,_),(12,_),(13,_),(14,_)]) DQ (SubM.refl _) ?_))))))))
  refine bB (σ:=Nat) (Γk := [(0,_),(1,_),(3,_),(12,_),(13,_)]) DQ (fun j => [(14,one (.int .i64 (j:Nat)))]) (fun j M0=>(M0.set 0 (aI (some b1) 44 .one cap1 c (fun q=>one (.int .u64 ((if q<j then (f q+k*g q % p) % p else f q:Nat))))))) (fun j=>j≤c) (fun j=>c - j) (0) (Nat.zero_le _) DR (.keep DU (.keep DU (.nil))) (fun j hj => ?_)
  refine bQ (Γ' := [(14,_),(0,_),(1,_),(3,_),(12,_),(13,_)]) (M' := [_,_]) Y Y ?_
  by_cases hj:j<c
  ·have h1:=hf j hj
   have h2:=hg j hj
   have h3:k*g j % p<p:=Nat.mod_lt _ hp0
   have hm:=it p k (g j) hp0 hp Z Z
   have ha:=vq p (f j) (k*g j % p) hp0 hp Z Z
   refine ae (ai (st (sT Z (a7 Y Y)) Y (Run.nil (aa (ae (aH Y (az (aa (ae ?_)))))))))
   refine au (ae (ai (st (ab Y) Y (st (ao Y Y Z) Y (st (bh 1 Y Y Z) Y (st (ah Y) Y (st (ah Y) Y (Run.nil (aa ?_)))))))))
   refine a6 12 aZ X S (st (ab Y) Y (st (ab Y) Y (st (ab Y) Y (st (ab Y) Y (st (ab Y) Y (st (ao Y Y Z) Y (st (bh 0 Y Y Z) Y (st (ab Y) Y (st (ab Y) Y ?_)))))))))
   refine st (ab Y) Y ?_
   refine st (am (hm) Y ⟨VT.le_refl _,VT.le_refl _,VT.le_refl _,trivial⟩) Y ?_
   refine st (am (ha) Y ⟨VT.le_refl _,(ar (by rw [if_neg (Nat.lt_irrefl j)])),VT.le_refl _,trivial⟩) Y ?_
   refine Run.nil (st (ao Y Y Z) Y ?_)
   (refine aw 0 Y Y Y ?_ Y ?_;omega)
   refine Run.nil (aD (aa (ai (st (bI _ 1 Y Y Z) Y (st (ab Y) Y (Run.nil ?_))))))
   refine aQ (j+1) Z Z DR (.keep (ue) (.keep DU (.nil)))
  ·refine ae (ai (st (sF Z (a7 Y Y)) Y (Run.nil (aa (ae (aB Y (aX (av (av ?_)))))))))
   refine aF (i6 ?_)
   exact lk (σ:=Unit) (ψ:=fun _=>bv []) () Tryz.results184 H (.keep (be fun q hq=>by rw [if_pos Z]) (SubM.refl _))
end Tor
end
section
namespace Tor
open Go Go.RowKit Go.Proofs
abbrev wN (W:Nat→Nat→Nat):Nat→Nat→VT:=fun i j=>one (.int .u64 (W i j:Nat))
abbrev sP (bz n:Nat) (c:Nat) (B C:Nat→Nat):Own:=aI (some bz) 173 .one n n (fun q=>one (slV (some (B q)) c (C q)))
abbrev oy (c n:Nat) (B C:Nat→Nat) (W:Nat→Nat→Nat) (DN:Nat→Bool):Own:=rwO 44 .one c n B C (wN W) DN
theorem wO {bz n c i b cap:Nat} {B C:Nat→Nat} {φ:Nat→VT} (hφ:φ=fun q=>if q<i then one (slV (some (B q)) c (C q)) else one (.slice none 0 0)):Own.le (aI (some bz) 173 .one n n (upd φ i (one (slV (some b) c cap)))) (aI (some bz) 173 .one n n (fun q=>if q<i+1 then one (slV (some (if q=i then b else B q)) c (if q=i then cap else C q)) else one (.slice none 0 0))):=be fun q _=>by
 subst hφ
 unfold upd
 by_cases h:q=i
 ·subst h;rw [if_pos Y,if_pos (Nat.lt_succ_self q),if_pos Y,if_pos Y]
 ·rw [if_neg h]
  dsimp only
  by_cases h2:q<i
  ·rw [if_pos h2,if_pos Z,if_neg h,if_neg h]
  ·rw [if_neg h2,if_neg Z]
theorem wP {n c i b cap:Nat} {B C:Nat→Nat} {W:Nat→Nat→Nat} : Own.le (rwO 44 .one c n (fun q=>if q=i then b else B q) (fun q=>if q=i then cap else C q) (fun q=>if q=i then (fun j=>one (.int .u64 (W i j:Nat))) else wN W q) (fun q=>if q=i then false else decide (i≤q))) (oy c n (fun q=>if q=i then b else B q) (fun q=>if q=i then cap else C q) W (fun q=>decide (i+1≤q))):=kE (fun q _=>by
  by_cases h:q=i
  ·rw [if_pos h,decide_eq_false Z]
  ·rw [if_neg h]; exact decide_eq_decide.2 Z) (fun q _ _=>⟨rfl,rfl⟩) (fun q j _ _ _=>by
  by_cases h:q=i
  ·rw [if_pos h,h]; exact VT.le_refl _
  ·rw [if_neg h]; exact VT.le_refl _)
abbrev Dp:Type:=(Nat→Nat) × (Nat→Nat) × Nat
theorem yZ {a b a' b':Own} (h1:Own.le a a') (h2:Own.le b b'):ConvM [a,b] [b',a']:=by
 refine ⟨?_,fun g h DP o ho => ?_⟩
 ·show (a.bl ++ (b.bl ++ [])).Perm (b'.bl ++ (a'.bl ++ []))
  rw [← h1.1, ← h2.1,List.append_nil,List.append_nil]; exact List.perm_append_comm
 ·rcases List.mem_cons.1 ho with rfl | ho
  ·exact h2.2 _ _ (DP _ (List.mem_cons_of_mem _ List.mem_cons_self))
  ·rcases List.mem_singleton.1 ho with rfl
   exact h1.2 _ _ (DP _ List.mem_cons_self)
attribute [local irreducible] Tor.J Tor.PJ Tor.aK Tor.one Tor.slT Tor.bO Tor.bC Tor.bv Tor.exT Tor.cd Tor.eP Tor.aR Tor.aI Tor.slV Tor.VT.le Tor.Ret Tor.bJ
attribute [local irreducible] Tor.rwO
set_option maxHeartbeats 1000000 in
theorem sQ (n c:Nat) (W:Nat→Nat→Nat) (hc0:0<n→0<c) (hn:n≤1048576) (hc:c≤1048576):OkM (σ:=Dp) Tryz.prog 161 [slT .one n (fun i=>jc c (W i))] (fun s=>one (slV (some s.2.2) n n)) (fun s => [sP s.2.2 n c s.1 s.2.1,oy c n s.1 s.2.1 W (fun _=>false)]):=by
 refine OkM.enter Tryz.func161 Y Tryz.ntmps161 Y (fun w O => ?_)
 refine ae (ai (st (ah Y) Y (Run.nil (aa (ae (ai (st (ab Y) Y (st (aU Y) Y ?_))))))))
 refine bV n n Y Y Y Y (Nat.le_refl _) Y Y Z Y Y (fun bz => ?_)
 refine st (ah Y) Y (Run.nil (aa (ae (ae (ai (st (ab Y) Y (st (aU Y) Y (st (ab Y) Y (Run.nil ?_)))))))))
 refine aa (au ?_)
 refine f8 (yl (T:=44) (L := .one) (c:=c) (n:=n) (B:=fun _=>0) (C:=fun _=>0) (φ:=wN W) (DN:=fun q=>decide (0≤q)) (fun i _=>decide_eq_true (Nat.zero_le i))) ?_
 refine cn (Γ' := [(2,_),(3,_),(9,_),(10,_),(11,_)]) DQ (SubM.refl _) ?_
 refine bB (σ:=Nat × (Nat→Nat) × (Nat→Nat)) (Γk := [(2,_),(3,_),(9,_),(10,_)]) DQ (fun s => [(11,one (.int .i64 (s.1:Nat)))]) (fun s M0=>((M0.set 1 (aI (some bz) 173 .one n n (fun q=>if q<s.1 then one (slV (some (s.2.1 q)) c (s.2.2 q)) else one (.slice none 0 0)))).set 0 (oy c n s.2.1 s.2.2 W (fun q=>decide (s.1≤q))))) (fun s=>s.1≤n) (fun s=>n - s.1) ((0,fun _=>0,fun _=>0)) (Nat.zero_le _) DR (.keep DU (.keep DU (.nil))) (fun s hs => ?_)
 refine bQ (Γ' := [(11,_),(2,_),(3,_),(9,_),(10,_)]) (M' := [_,_]) Y Y ?_
 obtain ⟨i,B,C⟩:=s
 dsimp only at hs ⊢
 by_cases hi:i<n
 ·have h1:=wM c (W i) (hc0 Z) hc
  refine ae (ai (st (sT Z (a7 Y Y)) Y (Run.nil (aa (ae (aH Y (az (aa (ae ?_)))))))))
  refine au (ae (ai (st (ab Y) Y (st (aC Y Y Z) Y (st (aM Y) Y (st (ah Y) Y (st (ah Y) Y (Run.nil (aa ?_)))))))))
  refine ai (st (ab Y) Y (st (ab Y) Y (st (ab Y) Y ?_)))
  refine gl (h1) Y ⟨VT.le_refl _,trivial⟩ Y Y (fun s19 => ?_)
  refine st (ao Y Y Z) Y ?_
  (refine aw 2 Y Y Y ?_ Y ?_;omega)
  refine Run.nil (aD (aa (ai (st (bI _ 1 Y Y Z) Y (st (ab Y) Y (Run.nil (fc (lD (i:=i) hi (decide_eq_true (Nat.le_refl i))) ?_)))))))
  refine aQ ((i+1,(fun q=>if q=i then s19.1 else B q),fun q=>if q=i then s19.2 else C q)) Z Z DR (.keep (wP) (.keep (wO Y) (.nil)))
 ·have he:i=n:=by omega
  subst he
  refine ae (ai (st (sF Z (a7 Y Y)) Y (Run.nil (aa (ae (aB Y (aX (av (av ?_)))))))))
  refine aF (aa (ae (ai (st (ab Y) Y (st (ah Y) Y (Run.nil (aa (aE ?_))))))))
  refine fc (yZ (a':=oy c i B C W (fun _=>false)) (b':=sP bz i c B C) (kE (fun q hq=>decide_eq_false Z) (fun q _ _=>⟨rfl,rfl⟩) (fun q j _ _ _=>VT.le_refl _)) (be fun q hq=>by rw [if_pos hq])) ?_
  exact kt ((B,C,bz):Dp) Tryz.results161 (.tmp Y H) (SubM.refl _)
def CH (W:Nat→Nat→Nat) (n k c i:Nat):Prop:=k≤i∧i<n∧W i c≠0 ∧ ∀ q,k≤q→q<i→W q c=0
set_option maxHeartbeats 1000000 in
theorem wQ (bz n c k e i:Nat) (B C:Nat→Nat) (W:Nat→Nat→Nat) (he:e<c) (hn:n≤1048576) (hf:CH W n k e i) :
  OkI Tryz.prog 182 [one (slV (some bz) n n),one (.int .i64 (k:Nat)),one (.int .i64 (e:Nat))] [sP bz n c B C,oy c n B C W (fun _=>false)]
   (fun _:Unit=>one (.int .i64 (i:Nat))) (fun _ => [sP bz n c B C,oy c n B C W (fun _=>false)]):=by
 obtain ⟨f1,f2,f3,f4⟩:=hf
 refine OkI.enter Tryz.func182 Y Tryz.ntmps182 Y (fun w O => ?_)
 refine ae (ai (st (ah Y) Y (Run.nil (aa (ig (ae (ai (st (ah Y) Y (Run.nil ?_)))))))))
 refine aa (ae (jU (aa (ae (ae (ai (st (ab Y) Y (st (ah Y) Y (Run.nil ?_)))))))))
 refine aa (au (cn (Γ' := [(0,_),(2,_),(6,_),(7,_),(8,_)]) DQ (SubM.refl _) ?_))
 refine bB (σ:=Nat) (Γk := [(0,_),(2,_),(6,_)]) DQ (fun j => [(8,one (.int .i64 (j:Nat)))]) (fun j M0=>M0) (fun j=>k≤j∧j≤i) (fun j=>n - j) (k) (⟨Nat.le_refl _,f1⟩) DR (.keep DU (.keep DU (.nil))) (fun j hj => ?_)
 refine bQ (Γ' := [(8,_),(0,_),(2,_),(6,_)]) (M' := [_,_]) Y Y ?_
 obtain ⟨hj1,hj2⟩:=hj
 have hjn:j<n:=by omega
 by_cases hji:j=i
 ·subst hji
  have hz:(W j e:Int)≠0:=by omega
  refine ae (ae (ai (st (ab Y) Y (st (ab Y) Y (st (cx Y) Y (st (sT Z (a7 Y Y)) Y (Run.nil (aa (aH Y ?_)))))))))
  refine az (aa (ae (au (ae (ai (st (ab Y) Y (st (ab Y) Y (st (ao Y Y Z) Y (st (bh 0 Y Y Z) Y ?_)))))))))
  refine st (ab Y) Y (st (ao Y Y Z) Y (st (n6 1 Y Y Z Y Z) Y (Run.nil (aa (au (ae (ai (st (sF (by assumption) (ci Y Y)) Y (st (ah Y) Y ?_)))))))))
  refine Run.nil (aa (aB Y (ae (ai (st (ab Y) Y (st (ah Y) Y (Run.nil (aa (aX ?_)))))))))
  refine c6 Y (c6 Y (av (av (aF (aa (ae (ai (st (ab Y) Y (st (ah Y) Y ?_)))))))))
  refine Run.nil (aa (aE (ee ?_)))
  exact pA (σ:=Unit) () Tryz.results182 (.tmp Y H) (SubM.refl _)
 ·have hz:(W j e:Int)=0:=by have:=f4 j hj1 Z;omega
  refine ae (ae (ai (st (ab Y) Y (st (ab Y) Y (st (cx Y) Y (st (sT Z (a7 Y Y)) Y (Run.nil (aa (aH Y ?_)))))))))
  refine az (aa (ae (au (ae (ai (st (ab Y) Y (st (ab Y) Y (st (ao Y Y Z) Y (st (bh 0 Y Y Z) Y ?_)))))))))
  refine st (ab Y) Y (st (ao Y Y Z) Y (st (n6 1 Y Y Z Y Z) Y (Run.nil (aa (au (ae (ai (st (sT (by assumption) (ci Y Y)) Y (st (ah Y) Y ?_)))))))))
  refine Run.nil (aa (aH Y (az (aD (aD (aa (ai (st (ab Y) Y (st (bI _ 1 Y Y Z) Y ?_)))))))))
  refine st (ah Y) Y (Run.nil ?_)
  refine aQ (j+1) Z Z DR (.keep DU (.keep DU (.nil)))
end Tor
end
section
namespace Tor
theorem iu (n:Nat) (f g:Nat→Int):bA n (fun k=>f k+g k)=bA n f+bA n g:=by
 induction n with
 | zero => rfl
 | succ n ih => rw [bA, bA, bA, ih]; omega
theorem dV (n:Nat) (a:Int) (f:Nat→Int):bA n (fun k=>a*f k)=a*bA n f:=by
 induction n with
 | zero => simp [bA]
 | succ n ih => rw [bA, bA, ih, Int.mul_add]
theorem re {p:Int} {n:Nat} {f:Nat→Int} (h : ∀ k,k<n→p∣f k):p∣bA n f:=by
 induction n with
 | zero => exact Int.dvd_zero p
 | succ n ih => rw [bA]; exact Int.dvd_add (ih fun k hk => h k Z) (h n Z)
theorem gY {p:Int} {n:Nat} {f g:Nat→Int} (h : ∀ k,k<n→p∣f k - g k):p∣bA n f - bA n g:=by
 have h1:=re h
 rw [show (fun k=>f k - g k)=(fun k=>f k+(-1)*g k) by funext k;omega,iu,dV] at h1
 rwa [show bA n f - bA n g=bA n f + -1*bA n g by omega]
theorem gZ {n i:Nat} {f:Nat→Int} (hi:i<n) (h : ∀ k,k<n→k≠i→f k=0):bA n f=f i:=by
 induction n with
 | zero => exact absurd hi (Nat.not_lt_zero _)
 | succ n ih =>
  rw [bA]
  by_cases e:i=n
  ·subst e
   have : ∀ m,m≤i→bA m f=0:=fun m=>by
    induction m with
    | zero => exact fun _ => rfl
    | succ m ihm => intro hm; rw [bA, ihm Z, h m Z Z]; rfl
   rw [this i (Nat.le_refl i),Int.zero_add]
  ·rw [ih Z (fun k hk hne=>h k Z hne),h n Z Z,Int.add_zero]
theorem fY (x p:Nat):(p:Int)∣((x % p:Nat):Int) - (x:Int):=⟨-((x / p:Nat):Int),by
 have h:=Nat.div_add_mod x p
 have:(x:Int)=(p:Int)*((x / p:Nat):Int)+((x % p:Nat):Int):=by rw [← Int.natCast_mul, ← Int.natCast_add,h]
 rw [this,Int.mul_neg]; omega⟩
theorem jK {p a b c:Int} (h1:p∣a - b) (h2:p∣b - c):p∣a - c:=by
 have:=Int.dvd_add h1 h2
 rwa [show a - b+(b - c)=a - c by omega] at this
theorem jL {p a b:Int} (h:p∣a - b):p∣b - a:=by
 have:=Int.dvd_neg.2 h
 rwa [show -(a - b)=b - a by omega] at this
theorem jM {p a b:Int} (h:p∣a - b) (hb:p∣b):p∣a:=by
 have:=Int.dvd_add h hb
 rwa [show a - b+b=a by omega] at this
theorem d5 {p a b:Int} (c:Int) (h:p∣a - b):p∣a*c - b*c:=by rw [← Int.sub_mul]; exact Int.dvd_mul_of_dvd_left h
def ia (p inv k:Nat) (W:Nat→Nat→Nat):Nat→Nat→Nat:=fun h j=>if h=k then inv*W k j % p else (W h j+(0+p - W h k) % p*(inv*W k j % p) % p) % p
theorem A5 {p inv k:Nat} {W:Nat→Nat→Nat} (hp:0<p) (h j:Nat):ia p inv k W h j<p:=by
 unfold ia;split <;> exact Nat.mod_lt _ hp
theorem kL {p inv k:Nat} {W:Nat→Nat→Nat} (j:Nat):(p:Int)∣(ia p inv k W k j:Int) - (inv:Int)*(W k j:Int):=by
 unfold ia;rw [if_pos Y, ← Int.natCast_mul]; exact fY _ _
theorem oz {p inv k:Nat} {W:Nat→Nat→Nat} {h:Nat} (hne:h≠k) (hW:W h k<p) (j:Nat):(p:Int)∣(ia p inv k W h j:Int) - ((W h j:Int) - (W h k:Int)*((inv:Int)*(W k j:Int))):=by
 unfold ia;rw [if_neg hne]
 have h1:=fY (W h j+(0+p - W h k) % p*(inv*W k j % p) % p) p
 have h2:=fY ((0+p - W h k) % p*(inv*W k j % p)) p
 have h3:=fY (0+p - W h k) p
 have h4:=fY (inv*W k j) p
 rw [Int.natCast_add] at h1
 rw [Int.natCast_mul] at h2 h4
 rw [show ((0+p - W h k:Nat):Int)=(p:Int) - (W h k:Int) by omega] at h3
 have h5:(p:Int)∣(((0+p - W h k) % p:Nat):Int) - (-(W h k:Int)):=by
  have:=Int.dvd_add h3 (Int.dvd_refl (p:Int))
  rwa [show (((0+p - W h k) % p:Nat):Int) - ((p:Int) - (W h k:Int))+(p:Int)=(((0+p - W h k) % p:Nat):Int) - (-(W h k:Int)) by omega] at this
 have h6:(p:Int)∣(((0+p - W h k) % p:Nat):Int)*((inv*W k j % p:Nat):Int) - -(W h k:Int)*((inv:Int)*(W k j:Int)):=by
  refine jK (d5 _ h5) ?_
  rw [Int.mul_comm (-(W h k:Int)),Int.mul_comm (-(W h k:Int))]
  exact d5 _ h4
 have h7:=jK h2 h6
 refine jK h1 ?_
 rw [show (W h j:Int)+((((0+p - W h k) % p*(inv*W k j % p) % p:Nat)):Int) - ((W h j:Int) - (W h k:Int)*((inv:Int)*(W k j:Int)))=((((0+p - W h k) % p*(inv*W k j % p) % p:Nat)):Int) - -(W h k:Int)*((inv:Int)*(W k j:Int)) by rw [Int.neg_mul]; omega]
 exact h7
structure EchI (p n:Nat) (F:Nat→Nat→Int) (k:Nat) (W:Nat→Nat→Nat):Prop where
 lt : ∀ i j,i<n→j<n+n→W i j<p
 unit : ∀ h j,h<n→j<k→W h j=if h=j then 1 else 0
 rel : ∀ h j,h<n→j<n→(p:Int)∣(W h j:Int) - bA n (fun t=>(W h (n+t):Int)*F t j)
 ker : ∀ u:Nat→Int,(∀ h,h<n→(p:Int)∣bA n (fun j=>(W h j:Int)*u j)) → ∀ h,h<n→(p:Int)∣bA n (fun j=>F h j*u j)
theorem EchI.swap {p n k i:Nat} {F:Nat→Nat→Int} {W:Nat→Nat→Nat} (h:EchI p n F k W) (hk:k<n) (hi:i<n) (hki:k≤i):EchI p n F k (swp i k W):=by
 have hrow : ∀ q,q<n → ∃ q',q'<n∧swp i k W q=W q':=fun q hq=>by
  unfold swp
  by_cases e1:q=i
  ·exact ⟨k,hk,by rw [if_pos e1]⟩
  ·by_cases e2:q=k
   ·exact ⟨i,hi,by rw [if_neg e1,if_pos e2]⟩
   ·exact ⟨q,hq,by rw [if_neg e1,if_neg e2]⟩
 have hinv : ∀ q,q<n → ∃ q',q'<n∧W q=swp i k W q':=fun q hq=>by
  unfold swp
  by_cases e1:q=i
  ·exact ⟨k,hk,by
    by_cases e:k=i
    ·rw [if_pos e,e1,e]
    ·rw [if_neg e,if_pos Y,e1]⟩
  ·by_cases e2:q=k
   ·exact ⟨i,hi,by rw [if_pos Y,e2]⟩
   ·exact ⟨q,hq,by rw [if_neg e1,if_neg e2]⟩
 refine ⟨fun q j hq hj => ?_,fun q j hq hj => ?_,fun q j hq hj => ?_,fun u hu q hq=>h.ker u (fun q hq => ?_) q hq⟩
 ·obtain ⟨q',h1,h2⟩:=hrow q hq;rw [h2]; exact h.lt q' j h1 hj
 ·unfold swp
  by_cases e1:q=i
  ·rw [if_pos e1,h.unit k j hk hj,if_neg Z,if_neg Z]
  ·by_cases e2:q=k
   ·rw [if_neg e1,if_pos e2,h.unit i j hi hj,if_neg Z,if_neg Z]
   ·rw [if_neg e1,if_neg e2]; exact h.unit q j hq hj
 ·obtain ⟨q',h1,h2⟩:=hrow q hq;rw [h2]; exact h.rel q' j h1 hj
 ·obtain ⟨q',h1,h2⟩:=hinv q hq;rw [h2]; exact hu q' h1
theorem EchI.step {p n k inv:Nat} {F:Nat→Nat→Int} {W:Nat→Nat→Nat} (h:EchI p n F k W) (hp:2≤p) (hk:k<n) (hinv:inv*W k k % p=1):EchI p n F (k+1) (ia p inv k W):=by
 have hlt:=fun q (hq:q<n)=>h.lt q k hq Z
 have hc1:(p:Int)∣(inv:Int)*(W k k:Int) - 1:=by
  have:=jL (fY (inv*W k k) p)
  rw [hinv,Int.natCast_mul] at this
  exact this
 refine ⟨fun q j hq hj=>A5 Z q j,fun q j hq hj => ?_,fun q j hq hj => ?_,fun u hu=>h.ker u fun q hq => ?_⟩
 ·by_cases hjk:j<k
  ·have h0:W k j=0:=by rw [h.unit k j hk hjk,if_neg Z]
   unfold ia
   rw [h0,Nat.mul_zero,Nat.zero_mod,Nat.mul_zero,Nat.zero_mod,Nat.add_zero]
   by_cases e:q=k
   ·rw [if_pos e,if_neg Z]
   ·rw [if_neg e,Nat.mod_eq_of_lt (h.lt q j hq Z)]; exact h.unit q j hq hjk
  ·have hjk:j=k:=by omega
   subst hjk
   unfold ia
   rw [hinv]
   by_cases e:q=j
   ·rw [if_pos e,if_pos e]
   ·rw [if_neg e,if_neg e,Nat.mul_one,Nat.mod_mod]
    have:=hlt q hq
    by_cases hz:W q j=0
    ·rw [hz,Nat.zero_add,Nat.zero_add,Nat.sub_zero,Nat.mod_mod,Nat.mod_self]
    ·rw [Nat.mod_eq_of_lt (show 0+p - W q j<p by omega),show W q j+(0+p - W q j)=p by omega,Nat.mod_self]
 ·by_cases e:q=k
  ·subst e
   refine jK (kL j) ?_
   have h1:=d5 (inv:Int) (h.rel q j hq hj)
   rw [Int.mul_comm _ (inv:Int),Int.mul_comm _ (inv:Int), ← dV] at h1
   refine jK h1 (gY fun t ht => ?_)
   have h2:=jL (d5 (F t j) (kL (p:=p) (inv:=inv) (k:=q) (W:=W) (n+t)))
   rwa [Int.mul_assoc] at h2
  ·refine jK (oz e (hlt q hq) j) ?_
   have h1:=h.rel q j hq hj
   have h2:=d5 ((W q k:Int)*(inv:Int)) (h.rel k j hk hj)
   have h3:=Int.dvd_sub h1 h2
   have h4:(p:Int)∣bA n (fun t=>(W q (n+t):Int)*F t j+(-((W q k:Int)*(inv:Int)))*((W k (n+t):Int)*F t j)) - bA n (fun t=>(ia p inv k W q (n+t):Int)*F t j):=gY fun t ht=>by
    have h5:=jL (d5 (F t j) (oz (p:=p) (inv:=inv) e (hlt q hq) (n+t)))
    rwa [show ((W q (n+t):Int) - (W q k:Int)*((inv:Int)*(W k (n+t):Int)))*F t j=(W q (n+t):Int)*F t j+(-((W q k:Int)*(inv:Int)))*((W k (n+t):Int)*F t j) by grind] at h5
   rw [iu,dV] at h4
   have h5:=Int.dvd_add h3 h4
   generalize bA n (fun t=>(W q (n+t):Int)*F t j)=A at *
   generalize bA n (fun t=>(W k (n+t):Int)*F t j)=B at *
   generalize bA n (fun t=>(ia p inv k W q (n+t):Int)*F t j)=C at *
   rwa [show (W q j:Int) - A - ((W k j:Int)*((W q k:Int)*(inv:Int)) - B*((W q k:Int)*(inv:Int)))+(A + -((W q k:Int)*(inv:Int))*B - C)=(W q j:Int) - (W q k:Int)*((inv:Int)*(W k j:Int)) - C by grind] at h5
 ·have hpk:(p:Int)∣(inv:Int)*bA n (fun j=>(W k j:Int)*u j):=by
   have h1:=hu k hk
   rw [← dV]
   refine jM (gY fun j hj => ?_) h1
   have h2:=jL (d5 (u j) (kL (p:=p) (inv:=inv) (k:=k) (W:=W) j))
   rwa [Int.mul_assoc] at h2
  by_cases e:q=k
  ·subst e
   have h1:=Int.dvd_trans hpk (Int.dvd_mul_right _ (W q q:Int))
   have h2:=d5 (bA n (fun j=>(W q j:Int)*u j)) hc1
   generalize bA n (fun j=>(W q j:Int)*u j)=A at *
   have h3:=Int.dvd_sub h1 h2
   rwa [show (inv:Int)*A*(W q q:Int) - ((inv:Int)*(W q q:Int)*A - 1*A)=A by grind] at h3
  ·have h1:=hu q hq
   have h2:(p:Int)∣bA n (fun j=>(W q j:Int)*u j+(-(W q k:Int))*((inv:Int)*((W k j:Int)*u j))) - bA n (fun j=>(ia p inv k W q j:Int)*u j):=gY fun j hj=>by
    have h5:=jL (d5 (u j) (oz (p:=p) (inv:=inv) e (hlt q hq) j))
    rwa [show ((W q j:Int) - (W q k:Int)*((inv:Int)*(W k j:Int)))*u j=(W q j:Int)*u j+(-(W q k:Int))*((inv:Int)*((W k j:Int)*u j)) by grind] at h5
   rw [iu,dV,dV] at h2
   have h3:=Int.dvd_trans hpk (Int.dvd_mul_left (W q k:Int) _)
   have h4:=Int.dvd_add (jM h2 h1) h3
   generalize bA n (fun j=>(W q j:Int)*u j)=A at *
   generalize (inv:Int)*bA n (fun j=>(W k j:Int)*u j)=B at *
   rwa [show A + -(W q k:Int)*B+(W q k:Int)*B=A by grind] at h4
theorem EchI.first {p n k:Nat} {F:Nat→Nat→Int} {W:Nat→Nat→Nat} (h:EchI p n F k W) (hp:2≤p) (hk:k<n) (hF : ∀ u:Nat→Int,(∀ h,h<n→(p:Int)∣bA n (fun j=>F h j*u j)) → ∀ j,j<n→(p:Int)∣u j) : ∃ i,k≤i∧i<n∧W i k≠0 ∧ ∀ q,k≤q→q<i→W q k=0:=by
 by_cases hz : ∀ q,k≤q→q<n→W q k=0
 ·exfalso
  have h1:=hF (fun j=>if j=k then 1 else if j<k then -(W j k:Int) else 0) (h.ker _ fun q hq => ?_) k hk
  ·rw [if_pos Y] at h1
   have:=Int.le_of_dvd S h1
   omega
  ·have hsum:bA n (fun j=>(W q j:Int)*(if j=k then 1 else if j<k then -(W j k:Int) else 0))=0:=by
    by_cases hqk:q<k
    ·rw [show (fun j=>(W q j:Int)*(if j=k then 1 else if j<k then -(W j k:Int) else 0))=(fun j=>(W q j:Int)*(if j=k then 1 else 0)+(W q j:Int)*(if j<k then -(W j k:Int) else 0)) by
       funext j
       by_cases e:j=k
       ·rw [if_pos e,if_pos e,if_neg Z,Int.mul_zero,Int.add_zero]
       ·rw [if_neg e,if_neg e,Int.mul_zero,Int.zero_add],iu,
      gZ hk (fun j hj hne=>by rw [if_neg hne,Int.mul_zero]),if_pos Y,Int.mul_one,
      gZ hq (fun j hj hne=>by
       by_cases e:j<k
       ·rw [h.unit q j hq e,if_neg (Ne.symm hne)]; simp
       ·rw [if_neg e,Int.mul_zero]),if_pos hqk,h.unit q q hq hqk,if_pos Y]
     omega
    ·rw [dU (g:=fun _=>(0:Int)*0) (fun j hj=>by
      by_cases e:j=k
      ·rw [e,hz q Z hq]; simp
      ·by_cases e2:j<k
       ·rw [h.unit q j hq e2,if_neg Z]; simp
       ·rw [if_neg e,if_neg e2,Int.mul_zero,Int.mul_zero]),dV,Int.zero_mul]
   rw [hsum]; exact Int.dvd_zero _
 ·have : ∃ i,k≤i∧i<n∧W i k≠0:=Classical.byContradiction fun hc=>hz fun q h1 h2=>Classical.byContradiction fun h3=>hc ⟨q,h1,h2,h3⟩
  obtain ⟨i,h1,h2,h3⟩:=this
  induction i using Nat.strongRecOn with
  | _ i ih =>
   by_cases hall : ∀ q,k≤q→q<i→W q k=0
   ·exact ⟨i,h1,h2,h3,hall⟩
   ·have : ∃ q,k≤q∧q<i∧W q k≠0:=Classical.byContradiction fun hc=>hall fun q h4 h5=>Classical.byContradiction fun h6=>hc ⟨q,h4,h5,h6⟩
    obtain ⟨q,h4,h5,h6⟩:=this
    exact ih q h5 h4 Z h6
theorem EchI.done {p n:Nat} {F:Nat→Nat→Int} {W:Nat→Nat→Nat} (h:EchI p n F n W) : ∀ i j,i<n→j<n→(p:Int)∣bA n (fun t=>(W i (n+t):Int)*F t j) - (if i=j then 1 else 0):=fun i j hi hj=>by
 have h1:=h.rel i j hi hj
 rw [h.unit i j hi hj] at h1
 refine jL ?_
 by_cases e:i=j
 ·rw [if_pos e] at h1 ⊢; exact h1
 ·rw [if_neg e] at h1 ⊢; exact h1
theorem EchI.start {p n:Nat} {F:Nat→Nat→Int} {W:Nat→Nat→Nat} (hp:0<p) (h1 : ∀ i j,i<n→j<n→(W i j:Int)=F i j % (p:Int)) (h2 : ∀ i t,i<n→t<n→W i (n+t)=if i=t then 1 else 0) (hp1:1<p):EchI p n F 0 W:=by
 have hcong : ∀ i j,i<n→j<n→(p:Int)∣(W i j:Int) - F i j:=fun i j hi hj=>by
  rw [h1 i j hi hj]
  exact ⟨-(F i j / (p:Int)),by have:=Int.mul_ediv_add_emod (F i j) (p:Int);rw [Int.mul_neg]; omega⟩
 refine ⟨fun i j hi hj => ?_,fun h j _ hj=>absurd hj (Nat.not_lt_zero _),fun i j hi hj => ?_,fun u hu i hi => ?_⟩
 ·by_cases e:j<n
  ·have:=h1 i j hi e
   have:=Int.emod_lt_of_pos (F i j) (show 0<(p:Int) by omega)
   omega
  ·have:=h2 i (j - n) hi Z
   rw [show n+(j - n)=j by omega] at this
   rw [this]; split <;> omega
 ·rw [gZ (f:=fun t=>(W i (n+t):Int)*F t j) hi (fun t ht hne=>by rw [h2 i t hi ht,if_neg (Ne.symm hne)]; simp),h2 i i hi hi,if_pos Y]
  have:=hcong i j hi hj
  simpa using this
 ·exact jM (gY fun j hj=>by
   have:=jL (d5 (u j) (hcong i j hi hj))
   exact this) (hu i hi)
end Tor
end
