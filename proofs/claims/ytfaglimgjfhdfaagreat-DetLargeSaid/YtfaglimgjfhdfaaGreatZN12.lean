/-
  Proofs that laws of this seat return true for every input, and that their arguments read afterwards as before.
  No condition.
-/
import Derived.Test.YtfaglimgjfhdfaaGreatZN11
import Derived.Test.YtfaglimgjfhdfaaGreatRows
set_option maxHeartbeats 20000000
set_option linter.unusedVariables false
set_option linter.unusedSimpArgs false
set_option linter.unusedSectionVars false
section
namespace Tor
open Go Go.RowKit Go.Proofs
theorem BF:Sz 4 9:=⟨by decide,by decide +kernel,by decide +kernel⟩
theorem szR:Sz 4 2304:=⟨by decide,by decide +kernel,by decide +kernel⟩
def w2D (a b:Nat):VT:=bE 2 [(0, .one,one (.int .u8 (a:Int))),(1, .one,one (.int .u8 (b:Int)))]
theorem zZ {sv:Option Nat} {cap n i k:Nat} {F:Nat→Nat→Int} : Own.le (aH sv 39 .one cap n (upd (upd (fun q=>ei n (F q)) i (ei n (F k))) k (ei n (F i)))) (aH sv 39 .one cap n (fun q=>ei n (swp i k F q))):=bV fun q _=>by
 unfold upd swp
 by_cases h1:q=k
 ·rw [if_pos h1]
  by_cases h2:q=i
  ·rw [if_pos h2, ← h1, ← h2]
  ·rw [if_neg h2,if_pos h1]
 ·rw [if_neg h1]
  by_cases h2:q=i
  ·rw [if_pos h2,if_pos h2]
  ·rw [if_neg h2,if_neg h2,if_neg h1]
theorem vP {bs:List Nat} {sv:Option Nat} {cap n:Nat} {F:Nat→Nat→Int} (hb:bs.length=n):p8 [dQ n bs F] (aH sv 39 .one cap n (fun q=>one (slV (some (bs.getD q 0)) n n))) (aH sv 39 .one cap n (fun q=>ei n (F q))):=p8.sl fun q hq=>by
 exact Ent.row (φ:=fun q k=>aU (F q k)) List.mem_cons_self (m7 X)
theorem yq {b bo cap n:Nat} {F:Nat→Nat→Int} : p8 [aH (some bo) 39 .one cap n (fun q=>ei n (F q))] (aT b 35 3 [(0, .one,one (.int .i64 n)),(1, .one,one (.int .i64 n)),(2, .one,one (slV (some bo) n cap))]) (aT b 35 3 [(0, .one,one (.int .i64 n)),(1, .one,one (.int .i64 n)),(2, .one,slT .one n (fun i=>ei n (F i)))]) :=
 p8.box (oL.cons (k:=0) (L := .one) (φ:=one (.int .i64 n)) (dU Z) (Ent.refl _) (oL.cons (k:=1) (L := .one) (φ:=one (.int .i64 n)) (dU Z) (Ent.refl _) (oL.cons (k:=2) (L := .one) (φ:=one (slV (some bo) n cap)) (dU Z) (Ent.slE List.mem_cons_self fun q hq=>Ent.refl _) oL.nil)))
def c3V (n:Nat):Nat→S3→VT
 | 1, s => tf n n s
 | 3, s => tf n n s
 | 5, s => tf n n s
 | _, s => one (.pointer (some ⟨s.1.headD 0, 0, none⟩))
def c3M (T:TypeId) (n:Nat) (F:Nat→Nat→Int):Nat→S3→Mem
 | 1, s => zV n n s F
 | 3, s => zV n n s F
 | 5, s => zV n n s F
 | _, s => [aT (s.1.headD 0) T 3 (dJ #[Value.int IntKind.i64 0, Value.int IntKind.i64 0, Value.slice none 0 0] [(0, .one), (1, .one), (2, .one)])]
attribute [local irreducible] J PJ aC one slT bL bE bw exT cj eP aT aH slV VT.le Ret bQ dz ed
attribute [local irreducible] aU cr cZ
set_option maxRecDepth 100000 in
theorem tg (r c:Nat) (l:List Int) (w0 w1:Nat) (k0:Int) (hw0:w0<256) (hw1:w1<256) (hk0 : -128≤k0∧k0≤127):oy Tryz.prog 6 [gU r c l,w2D w0 w1,one (.int .i8 k0)] (one (.bool true)):=by
 have hsq:=nq r c l
 have hr:r % 5≤4:=by omega
 generalize hF:(fun i j=>dig l (i*(r % 5)+j))=F at *
 have aF : ∀ i j,(F i j).natAbs≤9:=fun i j=>by rw [← hF]; exact uv _ _
 clear hF
 generalize r % 5=n at *
 have hsan:=lT
 have v1:=lc BF hr F aF
 have hs4 : ∀ {x:Int},x.natAbs≤2304→cf x:=fun h=>cM (Nat.le_trans h V)
 have hCo:=lU n n F X X (fun i j=>hs4 (Nat.le_trans (aF i j) U))
 simp only [Int.mul_one] at hCo
 have hCo2:=zW hCo
 clear hCo
 have ho1:=fN k0 X X
 have hk9 : ∀ i j,(k0*F i j).natAbs≤1152:=fun i j=>by
  rw [Int.natAbs_mul]; exact Nat.le_trans (Nat.mul_le_mul (show _≤128 by omega) (aF i j)) U
 have hmu : ∀ i j,Ok Tryz.prog 16 [aU k0,aU (F i j)] (aU (k0*F i j)):=fun i j=>g9 k0 (F i j) (hs4 X) (hs4 (Nat.le_trans (aF i j) U))
 have had : ∀ i j a b,Ok Tryz.prog 15 [aU (F i j),aU (k0*F a b)] (aU (F i j+k0*F a b)):=fun i j a b=>kI _ _ (hs4 (Nat.le_trans (aF i j) U)) (hs4 (Nat.le_trans (hk9 a b) U))
 have hsm:=BF.small hr aF
 have hng:=qD (-Lin.bY n F) (by unfold cf at *; simpa using hsm)
 rw [Int.neg_neg] at hng
 have hmd:=g9 k0 (Lin.bY n F) (hs4 X) hsm
 have hsa:=iE (Lin.bY n F)
 have hsb:=iE (k0*Lin.bY n F)
 by_cases hn:0<n
 ·have hi:=Nat.mod_lt w0 hn
  have hj:=Nat.mod_lt w1 hn
  have v2:=lc BF hr (swp (w0 % n) (w1 % n) F) (fun a b=>by unfold swp;split;exact aF _ _;split;exact aF _ _;exact aF _ _)
  have v3:=lc szR hr (fa (w0 % n) n (fun q=>F (w0 % n) q+k0*F (w1 % n) q) F) (rF (fun i j=>Nat.le_trans (aF i j) U) (fun q=>by have:=aF (w0 % n) q;have:=hk9 (w1 % n) q;omega))
  have v4:=lc szR hr (fa (w0 % n) n (fun q=>k0*F (w0 % n) q) F) (rF (fun i j=>Nat.le_trans (aF i j) U) (fun q=>Nat.le_trans (hk9 _ _) U))
  rw [yp hi] at v4
  unfold gU cr w2D at *
  refine oy.enter Tryz.func6 Z Tryz.ntmps6 Z (fun w O => ?_)
  refine ae (ai ?_)
  refine bJ Z Z (ltN Z) (fun b3 => ?_)
  refine bJ Z Z (ltN Z) (fun b4 => ?_)
  refine Cd Z (Cf (aa (ae (ai (Cb (ao (hsan) Z trivial) (Cd Z (Cf (aa (ae ?_)))))))))
  refine ai (Cb (bI 1 Z Z) ?_)
  refine Cb (ao (hsq) Z ⟨A,Cg⟩) ?_
  refine bZ (T:=35) Z Z Z (fun b8 => ?_)
  refine bX 0 Z Z Z Z (Cf (aa (ae (ai (Cb (bI 0 Z Z) ?_)))))
  refine Cb (ao (v1) Z ⟨A,Cg⟩) ?_
  refine Cc Z (Cb (aA Z Z) (Cb (aA Z Z) ?_))
  refine aN (T:=28) Z (ltN Z) (fun b9 => ?_)
  refine az 0 Z Z Z Z Z (leN Z) Z (Cd Z (Cf (aa (ae (ae (ai (Cb (aj Z) (Cb (am 1 Z Z Z) (Cb (sF X (cQ Z Z)) ?_)))))))))
  refine Cf (aa (aD Z (ay (aa (ae ?_)))))
  refine fX bH Y Y ?_
  refine ux (fun B=>nJ 0 _ Z Z (ltN Z)) Z Z ?_
  refine ux (fun B=>am 2 Z Z Z) Z Z ?_
  refine ux (fun B=>dc Z X X) Z Z ?_
  refine ux (fun B=>aj Z) Z Z ?_
  refine ux (fun B=>am 1 Z Z Z) Z Z ?_
  refine ux (fun B=>eh _ Z Z Z X) Z Z ?_
  refine ux (fun B=>nJ 1 _ Z Z (ltN Z)) Z Z ?_
  refine ux (fun B=>am 2 Z Z Z) Z Z ?_
  refine ux (fun B=>dc Z X X) Z Z ?_
  refine ux (fun B=>aj Z) Z Z ?_
  refine ux (fun B=>am 1 Z Z Z) Z Z ?_
  refine ux (fun B=>eh _ Z Z Z X) Z Z ?_
  refine ux (fun B=>ab Z) Z Z ?_
  refine ux (fun B=>dc Z X X) Z Z ?_
  refine uxk (ho1) Z ⟨A,Cg⟩ Z ?_
  refine ua Z ?_
  refine ux (fun B=>ah Z) Z Z ?_
  refine ux (fun B=>ah Z) Z Z ?_
  refine us Z ?_
  refine RunU.nil (fun γ => ?_)
  refine er (M' := [_,_,_,_,_]) Z (aa (ae (Bp 6 9 [1,3,5,6,7,8] ([],none,0) (c3V n) (c3M 35 n F) bH Y U Z U ?_)))
  refine kx Z (fun s B=>bI 2 Z Z) Z ?_
  refine kc Z (fun s B=>pO hCo2 Z ⟨A,Cg⟩) Z ?_
  refine kx Z (fun s B=>bI 2 Z Z) Z ?_
  refine kc Z (fun s B=>pO hCo2 Z ⟨A,Cg⟩) Z ?_
  refine kx Z (fun s B=>bI 2 Z Z) Z ?_
  refine kc Z (fun s B=>pO hCo2 Z ⟨A,Cg⟩) Z ?_
  refine kc Z (fun s B=>lI (fun b=>([b],none,0)) (fun b=>rfl) (fun b=>rfl) Z) Z ?_
  refine kc Z (fun s B=>lI (fun b=>([b],none,0)) (fun b=>rfl) (fun b=>rfl) Z) Z ?_
  refine kc Z (fun s B=>lI (fun b=>([b],none,0)) (fun b=>rfl) (fun b=>rfl) Z) Z ?_
  refine .nil fun t => ?_
  refine yH (Γ' := [(16,one (.pointer (some ⟨(t 8).1.headD 0,0,none⟩))),(15,one (.pointer (some ⟨(t 7).1.headD 0,0,none⟩))),(14,one (.pointer (some ⟨(t 6).1.headD 0,0,none⟩))),(64,tf n n (t 5)),(62,tf n n (t 3)),(60,tf n n (t 1)),(13,_),(12,_),(11,_),(10,_),(9,_),(8,_),(7,_)]) (M' := [nt (ok3 n (t 1)),gT (t 1).2.1 (t 1).2.2 n n (t 1).1,dQ n (t 1).1 F,nt (ok3 n (t 3)),gT (t 3).2.1 (t 3).2.2 n n (t 3).1,dQ n (t 3).1 F,nt (ok3 n (t 5)),gT (t 5).2.1 (t 5).2.2 n n (t 5).1,dQ n (t 5).1 F,_,_,_,_,_,_,_,_]) BZ (SubM.refl _) ?_
  generalize t 1=sA
  generalize t 3=sB
  generalize t 5=sC
  generalize (t 6).1.headD 0=b14
  generalize (t 7).1.headD 0=b15
  generalize (t 8).1.headD 0=b16
  refine bX 9 Z Z Z Z (bX 10 Z Z Z Z (bX 11 Z Z Z Z (Cf (aa (ae ?_)))))
  refine kb (i:=0) (F:=ok3 n sA) Z (fun g h hp=>hp) (fun hA => ?_)
  refine kb (i:=3) (F:=ok3 n sB) Z (fun g h hp=>hp) (fun hB => ?_)
  refine kb (i:=6) (F:=ok3 n sC) Z (fun g h hp=>hp) (fun hC => ?_)
  obtain ⟨bA,svA,capA⟩:=sA
  obtain ⟨bB,svB,capB⟩:=sB
  obtain ⟨bC,svC,capC⟩:=sC
  obtain ⟨hlA,hsA⟩:=hA
  obtain ⟨hlB,hsB⟩:=hB
  obtain ⟨hlC,hsC⟩:=hC
  dsimp only at hlA hsA hlB hsB hlC hsC
  obtain ⟨oA,rfl⟩:=fA hsA X
  obtain ⟨oB,rfl⟩:=fA hsB X
  obtain ⟨oC,rfl⟩:=fA hsC X
  refine cv (Γ' := [(16,_),(15,_),(14,_),(13,_),(12,_),(11,_),(10,_),(9,_),(8,_),(7,_)]) (M' := [_,_,_,_,_,_,_,_,_,_,_,_,_,_]) BZ (.drop (.keep Ca (.keep Ca (.drop (.keep Ca (.keep Ca (.drop (SubM.refl _)))))))) ?_
  unfold gT
  dsimp only
  generalize w0 % n=i at *
  generalize w1 % n=k at *
  refine iX [dQ n bA F] (List.Perm.swap _ _ _) (.keep (vP hlA) (EntM.refl _)) (uE.refl _) ?_
  apply r8 (Γ1 := [(14,_),(15,_),(16,_),(13,_),(12,_),(11,_),(10,_),(9,_),(8,_),(7,_)]) (M1 := [_,_,_,_,_,_,_,_,_,_,_,_,_]) 17 6 [3,4,5] [] bH Y U
  ·refine Cb (aj Z) (Cb (am 5 Z Z Z) (Cc Z (Cb (aj Z) (Cb (am 5 Z Z Z) (Cc Z (Cb (aj Z) (Cb (am 5 Z Z Z) (Cc Z (Cb (ar Z Z X) ?_)))))))))
   refine Cb (bM 0 Z Z X) (Cb (aj Z) (Cb (am 5 Z Z Z) (Cc Z (Cb (ar Z Z X) (Cb (bM 0 Z Z X) (Cb (ar Z Z X) (Cf ?_)))))))
   refine wA (Γa := [(14,_),(15,_),(16,_),(13,_),(12,_),(11,_),(10,_),(9,_),(8,_),(7,_),(81,_),(75,_),(80,_)]) (Γb := [(14,_),(15,_),(16,_),(13,_),(12,_),(11,_),(10,_),(9,_),(8,_),(7,_),(81,_),(75,_),(80,_),(70,_)]) (Γc := [(14,_),(15,_),(16,_),(13,_),(12,_),(11,_),(10,_),(9,_),(8,_),(7,_),(81,_),(75,_),(80,_),(69,_)]) (Γd := [(14,_),(15,_),(16,_),(13,_),(12,_),(11,_),(10,_),(9,_),(8,_),(7,_),(81,_),(75,_),(80,_),(69,_),(70,_)]) (Γe := [(14,_),(15,_),(16,_),(13,_),(12,_),(11,_),(10,_),(9,_),(8,_),(7,_),(81,_),(75,_),(80,_),(68,_)]) (Γf := [(14,_),(15,_),(16,_),(13,_),(12,_),(11,_),(10,_),(9,_),(8,_),(7,_),(81,_),(75,_),(80,_),(68,_),(70,_)]) (Γg := [(14,_),(15,_),(16,_),(13,_),(12,_),(11,_),(10,_),(9,_),(8,_),(7,_),(81,_),(75,_),(80,_),(69,_)]) (Γh := [(14,_),(15,_),(16,_),(13,_),(12,_),(11,_),(10,_),(9,_),(8,_),(7,_),(81,_),(75,_),(80,_),(69,_),(70,_)]) (rem := [17,18,19]) Z BZ Z BZ Z BZ Z BZ Z BZ Z BZ Z BZ Z BZ Z ?_ ?_ ?_ ?_ ?_ ?_ ?_ ?_
   ·refine dw (r1 := [4,5,17,18,19]) (r2 := [3,4,17,18,19]) (r3 := [3,4,5,18,19]) (i:=3) (j:=5) (k:=17) Y Z Z Z Z Z Z ?_ ?_ ?_ iZ.nil
    refine Cb (aj Z) (Cf ?_)
    refine ⟨rfl,?_⟩
    refine dw (r1 := [5,17,18,19]) (r2 := [4,17,18,19]) (r3 := [4,5,18,19]) (i:=4) (j:=5) (k:=17) Y Z Z Z Z Z Z ?_ ?_ ?_ iZ.nil
    refine Cb (am 5 Z Z Z) (Cf ?_)
    refine ⟨rfl,?_⟩
    refine bm (rem' := [17,18,19]) (rem'' := [5,18,19]) (i:=5) (j:=17) Y Z Z Z Z ?_ ?_ iZ.nil
    refine Cc Z (Cf ?_)
    refine ⟨rfl,?_⟩
    refine ak (rem' := [18,19]) (i:=17) Y Z Z ?_ iZ.nil
    (refine au 0 Z Z Z ?_ Z ?_;omega)
    refine Cf ?_
    refine ⟨rfl,?_⟩
    refine ak (rem' := [19]) (i:=18) Y Z Z ?_ iZ.nil
    refine Cb (ar Z Z X) (Cf ?_)
    refine ⟨rfl,?_⟩
    refine ak (rem' := []) (i:=19) Y Z Z ?_ iZ.nil
    (refine au 0 Z Z Z ?_ Z ?_;omega)
    refine Cf ?_
    refine ⟨rfl,?_⟩
    refine aE BZ (SubM.refl _) iZ.nil
    (refine au 0 Z Z Z ?_ Z ?_;omega)
    refine Cf ?_
    refine ⟨rfl,?_⟩
    refine ak (rem' := [18,19]) (i:=5) Y Z Z ?_ iZ.nil
    refine Cc Z (Cf ?_)
    refine ⟨rfl,?_⟩
    refine ak (rem' := [19]) (i:=18) Y Z Z ?_ iZ.nil
    refine Cb (ar Z Z X) (Cf ?_)
    refine ⟨rfl,?_⟩
    refine ak (rem' := []) (i:=19) Y Z Z ?_ iZ.nil
    (refine au 0 Z Z Z ?_ Z ?_;omega)
    refine Cf ?_
    refine ⟨rfl,?_⟩
    refine aE BZ (SubM.refl _) iZ.nil
    refine Cc Z (Cf ?_)
    refine ⟨rfl,?_⟩
    refine bm (rem' := [17,18,19]) (rem'' := [4,18,19]) (i:=4) (j:=17) Y Z Z Z Z ?_ ?_ iZ.nil
    refine Cb (am 5 Z Z Z) (Cf ?_)
    refine ⟨rfl,?_⟩
    refine ak (rem' := [18,19]) (i:=17) Y Z Z ?_ iZ.nil
    (refine au 0 Z Z Z ?_ Z ?_;omega)
    refine Cf ?_
    refine ⟨rfl,?_⟩
    refine ak (rem' := [19]) (i:=18) Y Z Z ?_ iZ.nil
    refine Cb (ar Z Z X) (Cf ?_)
    refine ⟨rfl,?_⟩
    refine ak (rem' := []) (i:=19) Y Z Z ?_ iZ.nil
    (refine au 0 Z Z Z ?_ Z ?_;omega)
    refine Cf ?_
    refine ⟨rfl,?_⟩
    refine aE BZ (SubM.refl _) iZ.nil
    (refine au 0 Z Z Z ?_ Z ?_;omega)
    refine Cf ?_
    refine ⟨rfl,?_⟩
    refine ak (rem' := [18,19]) (i:=4) Y Z Z ?_ iZ.nil
    refine Cb (am 5 Z Z Z) (Cf ?_)
    refine ⟨rfl,?_⟩
    refine ak (rem' := [19]) (i:=18) Y Z Z ?_ iZ.nil
    refine Cb (ar Z Z X) (Cf ?_)
    refine ⟨rfl,?_⟩
    refine ak (rem' := []) (i:=19) Y Z Z ?_ iZ.nil
    (refine au 0 Z Z Z ?_ Z ?_;omega)
    refine Cf ?_
    refine ⟨rfl,?_⟩
    refine aE BZ (SubM.refl _) iZ.nil
    (refine au 0 Z Z Z ?_ Z ?_;omega)
    refine Cf ?_
    refine ⟨rfl,?_⟩
    refine bm (rem' := [5,18,19]) (rem'' := [4,18,19]) (i:=4) (j:=5) Y Z Z Z Z ?_ ?_ iZ.nil
    refine Cb (am 5 Z Z Z) (Cf ?_)
    refine ⟨rfl,?_⟩
    refine ak (rem' := [18,19]) (i:=5) Y Z Z ?_ iZ.nil
    refine Cc Z (Cf ?_)
    refine ⟨rfl,?_⟩
    refine ak (rem' := [19]) (i:=18) Y Z Z ?_ iZ.nil
    refine Cb (ar Z Z X) (Cf ?_)
    refine ⟨rfl,?_⟩
    refine ak (rem' := []) (i:=19) Y Z Z ?_ iZ.nil
    (refine au 0 Z Z Z ?_ Z ?_;omega)
    refine Cf ?_
    refine ⟨rfl,?_⟩
    refine aE BZ (SubM.refl _) iZ.nil
    refine Cc Z (Cf ?_)
    refine ⟨rfl,?_⟩
    refine ak (rem' := [18,19]) (i:=4) Y Z Z ?_ iZ.nil
    refine Cb (am 5 Z Z Z) (Cf ?_)
    refine ⟨rfl,?_⟩
    refine ak (rem' := [19]) (i:=18) Y Z Z ?_ iZ.nil
    refine Cb (ar Z Z X) (Cf ?_)
    refine ⟨rfl,?_⟩
    refine ak (rem' := []) (i:=19) Y Z Z ?_ iZ.nil
    (refine au 0 Z Z Z ?_ Z ?_;omega)
    refine Cf ?_
    refine ⟨rfl,?_⟩
    refine aE BZ (SubM.refl _) iZ.nil
    refine Cc Z (Cf ?_)
    refine ⟨rfl,?_⟩
    refine bm (rem' := [4,17,18,19]) (rem'' := [3,4,18,19]) (i:=3) (j:=17) Y Z Z Z Z ?_ ?_ iZ.nil
    refine Cb (aj Z) (Cf ?_)
    refine ⟨rfl,?_⟩
    refine bm (rem' := [17,18,19]) (rem'' := [4,18,19]) (i:=4) (j:=17) Y Z Z Z Z ?_ ?_ iZ.nil
    refine Cb (am 5 Z Z Z) (Cf ?_)
    refine ⟨rfl,?_⟩
    refine ak (rem' := [18,19]) (i:=17) Y Z Z ?_ iZ.nil
    (refine au 0 Z Z Z ?_ Z ?_;omega)
    refine Cf ?_
    refine ⟨rfl,?_⟩
    refine ak (rem' := [19]) (i:=18) Y Z Z ?_ iZ.nil
    refine Cb (ar Z Z X) (Cf ?_)
    refine ⟨rfl,?_⟩
    refine ak (rem' := []) (i:=19) Y Z Z ?_ iZ.nil
    (refine au 0 Z Z Z ?_ Z ?_;omega)
    refine Cf ?_
    refine ⟨rfl,?_⟩
    refine aE BZ (SubM.refl _) iZ.nil
    (refine au 0 Z Z Z ?_ Z ?_;omega)
    refine Cf ?_
    refine ⟨rfl,?_⟩
    refine ak (rem' := [18,19]) (i:=4) Y Z Z ?_ iZ.nil
    refine Cb (am 5 Z Z Z) (Cf ?_)
    refine ⟨rfl,?_⟩
    refine ak (rem' := [19]) (i:=18) Y Z Z ?_ iZ.nil
    refine Cb (ar Z Z X) (Cf ?_)
    refine ⟨rfl,?_⟩
    refine ak (rem' := []) (i:=19) Y Z Z ?_ iZ.nil
    (refine au 0 Z Z Z ?_ Z ?_;omega)
    refine Cf ?_
    refine ⟨rfl,?_⟩
    refine aE BZ (SubM.refl _) iZ.nil
    (refine au 0 Z Z Z ?_ Z ?_;omega)
    refine Cf ?_
    refine ⟨rfl,?_⟩
    refine ak (rem' := [4,18,19]) (i:=3) Y Z Z ?_ iZ.nil
    refine Cb (aj Z) (Cf ?_)
    refine ⟨rfl,?_⟩
    refine ak (rem' := [18,19]) (i:=4) Y Z Z ?_ iZ.nil
    refine Cb (am 5 Z Z Z) (Cf ?_)
    refine ⟨rfl,?_⟩
    refine ak (rem' := [19]) (i:=18) Y Z Z ?_ iZ.nil
    refine Cb (ar Z Z X) (Cf ?_)
    refine ⟨rfl,?_⟩
    refine ak (rem' := []) (i:=19) Y Z Z ?_ iZ.nil
    (refine au 0 Z Z Z ?_ Z ?_;omega)
    refine Cf ?_
    refine ⟨rfl,?_⟩
    refine aE BZ (SubM.refl _) iZ.nil
    (refine au 0 Z Z Z ?_ Z ?_;omega)
    refine Cf ?_
    refine ⟨rfl,?_⟩
    refine bm (rem' := [4,5,18,19]) (rem'' := [3,4,18,19]) (i:=3) (j:=5) Y Z Z Z Z ?_ ?_ iZ.nil
    refine Cb (aj Z) (Cf ?_)
    refine ⟨rfl,?_⟩
    refine bm (rem' := [5,18,19]) (rem'' := [4,18,19]) (i:=4) (j:=5) Y Z Z Z Z ?_ ?_ iZ.nil
    refine Cb (am 5 Z Z Z) (Cf ?_)
    refine ⟨rfl,?_⟩
    refine ak (rem' := [18,19]) (i:=5) Y Z Z ?_ iZ.nil
    refine Cc Z (Cf ?_)
    refine ⟨rfl,?_⟩
    refine ak (rem' := [19]) (i:=18) Y Z Z ?_ iZ.nil
    refine Cb (ar Z Z X) (Cf ?_)
    refine ⟨rfl,?_⟩
    refine ak (rem' := []) (i:=19) Y Z Z ?_ iZ.nil
    (refine au 0 Z Z Z ?_ Z ?_;omega)
    refine Cf ?_
    refine ⟨rfl,?_⟩
    refine aE BZ (SubM.refl _) iZ.nil
    refine Cc Z (Cf ?_)
    refine ⟨rfl,?_⟩
    refine ak (rem' := [18,19]) (i:=4) Y Z Z ?_ iZ.nil
    refine Cb (am 5 Z Z Z) (Cf ?_)
    refine ⟨rfl,?_⟩
    refine ak (rem' := [19]) (i:=18) Y Z Z ?_ iZ.nil
    refine Cb (ar Z Z X) (Cf ?_)
    refine ⟨rfl,?_⟩
    refine ak (rem' := []) (i:=19) Y Z Z ?_ iZ.nil
    (refine au 0 Z Z Z ?_ Z ?_;omega)
    refine Cf ?_
    refine ⟨rfl,?_⟩
    refine aE BZ (SubM.refl _) iZ.nil
    refine Cc Z (Cf ?_)
    refine ⟨rfl,?_⟩
    refine ak (rem' := [4,18,19]) (i:=3) Y Z Z ?_ iZ.nil
    refine Cb (aj Z) (Cf ?_)
    refine ⟨rfl,?_⟩
    refine ak (rem' := [18,19]) (i:=4) Y Z Z ?_ iZ.nil
    refine Cb (am 5 Z Z Z) (Cf ?_)
    refine ⟨rfl,?_⟩
    refine ak (rem' := [19]) (i:=18) Y Z Z ?_ iZ.nil
    refine Cb (ar Z Z X) (Cf ?_)
    refine ⟨rfl,?_⟩
    refine ak (rem' := []) (i:=19) Y Z Z ?_ iZ.nil
    (refine au 0 Z Z Z ?_ Z ?_;omega)
    refine Cf ?_
    refine ⟨rfl,?_⟩
    refine aE BZ (SubM.refl _) iZ.nil
   ·refine bm (rem' := [4,17,18,19]) (rem'' := [3,4,18,19]) (i:=3) (j:=17) Y Z Z Z Z ?_ ?_ iZ.nil
    refine Cb (aj Z) (Cf ?_)
    refine ⟨rfl,?_⟩
    refine bm (rem' := [17,18,19]) (rem'' := [4,18,19]) (i:=4) (j:=17) Y Z Z Z Z ?_ ?_ iZ.nil
    refine Cb (am 5 Z Z Z) (Cf ?_)
    refine ⟨rfl,?_⟩
    refine ak (rem' := [18,19]) (i:=17) Y Z Z ?_ iZ.nil
    (refine au 0 Z Z Z ?_ Z ?_;omega)
    refine Cf ?_
    refine ⟨rfl,?_⟩
    refine ak (rem' := [19]) (i:=18) Y Z Z ?_ iZ.nil
    refine Cb (ar Z Z X) (Cf ?_)
    refine ⟨rfl,?_⟩
    refine ak (rem' := []) (i:=19) Y Z Z ?_ iZ.nil
    (refine au 0 Z Z Z ?_ Z ?_;omega)
    refine Cf ?_
    refine ⟨rfl,?_⟩
    refine aE BZ (SubM.refl _) iZ.nil
    (refine au 0 Z Z Z ?_ Z ?_;omega)
    refine Cf ?_
    refine ⟨rfl,?_⟩
    refine ak (rem' := [18,19]) (i:=4) Y Z Z ?_ iZ.nil
    refine Cb (am 5 Z Z Z) (Cf ?_)
    refine ⟨rfl,?_⟩
    refine ak (rem' := [19]) (i:=18) Y Z Z ?_ iZ.nil
    refine Cb (ar Z Z X) (Cf ?_)
    refine ⟨rfl,?_⟩
    refine ak (rem' := []) (i:=19) Y Z Z ?_ iZ.nil
    (refine au 0 Z Z Z ?_ Z ?_;omega)
    refine Cf ?_
    refine ⟨rfl,?_⟩
    refine aE BZ (SubM.refl _) iZ.nil
    (refine au 0 Z Z Z ?_ Z ?_;omega)
    refine Cf ?_
    refine ⟨rfl,?_⟩
    refine ak (rem' := [4,18,19]) (i:=3) Y Z Z ?_ iZ.nil
    refine Cb (aj Z) (Cf ?_)
    refine ⟨rfl,?_⟩
    refine ak (rem' := [18,19]) (i:=4) Y Z Z ?_ iZ.nil
    refine Cb (am 5 Z Z Z) (Cf ?_)
    refine ⟨rfl,?_⟩
    refine ak (rem' := [19]) (i:=18) Y Z Z ?_ iZ.nil
    refine Cb (ar Z Z X) (Cf ?_)
    refine ⟨rfl,?_⟩
    refine ak (rem' := []) (i:=19) Y Z Z ?_ iZ.nil
    (refine au 0 Z Z Z ?_ Z ?_;omega)
    refine Cf ?_
    refine ⟨rfl,?_⟩
    refine aE BZ (SubM.refl _) iZ.nil
   ·refine dw (r1 := [5,17,18,19]) (r2 := [3,17,18,19]) (r3 := [3,5,18,19]) (i:=3) (j:=5) (k:=17) Y Z Z Z Z Z Z ?_ ?_ ?_ iZ.nil
    refine Cb (aj Z) (Cf ?_)
    refine ⟨rfl,?_⟩
    refine bm (rem' := [17,18,19]) (rem'' := [5,18,19]) (i:=5) (j:=17) Y Z Z Z Z ?_ ?_ iZ.nil
    refine Cc Z (Cf ?_)
    refine ⟨rfl,?_⟩
    refine ak (rem' := [18,19]) (i:=17) Y Z Z ?_ iZ.nil
    (refine au 0 Z Z Z ?_ Z ?_;omega)
    refine Cf ?_
    refine ⟨rfl,?_⟩
    refine ak (rem' := [19]) (i:=18) Y Z Z ?_ iZ.nil
    refine Cb (ar Z Z X) (Cf ?_)
    refine ⟨rfl,?_⟩
    refine ak (rem' := []) (i:=19) Y Z Z ?_ iZ.nil
    (refine au 0 Z Z Z ?_ Z ?_;omega)
    refine Cf ?_
    refine ⟨rfl,?_⟩
    refine aE BZ (SubM.refl _) iZ.nil
    (refine au 0 Z Z Z ?_ Z ?_;omega)
    refine Cf ?_
    refine ⟨rfl,?_⟩
    refine ak (rem' := [18,19]) (i:=5) Y Z Z ?_ iZ.nil
    refine Cc Z (Cf ?_)
    refine ⟨rfl,?_⟩
    refine ak (rem' := [19]) (i:=18) Y Z Z ?_ iZ.nil
    refine Cb (ar Z Z X) (Cf ?_)
    refine ⟨rfl,?_⟩
    refine ak (rem' := []) (i:=19) Y Z Z ?_ iZ.nil
    (refine au 0 Z Z Z ?_ Z ?_;omega)
    refine Cf ?_
    refine ⟨rfl,?_⟩
    refine aE BZ (SubM.refl _) iZ.nil
    refine Cc Z (Cf ?_)
    refine ⟨rfl,?_⟩
    refine bm (rem' := [17,18,19]) (rem'' := [3,18,19]) (i:=3) (j:=17) Y Z Z Z Z ?_ ?_ iZ.nil
    refine Cb (aj Z) (Cf ?_)
    refine ⟨rfl,?_⟩
    refine ak (rem' := [18,19]) (i:=17) Y Z Z ?_ iZ.nil
    (refine au 0 Z Z Z ?_ Z ?_;omega)
    refine Cf ?_
    refine ⟨rfl,?_⟩
    refine ak (rem' := [19]) (i:=18) Y Z Z ?_ iZ.nil
    refine Cb (ar Z Z X) (Cf ?_)
    refine ⟨rfl,?_⟩
    refine ak (rem' := []) (i:=19) Y Z Z ?_ iZ.nil
    (refine au 0 Z Z Z ?_ Z ?_;omega)
    refine Cf ?_
    refine ⟨rfl,?_⟩
    refine aE BZ (SubM.refl _) iZ.nil
    (refine au 0 Z Z Z ?_ Z ?_;omega)
    refine Cf ?_
    refine ⟨rfl,?_⟩
    refine ak (rem' := [18,19]) (i:=3) Y Z Z ?_ iZ.nil
    refine Cb (aj Z) (Cf ?_)
    refine ⟨rfl,?_⟩
    refine ak (rem' := [19]) (i:=18) Y Z Z ?_ iZ.nil
    refine Cb (ar Z Z X) (Cf ?_)
    refine ⟨rfl,?_⟩
    refine ak (rem' := []) (i:=19) Y Z Z ?_ iZ.nil
    (refine au 0 Z Z Z ?_ Z ?_;omega)
    refine Cf ?_
    refine ⟨rfl,?_⟩
    refine aE BZ (SubM.refl _) iZ.nil
    (refine au 0 Z Z Z ?_ Z ?_;omega)
    refine Cf ?_
    refine ⟨rfl,?_⟩
    refine bm (rem' := [5,18,19]) (rem'' := [3,18,19]) (i:=3) (j:=5) Y Z Z Z Z ?_ ?_ iZ.nil
    refine Cb (aj Z) (Cf ?_)
    refine ⟨rfl,?_⟩
    refine ak (rem' := [18,19]) (i:=5) Y Z Z ?_ iZ.nil
    refine Cc Z (Cf ?_)
    refine ⟨rfl,?_⟩
    refine ak (rem' := [19]) (i:=18) Y Z Z ?_ iZ.nil
    refine Cb (ar Z Z X) (Cf ?_)
    refine ⟨rfl,?_⟩
    refine ak (rem' := []) (i:=19) Y Z Z ?_ iZ.nil
    (refine au 0 Z Z Z ?_ Z ?_;omega)
    refine Cf ?_
    refine ⟨rfl,?_⟩
    refine aE BZ (SubM.refl _) iZ.nil
    refine Cc Z (Cf ?_)
    refine ⟨rfl,?_⟩
    refine ak (rem' := [18,19]) (i:=3) Y Z Z ?_ iZ.nil
    refine Cb (aj Z) (Cf ?_)
    refine ⟨rfl,?_⟩
    refine ak (rem' := [19]) (i:=18) Y Z Z ?_ iZ.nil
    refine Cb (ar Z Z X) (Cf ?_)
    refine ⟨rfl,?_⟩
    refine ak (rem' := []) (i:=19) Y Z Z ?_ iZ.nil
    (refine au 0 Z Z Z ?_ Z ?_;omega)
    refine Cf ?_
    refine ⟨rfl,?_⟩
    refine aE BZ (SubM.refl _) iZ.nil
   ·refine bm (rem' := [17,18,19]) (rem'' := [3,18,19]) (i:=3) (j:=17) Y Z Z Z Z ?_ ?_ iZ.nil
    refine Cb (aj Z) (Cf ?_)
    refine ⟨rfl,?_⟩
    refine ak (rem' := [18,19]) (i:=17) Y Z Z ?_ iZ.nil
    (refine au 0 Z Z Z ?_ Z ?_;omega)
    refine Cf ?_
    refine ⟨rfl,?_⟩
    refine ak (rem' := [19]) (i:=18) Y Z Z ?_ iZ.nil
    refine Cb (ar Z Z X) (Cf ?_)
    refine ⟨rfl,?_⟩
    refine ak (rem' := []) (i:=19) Y Z Z ?_ iZ.nil
    (refine au 0 Z Z Z ?_ Z ?_;omega)
    refine Cf ?_
    refine ⟨rfl,?_⟩
    refine aE BZ (SubM.refl _) iZ.nil
    (refine au 0 Z Z Z ?_ Z ?_;omega)
    refine Cf ?_
    refine ⟨rfl,?_⟩
    refine ak (rem' := [18,19]) (i:=3) Y Z Z ?_ iZ.nil
    refine Cb (aj Z) (Cf ?_)
    refine ⟨rfl,?_⟩
    refine ak (rem' := [19]) (i:=18) Y Z Z ?_ iZ.nil
    refine Cb (ar Z Z X) (Cf ?_)
    refine ⟨rfl,?_⟩
    refine ak (rem' := []) (i:=19) Y Z Z ?_ iZ.nil
    (refine au 0 Z Z Z ?_ Z ?_;omega)
    refine Cf ?_
    refine ⟨rfl,?_⟩
    refine aE BZ (SubM.refl _) iZ.nil
   ·refine dw (r1 := [5,17,18,19]) (r2 := [4,17,18,19]) (r3 := [4,5,18,19]) (i:=4) (j:=5) (k:=17) Y Z Z Z Z Z Z ?_ ?_ ?_ iZ.nil
    refine Cb (am 5 Z Z Z) (Cf ?_)
    refine ⟨rfl,?_⟩
    refine bm (rem' := [17,18,19]) (rem'' := [5,18,19]) (i:=5) (j:=17) Y Z Z Z Z ?_ ?_ iZ.nil
    refine Cc Z (Cf ?_)
    refine ⟨rfl,?_⟩
    refine ak (rem' := [18,19]) (i:=17) Y Z Z ?_ iZ.nil
    (refine au 0 Z Z Z ?_ Z ?_;omega)
    refine Cf ?_
    refine ⟨rfl,?_⟩
    refine ak (rem' := [19]) (i:=18) Y Z Z ?_ iZ.nil
    refine Cb (ar Z Z X) (Cf ?_)
    refine ⟨rfl,?_⟩
    refine ak (rem' := []) (i:=19) Y Z Z ?_ iZ.nil
    (refine au 0 Z Z Z ?_ Z ?_;omega)
    refine Cf ?_
    refine ⟨rfl,?_⟩
    refine aE BZ (SubM.refl _) iZ.nil
    (refine au 0 Z Z Z ?_ Z ?_;omega)
    refine Cf ?_
    refine ⟨rfl,?_⟩
    refine ak (rem' := [18,19]) (i:=5) Y Z Z ?_ iZ.nil
    refine Cc Z (Cf ?_)
    refine ⟨rfl,?_⟩
    refine ak (rem' := [19]) (i:=18) Y Z Z ?_ iZ.nil
    refine Cb (ar Z Z X) (Cf ?_)
    refine ⟨rfl,?_⟩
    refine ak (rem' := []) (i:=19) Y Z Z ?_ iZ.nil
    (refine au 0 Z Z Z ?_ Z ?_;omega)
    refine Cf ?_
    refine ⟨rfl,?_⟩
    refine aE BZ (SubM.refl _) iZ.nil
    refine Cc Z (Cf ?_)
    refine ⟨rfl,?_⟩
    refine bm (rem' := [17,18,19]) (rem'' := [4,18,19]) (i:=4) (j:=17) Y Z Z Z Z ?_ ?_ iZ.nil
    refine Cb (am 5 Z Z Z) (Cf ?_)
    refine ⟨rfl,?_⟩
    refine ak (rem' := [18,19]) (i:=17) Y Z Z ?_ iZ.nil
    (refine au 0 Z Z Z ?_ Z ?_;omega)
    refine Cf ?_
    refine ⟨rfl,?_⟩
    refine ak (rem' := [19]) (i:=18) Y Z Z ?_ iZ.nil
    refine Cb (ar Z Z X) (Cf ?_)
    refine ⟨rfl,?_⟩
    refine ak (rem' := []) (i:=19) Y Z Z ?_ iZ.nil
    (refine au 0 Z Z Z ?_ Z ?_;omega)
    refine Cf ?_
    refine ⟨rfl,?_⟩
    refine aE BZ (SubM.refl _) iZ.nil
    (refine au 0 Z Z Z ?_ Z ?_;omega)
    refine Cf ?_
    refine ⟨rfl,?_⟩
    refine ak (rem' := [18,19]) (i:=4) Y Z Z ?_ iZ.nil
    refine Cb (am 5 Z Z Z) (Cf ?_)
    refine ⟨rfl,?_⟩
    refine ak (rem' := [19]) (i:=18) Y Z Z ?_ iZ.nil
    refine Cb (ar Z Z X) (Cf ?_)
    refine ⟨rfl,?_⟩
    refine ak (rem' := []) (i:=19) Y Z Z ?_ iZ.nil
    (refine au 0 Z Z Z ?_ Z ?_;omega)
    refine Cf ?_
    refine ⟨rfl,?_⟩
    refine aE BZ (SubM.refl _) iZ.nil
    (refine au 0 Z Z Z ?_ Z ?_;omega)
    refine Cf ?_
    refine ⟨rfl,?_⟩
    refine bm (rem' := [5,18,19]) (rem'' := [4,18,19]) (i:=4) (j:=5) Y Z Z Z Z ?_ ?_ iZ.nil
    refine Cb (am 5 Z Z Z) (Cf ?_)
    refine ⟨rfl,?_⟩
    refine ak (rem' := [18,19]) (i:=5) Y Z Z ?_ iZ.nil
    refine Cc Z (Cf ?_)
    refine ⟨rfl,?_⟩
    refine ak (rem' := [19]) (i:=18) Y Z Z ?_ iZ.nil
    refine Cb (ar Z Z X) (Cf ?_)
    refine ⟨rfl,?_⟩
    refine ak (rem' := []) (i:=19) Y Z Z ?_ iZ.nil
    (refine au 0 Z Z Z ?_ Z ?_;omega)
    refine Cf ?_
    refine ⟨rfl,?_⟩
    refine aE BZ (SubM.refl _) iZ.nil
    refine Cc Z (Cf ?_)
    refine ⟨rfl,?_⟩
    refine ak (rem' := [18,19]) (i:=4) Y Z Z ?_ iZ.nil
    refine Cb (am 5 Z Z Z) (Cf ?_)
    refine ⟨rfl,?_⟩
    refine ak (rem' := [19]) (i:=18) Y Z Z ?_ iZ.nil
    refine Cb (ar Z Z X) (Cf ?_)
    refine ⟨rfl,?_⟩
    refine ak (rem' := []) (i:=19) Y Z Z ?_ iZ.nil
    (refine au 0 Z Z Z ?_ Z ?_;omega)
    refine Cf ?_
    refine ⟨rfl,?_⟩
    refine aE BZ (SubM.refl _) iZ.nil
   ·refine bm (rem' := [17,18,19]) (rem'' := [4,18,19]) (i:=4) (j:=17) Y Z Z Z Z ?_ ?_ iZ.nil
    refine Cb (am 5 Z Z Z) (Cf ?_)
    refine ⟨rfl,?_⟩
    refine ak (rem' := [18,19]) (i:=17) Y Z Z ?_ iZ.nil
    (refine au 0 Z Z Z ?_ Z ?_;omega)
    refine Cf ?_
    refine ⟨rfl,?_⟩
    refine ak (rem' := [19]) (i:=18) Y Z Z ?_ iZ.nil
    refine Cb (ar Z Z X) (Cf ?_)
    refine ⟨rfl,?_⟩
    refine ak (rem' := []) (i:=19) Y Z Z ?_ iZ.nil
    (refine au 0 Z Z Z ?_ Z ?_;omega)
    refine Cf ?_
    refine ⟨rfl,?_⟩
    refine aE BZ (SubM.refl _) iZ.nil
    (refine au 0 Z Z Z ?_ Z ?_;omega)
    refine Cf ?_
    refine ⟨rfl,?_⟩
    refine ak (rem' := [18,19]) (i:=4) Y Z Z ?_ iZ.nil
    refine Cb (am 5 Z Z Z) (Cf ?_)
    refine ⟨rfl,?_⟩
    refine ak (rem' := [19]) (i:=18) Y Z Z ?_ iZ.nil
    refine Cb (ar Z Z X) (Cf ?_)
    refine ⟨rfl,?_⟩
    refine ak (rem' := []) (i:=19) Y Z Z ?_ iZ.nil
    (refine au 0 Z Z Z ?_ Z ?_;omega)
    refine Cf ?_
    refine ⟨rfl,?_⟩
    refine aE BZ (SubM.refl _) iZ.nil
   ·refine bm (rem' := [17,18,19]) (rem'' := [5,18,19]) (i:=5) (j:=17) Y Z Z Z Z ?_ ?_ iZ.nil
    refine Cc Z (Cf ?_)
    refine ⟨rfl,?_⟩
    refine ak (rem' := [18,19]) (i:=17) Y Z Z ?_ iZ.nil
    (refine au 0 Z Z Z ?_ Z ?_;omega)
    refine Cf ?_
    refine ⟨rfl,?_⟩
    refine ak (rem' := [19]) (i:=18) Y Z Z ?_ iZ.nil
    refine Cb (ar Z Z X) (Cf ?_)
    refine ⟨rfl,?_⟩
    refine ak (rem' := []) (i:=19) Y Z Z ?_ iZ.nil
    (refine au 0 Z Z Z ?_ Z ?_;omega)
    refine Cf ?_
    refine ⟨rfl,?_⟩
    refine aE BZ (SubM.refl _) iZ.nil
    (refine au 0 Z Z Z ?_ Z ?_;omega)
    refine Cf ?_
    refine ⟨rfl,?_⟩
    refine ak (rem' := [18,19]) (i:=5) Y Z Z ?_ iZ.nil
    refine Cc Z (Cf ?_)
    refine ⟨rfl,?_⟩
    refine ak (rem' := [19]) (i:=18) Y Z Z ?_ iZ.nil
    refine Cb (ar Z Z X) (Cf ?_)
    refine ⟨rfl,?_⟩
    refine ak (rem' := []) (i:=19) Y Z Z ?_ iZ.nil
    (refine au 0 Z Z Z ?_ Z ?_;omega)
    refine Cf ?_
    refine ⟨rfl,?_⟩
    refine aE BZ (SubM.refl _) iZ.nil
   ·refine ak (rem' := [18,19]) (i:=17) Y Z Z ?_ iZ.nil
    (refine au 0 Z Z Z ?_ Z ?_;omega)
    refine Cf ?_
    refine ⟨rfl,?_⟩
    refine ak (rem' := [19]) (i:=18) Y Z Z ?_ iZ.nil
    refine Cb (ar Z Z X) (Cf ?_)
    refine ⟨rfl,?_⟩
    refine ak (rem' := []) (i:=19) Y Z Z ?_ iZ.nil
    (refine au 0 Z Z Z ?_ Z ?_;omega)
    refine Cf ?_
    refine ⟨rfl,?_⟩
    refine aE BZ (SubM.refl _) iZ.nil
  ·refine oE (dO.refl _) (.keep zZ (SubM.refl _)) ?_
   refine fW [aH (some oA) 39 .one capA n (fun q=>ei n (swp i k F q))] (List.Perm.refl _) (.keep (p8.refl _) (.keep (p8.refl _) (.keep (p8.refl _) (.keep (p8.refl _) (.keep yq (EntM.refl _)))))) (uE.refl _) ?_
   refine aa (ae (ae (ai (Cd Z (Cf (aa (aw ?_)))))))
   by_cases hik:i=k
   ·subst hik
    have e2:Lin.bY n (swp i i F)=Lin.bY n F:=by rw [kR]
    rw [e2] at v2
    refine cv (Γ' := [(7,_),(8,_),(9,_),(10,_),(11,_),(12,_),(13,_),(14,_),(15,_),(16,_),(17,_)]) BW (SubM.refl _) ?_
    refine bO (σ:=Nat) (Γk := [(7,_),(8,_),(9,_),(10,_),(11,_),(12,_),(13,_),(14,_),(15,_),(16,_)]) BW (fun j => [(17,one (.int .i64 (j:Nat)))]) (fun j M0=>(M0.set 3 (dQ n bC (fa i j (fun q=>k0*F i q) F)))) (fun j=>j≤n) (fun j=>n - j) (0) (Nat.zero_le _) BX (.keep Ca (.keep Ca (.keep Ca (.keep (ez fun a b ha hb=>(lK a b).symm) (.keep Ca (.keep Ca (.keep Ca (.keep Ca (.keep Ca (.keep Ca (.keep Ca (.keep Ca (.nil))))))))))))) (fun j hj => ?_)
    refine cg (Γ' := [(17,_),(7,_),(8,_),(9,_),(10,_),(11,_),(12,_),(13,_),(14,_),(15,_),(16,_)]) (M' := [_,_,_,_,_,_,_,_,_,_,_,_]) Z Z ?_
    by_cases hj2:j<n
    ·have h1:=hmu i j
     clear hmu had
     refine ae (ae (ai (Cc Z (Cb (aj Z) (Cb (am 9 Z Z Z) (Cb (sT X (bD Z Z)) (Cf (aa (aM Z ?_)))))))))
     refine ay (aa (ae (aw (ae (bG 16 bH Y U (Cb (aj Z) (Cb (am 6 Z Z Z) (Cc Z (Cb (ar Z Z X) ?_)))))))))
     refine Cb (bM 2 Z Z X) (Cc Z (Cb (am 7 Z Z Z) (Cb (aj Z) (Cb (am 9 Z Z Z) (Cc Z (Cb (aI Z Z X) (Cb (aY Z) (Cc Z (Cb (aI Z Z X) ?_)))))))))
     refine Cb (aY Z) ?_
     refine Cb (ao (h1) Z ⟨A,A,Cg⟩) ?_
     refine Cf (Cb (ar Z Z X) ?_)
     (refine fD 3 Z Z Z (m7 ?_) ?_ Z ?_;omega;omega)
     refine Cf (aa (ae (ai (Cc Z (Cc Z (Cb (sF X (ek Z Z)) (Cf (aa (aD Z ?_)))))))))
     refine ay (aK (aa (ai (Cc Z (Cb (bU _ 1 Z Z X) (Cd Z (Cf ?_)))))))
     refine aX (j+1) X X BX (.keep Ca (.keep Ca (.keep Ca (.keep (nu) (.keep Ca (.keep Ca (.keep Ca (.keep Ca (.keep Ca (.keep Ca (.keep Ca (.keep Ca (.nil)))))))))))))
    ·have hjn:j=n:=by omega
     subst hjn
     clear hmu had
     refine iX [aH (some oC) 39 .one capC j (fun q=>one (slV (some (bC.getD q 0)) j j)),dQ j bC (fa i j (fun q=>k0*F i q) F)] (uw 12 [2,3,0,1,4,5,6,7,8,9,10,11] V Z Z) (.keep (p8.refl _) (.keep (p8.refl _) (.keep (p8.refl _) (.keep (p8.refl _) (.keep (p8.box (eQ hlC ⟨by simp,by simp,by simp⟩)) (EntM.refl _)))))) (uE.refl _) ?_
     refine iX [aH (some oB) 39 .one capB j (fun q=>one (slV (some (bB.getD q 0)) j j)),dQ j bB F] (List.Perm.refl _) (.keep (p8.refl _) (.keep (p8.box (eQ hlB ⟨by simp,by simp,by simp⟩)) (EntM.refl _))) (uE.refl _) ?_
     refine ae (ae (ai (Cc Z (Cb (aj Z) (Cb (am 5 Z Z Z) (Cb (sF X (bD Z Z)) (Cf (aa (aD Z ?_)))))))))
     refine a8 (ax (ax (aL (aa (ae (ai (Cb (bI 0 Z Z) ?_)))))))
     refine Cb (ao (v2) Z ⟨A,Cg⟩) ?_
     refine Cc Z (Cb (aA Z Z) (Cb (aA Z Z) ?_))
     refine aN (T:=28) Z (ltN Z) (fun b18 => ?_)
     refine az 0 Z Z Z Z Z (leN Z) Z (Cd Z (Cf (aa (ae (ai (Cb (bI 2 Z Z) ?_))))))
     refine Cb (ao (v1) Z ⟨A,Cg⟩) ?_
     refine Cc Z (Cb (aA Z Z) (Cb (aA Z Z) ?_))
     refine aN (T:=28) Z (ltN Z) (fun b20 => ?_)
     refine az 0 Z Z Z Z Z (leN Z) Z (Cd Z (Cf (aa (ae (ai (Cb (bI 4 Z Z) ?_))))))
     refine Cb (ao (v4) Z ⟨A,Cg⟩) ?_
     refine Cc Z (Cb (aA Z Z) (Cb (aA Z Z) ?_))
     refine aN (T:=28) Z (ltN Z) (fun b22 => ?_)
     refine az 0 Z Z Z Z Z (leN Z) Z (Cd Z (Cf (aa (ae (ae (ai (Cc Z (Cc Z (Cb (sF X (ek Z Z)) ?_)))))))))
     refine Cf (aa (aD Z (ay (aa (ae (bG 30 bH Y U (Cc Z (Cc Z (Ce (ab Z) ?_)))))))))
     refine Cb (bh Z Z) (Cc Z (Ce (ab Z) (Cb (bh Z Z) (Cc Z (Ce (ab Z) (Cb (bh Z Z) (Cc Z (Ce (am 2 Z Z Z) (Ce (am 7 Z Z Z) ?_)))))))))
     refine Ce (ao (hsa) Z ⟨A,A,Cg⟩) ?_
     refine Cb (bh Z Z) (Cc Z (Ce (am 1 Z Z Z) (Ce (am 7 Z Z Z) ?_)))
     refine Ce (ao (hsa) Z ⟨A,A,Cg⟩) ?_
     refine Cb (bh Z Z) (Cc Z (Ce (am 0 Z Z Z) (Ce (am 6 Z Z Z) (Ce (am 7 Z Z Z) ?_))))
     refine Ce (ao (hmd) Z ⟨A,A,Cg⟩) ?_
     refine Ce (ao (hsb) Z ⟨A,A,Cg⟩) ?_
     refine Cb (bh Z Z) (Cc Z (Ce (ab Z) (Cb (bh Z Z) (Cf (Cd Z (Cf (aa (aG ?_))))))))
     refine aV Tryz.results6 (.tmp Z A)
   ·rw [pF hik hi hj] at v2
    rw [yo hik hi hj] at v3
    refine cv (Γ' := [(7,_),(8,_),(9,_),(10,_),(11,_),(12,_),(13,_),(14,_),(15,_),(16,_),(17,_)]) BW (SubM.refl _) ?_
    refine bO (σ:=Nat) (Γk := [(7,_),(8,_),(9,_),(10,_),(11,_),(12,_),(13,_),(14,_),(15,_),(16,_)]) BW (fun j => [(17,one (.int .i64 (j:Nat)))]) (fun j M0=>((M0.set 1 (dQ n bB (fa i j (fun q=>F i q+k0*F k q) F))).set 3 (dQ n bC (fa i j (fun q=>k0*F i q) F)))) (fun j=>j≤n) (fun j=>n - j) (0) (Nat.zero_le _) BX (.keep Ca (.keep (ez fun a b ha hb=>(lK a b).symm) (.keep Ca (.keep (ez fun a b ha hb=>(lK a b).symm) (.keep Ca (.keep Ca (.keep Ca (.keep Ca (.keep Ca (.keep Ca (.keep Ca (.keep Ca (.nil))))))))))))) (fun j hj => ?_)
    refine cg (Γ' := [(17,_),(7,_),(8,_),(9,_),(10,_),(11,_),(12,_),(13,_),(14,_),(15,_),(16,_)]) (M' := [_,_,_,_,_,_,_,_,_,_,_,_]) Z Z ?_
    by_cases hj2:j<n
    ·have h1:=hmu i j
     have h2:=hmu k j
     have h3:=had i j k j
     clear hmu had
     refine ae (ae (ai (Cc Z (Cb (aj Z) (Cb (am 9 Z Z Z) (Cb (sT X (bD Z Z)) (Cf (aa (aM Z ?_)))))))))
     refine ay (aa (ae (aw (ae (bG 16 bH Y U (Cb (aj Z) (Cb (am 6 Z Z Z) (Cc Z (Cb (ar Z Z X) ?_)))))))))
     refine Cb (bM 2 Z Z X) (Cc Z (Cb (am 7 Z Z Z) (Cb (aj Z) (Cb (am 9 Z Z Z) (Cc Z (Cb (aI Z Z X) (Cb (aY Z) (Cc Z (Cb (aI Z Z X) ?_)))))))))
     refine Cb (aY Z) ?_
     refine Cb (ao (h1) Z ⟨A,A,Cg⟩) ?_
     refine Cf (Cb (ar Z Z X) ?_)
     (refine fD 3 Z Z Z (m7 ?_) ?_ Z ?_;omega;omega)
     refine Cf (aa (ae (ai (Cc Z (Cc Z (Cb (sT X (ek Z Z)) (Cf (aa (aM Z ?_)))))))))
     refine bG 25 bH Y U (Cb (aj Z) (Cb (am 5 Z Z Z) (Cc Z (Cb (ar Z Z X) (Cb (bM 0 Z Z X) (Cc Z (Cb (aj Z) (Cb (am 9 Z Z Z) (Cc Z ?_)))))))))
     refine Cb (aI Z Z X) (Cb (aY Z) (Cc Z (Cb (aI Z Z X) (Cb (aY Z) (Cb (am 7 Z Z Z) (Cb (aj Z) (Cb (am 9 Z Z Z) (Cc Z (Cb (aI Z Z X) ?_)))))))))
     refine Cb (aY Z) (Cc Z (Cb (aI Z Z X) (Cb (aY Z) ?_)))
     refine Cb (ao (h2) Z ⟨A,A,Cg⟩) ?_
     refine Cb (ao (h3) Z ⟨A,A,Cg⟩) ?_
     refine Cf (Cb (ar Z Z X) ?_)
     (refine fD 1 Z Z Z (m7 ?_) ?_ Z ?_;omega;omega)
     refine Cf (aK (aa (ai (Cc Z (Cb (bU _ 1 Z Z X) (Cd Z (Cf ?_)))))))
     refine aX (j+1) X X BX (.keep Ca (.keep (nu) (.keep Ca (.keep (nu) (.keep Ca (.keep Ca (.keep Ca (.keep Ca (.keep Ca (.keep Ca (.keep Ca (.keep Ca (.nil)))))))))))))
    ·have hjn:j=n:=by omega
     subst hjn
     clear hmu had
     refine iX [aH (some oC) 39 .one capC j (fun q=>one (slV (some (bC.getD q 0)) j j)),dQ j bC (fa i j (fun q=>k0*F i q) F)] (uw 12 [2,3,0,1,4,5,6,7,8,9,10,11] V Z Z) (.keep (p8.refl _) (.keep (p8.refl _) (.keep (p8.refl _) (.keep (p8.refl _) (.keep (p8.box (eQ hlC ⟨by simp,by simp,by simp⟩)) (EntM.refl _)))))) (uE.refl _) ?_
     refine iX [aH (some oB) 39 .one capB j (fun q=>one (slV (some (bB.getD q 0)) j j)),dQ j bB (fa i j (fun q=>F i q+k0*F k q) F)] (List.Perm.refl _) (.keep (p8.refl _) (.keep (p8.box (eQ hlB ⟨by simp,by simp,by simp⟩)) (EntM.refl _))) (uE.refl _) ?_
     refine ae (ae (ai (Cc Z (Cb (aj Z) (Cb (am 5 Z Z Z) (Cb (sF X (bD Z Z)) (Cf (aa (aD Z ?_)))))))))
     refine a8 (ax (ax (aL (aa (ae (ai (Cb (bI 0 Z Z) ?_)))))))
     refine Cb (ao (v2) Z ⟨A,Cg⟩) ?_
     refine Cc Z (Cb (aA Z Z) (Cb (aA Z Z) ?_))
     refine aN (T:=28) Z (ltN Z) (fun b18 => ?_)
     refine az 0 Z Z Z Z Z (leN Z) Z (Cd Z (Cf (aa (ae (ai (Cb (bI 2 Z Z) ?_))))))
     refine Cb (ao (v3) Z ⟨A,Cg⟩) ?_
     refine Cc Z (Cb (aA Z Z) (Cb (aA Z Z) ?_))
     refine aN (T:=28) Z (ltN Z) (fun b20 => ?_)
     refine az 0 Z Z Z Z Z (leN Z) Z (Cd Z (Cf (aa (ae (ai (Cb (bI 4 Z Z) ?_))))))
     refine Cb (ao (v4) Z ⟨A,Cg⟩) ?_
     refine Cc Z (Cb (aA Z Z) (Cb (aA Z Z) ?_))
     refine aN (T:=28) Z (ltN Z) (fun b22 => ?_)
     refine az 0 Z Z Z Z Z (leN Z) Z (Cd Z (Cf (aa (ae (ae (ai (Cc Z (Cc Z (Cb (sT X (ek Z Z)) ?_)))))))))
     refine Cf (aa (aM Z (ai (Cb (am 2 Z Z Z) ?_))))
     refine Cb (ao (hng) Z ⟨A,Cg⟩) ?_
     refine az 2 Z Z Z Z Z (leN Z) Z (Cf (aa (ae (bG 30 bH Y U (Cc Z (Cc Z (Ce (ab Z) (Cb (bh Z Z) (Cc Z ?_)))))))))
     refine Ce (ab Z) (Cb (bh Z Z) (Cc Z (Ce (ab Z) (Cb (bh Z Z) (Cc Z (Ce (am 2 Z Z Z) (Ce (am 7 Z Z Z) ?_)))))))
     refine Ce (ao (hsa) Z ⟨A,A,Cg⟩) ?_
     refine Cb (bh Z Z) (Cc Z (Ce (am 1 Z Z Z) (Ce (am 7 Z Z Z) ?_)))
     refine Ce (ao (hsa) Z ⟨A,A,Cg⟩) ?_
     refine Cb (bh Z Z) (Cc Z (Ce (am 0 Z Z Z) (Ce (am 6 Z Z Z) (Ce (am 7 Z Z Z) ?_))))
     refine Ce (ao (hmd) Z ⟨A,A,Cg⟩) ?_
     refine Ce (ao (hsb) Z ⟨A,A,Cg⟩) ?_
     refine Cb (bh Z Z) (Cc Z (Ce (ab Z) (Cb (bh Z Z) (Cf (Cd Z (Cf (aa (aG ?_))))))))
     refine aV Tryz.results6 (.tmp Z A)
 ·have hn0:n=0:=by omega
  subst hn0
  have ho:=fN 1 U U
  have h1:=iE 1
  rw [show Lin.bY 0 F=1 from rfl] at *
  unfold gU cr w2D at *
  refine oy.enter Tryz.func6 Z Tryz.ntmps6 Z (fun w O => ?_)
  refine ae (ai ?_)
  refine bJ Z Z (ltN Z) (fun b3 => ?_)
  refine bJ Z Z (ltN Z) (fun b4 => ?_)
  refine Cd Z (Cf (aa (ae (ai (Cb (ao (hsan) Z trivial) (Cd Z (Cf (aa (ae ?_)))))))))
  refine ai (Cb (bI 1 Z Z) ?_)
  refine Cb (ao (hsq) Z ⟨A,Cg⟩) ?_
  refine bZ (T:=35) Z Z Z (fun b8 => ?_)
  refine bX 0 Z Z Z Z (Cf (aa (ae (ai (Cb (bI 0 Z Z) ?_)))))
  refine Cb (ao (v1) Z ⟨A,Cg⟩) ?_
  refine Cc Z (Cb (aA Z Z) (Cb (aA Z Z) ?_))
  refine aN (T:=28) Z (ltN Z) (fun b9 => ?_)
  refine az 0 Z Z Z Z Z (leN Z) Z (Cd Z (Cf (aa (ae (ae (ai (Cb (aj Z) (Cb (am 1 Z Z Z) (Cb (sT X (cQ Z Z)) ?_)))))))))
  refine Cf (aa (aM Z (ae (bG 9 bH Y U (Cc Z (Cc Z (Ce (am 0 Z Z Z) ?_)))))))
  refine Ce (ao (ho) Z ⟨A,Cg⟩) ?_
  refine Ce (ao (hsa) Z ⟨A,A,Cg⟩) ?_
  refine Cb (bh Z Z) (Cc Z (Ce (ab Z) (Cb (bh Z Z) (Cf (Cd Z (Cf (aa (aG (aJ ?_)))))))))
  refine aV Tryz.results6 (.tmp Z A)
theorem rJ {p0:Prop} (r c:Nat) (l:List Int) (w0 w1:Nat) (k0:Int) (y0:p0) (y1:(w0:Int)≤IntKind.max .u8∧(w1:Int)≤IntKind.max .u8∧True) (y2:(IntKind.min .i8≤k0∧k0≤IntKind.max .i8)∧True):oy Tryz.prog 6 [gU r c l,w2D w0 w1,one (.int .i8 k0)] (one (.bool true)):=by
 obtain ⟨a1,a2,_⟩:=y1
 obtain ⟨⟨b1,b2⟩,_⟩:=y2
 simp [IntKind.max,IntKind.min,IntKind.signed,IntKind.bits] at a1 a2 b1 b2
 exact tg r c l w0 w1 k0 X X X
end Tor
end
section
set_option maxRecDepth 100000
namespace Tor
open Go Go.RowKit Go.ChangeShapes Go.WideShapes Go.ChangeAt Go.Joins Go.Proofs
theorem yr {H:Type} {enc:TypeId × Value→H} {W:World} {base:Nat} {v:Value} {d:DataW H} {ps:List MemPlace} (hval:Value.okWide Tryz.prog W .any base 24 v) (hT:DataW.Trod enc Tryz.prog W 0 (fun _=>true) true 24 v d ps) (hw : ∀ x∈DataW.weights Tryz.prog 24 d,x≤reachBytes) :
  ∃ (r:Nat) (c:Nat) (l:List Int),(gU r c l).p v (view W)∧(r:Int)≤IntKind.max .u8∧(c:Int)≤IntKind.max .u8∧(∀ x∈l,IntKind.min .i8≤x∧x≤IntKind.max .i8)∧True:=by
 obtain ⟨cs,rfl,h⟩:=tE 8 (ts := [5,5,22]) Y (.inl ⟨_,Tryz.underlying24⟩) hval hT hw
 obtain ⟨c0,r0,rfl,h0,g0⟩:=h
 obtain ⟨c1,r1,rfl,h1,g1⟩:=g0
 obtain ⟨c2,r2,rfl,h2,g2⟩:=g1
 cases g2
 obtain ⟨r,rfl,b0⟩:=iY Tryz.underlying5 Z h0
 obtain ⟨c,rfl,b1⟩:=iY Tryz.underlying5 Z h1
 obtain ⟨l,k2,b2⟩:=uL Tryz.underlying22 Tryz.underlying65 Y (of_decide_eq_true Y) h2
 exact ⟨r,c,l,Ab (φs := [one (.int .u8 r),one (.int .u8 c),jE .i8 l]) ⟨rfl,rfl,⟨rfl,rfl,⟨k2,yF k2,Cg⟩⟩⟩,b0,b1,b2,Cg⟩
theorem BG {H:Type} {enc:TypeId × Value→H} {W:World} {base:Nat} {v:Value} {d:DataW H} {ps:List MemPlace} (hval:Value.okWide Tryz.prog W .any base 5 v) (hT:DataW.Trod enc Tryz.prog W 0 (fun _=>true) true 5 v d ps) (hw : ∀ x∈DataW.weights Tryz.prog 5 d,x≤reachBytes) :
  ∃ (k:Nat),(one (.int .u8 k)).p v (view W)∧(k:Int)≤IntKind.max .u8∧True:=by
 have h:=qi (.inl ⟨_,Tryz.underlying5⟩) hval hT hw
 obtain ⟨k,rfl,b0⟩:=iY Tryz.underlying5 Z h
 exact ⟨k,rfl,b0,Cg⟩
theorem Bq {H:Type} {enc:TypeId × Value→H} {W:World} {base:Nat} {v:Value} {d:DataW H} {ps:List MemPlace} (hval:Value.okWide Tryz.prog W .any base 65 v) (hT:DataW.Trod enc Tryz.prog W 0 (fun _=>true) true 65 v d ps) (hw : ∀ x∈DataW.weights Tryz.prog 65 d,x≤reachBytes) :
  ∃ (k:Int),(one (.int .i8 k)).p v (view W)∧(IntKind.min .i8≤k∧k≤IntKind.max .i8)∧True:=by
 have h:=qi (.inl ⟨_,Tryz.underlying65⟩) hval hT hw
 obtain ⟨k,rfl,b0⟩:=mF Tryz.underlying65 h
 exact ⟨k,rfl,b0,Cg⟩
theorem BH {H:Type} {enc:TypeId × Value→H} {W:World} {base:Nat} {v:Value} {d:DataW H} {ps:List MemPlace} (hval:Value.okWide Tryz.prog W .any base 64 v) (hT:DataW.Trod enc Tryz.prog W 0 (fun _=>true) true 64 v d ps) (hw : ∀ x∈DataW.weights Tryz.prog 64 d,x≤reachBytes) :
  ∃ (a:Nat) (b:Nat),(w2D a b).p v (view W)∧(a:Int)≤IntKind.max .u8∧(b:Int)≤IntKind.max .u8∧True:=by
 obtain ⟨cs,rfl,h⟩:=tE 8 (ts := [5,5]) Y (.inr ⟨_,_,Tryz.underlying64⟩) hval hT hw
 obtain ⟨c0,r0,rfl,h0,g0⟩:=h
 obtain ⟨c1,r1,rfl,h1,g1⟩:=g0
 cases g1
 obtain ⟨a,rfl,b0⟩:=iY Tryz.underlying5 Z h0
 obtain ⟨b,rfl,b1⟩:=iY Tryz.underlying5 Z h1
 exact ⟨a,b,Ab (φs := [one (.int .u8 a),one (.int .u8 b)]) ⟨rfl,rfl,⟨rfl,rfl,Cg⟩⟩,b0,b1,Cg⟩
end Tor
namespace Go.Proofs.YtfaglimgjfhdfaaGreat
open Go.ChangeShapes Go.WideShapes Go.ChangeAt Go.RowKit Go.Joins Tor
end Go.Proofs.YtfaglimgjfhdfaaGreat
namespace Tor
end Tor
namespace Go.Proofs.YtfaglimgjfhdfaaGreat
open Go.ChangeShapes Go.WideShapes Go.ChangeAt Go.RowKit Go.Joins Tor
end Go.Proofs.YtfaglimgjfhdfaaGreat
namespace Tor
end Tor
namespace Go.Proofs.YtfaglimgjfhdfaaGreat
open Go.ChangeShapes Go.WideShapes Go.ChangeAt Go.RowKit Go.Joins Tor
end Go.Proofs.YtfaglimgjfhdfaaGreat
namespace Tor
end Tor
namespace Go.Proofs.YtfaglimgjfhdfaaGreat
open Go.ChangeShapes Go.WideShapes Go.ChangeAt Go.RowKit Go.Joins Tor
theorem detLarge_own:ownKnob Tryz.prog.godebug=none:=by kernel_rfl
theorem detLarge_laid:laidOutB Tryz.prog=true:=by kernel_rfl
set_option maxRecDepth 100000 in
theorem detLarge_lifted (os:Os) (started:os.Started) (H:Type) (enc:TypeId × Value→H) :
  ReturnsInLeavingWide {} Tryz.checked os 3 .any (Rows.detLargeSpec.pre6 enc Tryz.prog Tryz.f3 Rows.detLargeRow.domain false) (Rows.detLargeSpec.post enc Tryz.prog Tryz.f3 false true false false):=by
 refine returnsInLeavingWide_of_change_sized (C:=Tryz.checked) detLarge_own started Tryz.func3
  (ChangeSpec.witness6 (enc:=enc) (C:=Tryz.checked) false ⟨#[], #[.agg #[.int .u8 0, .int .u8 0, .slice none 0 0], .int .u8 0], []⟩ 8 Y Y Y Y) ?_
 intro W base args ds gs before hval0 hW hcnd hsz0 _
 have hval : ∀ (j:Nat) t v,Tryz.f3.params[j]? = some t→args[j]? = some v→Value.okWide Tryz.prog W .any base t v:=hval0
 have hsz:(DataW.weightsEach Tryz.prog (Tryz.f3.params.toList ++ Rows.detLargeSpec.plain.varTypes Tryz.prog) (ds ++ gs)).all (· ≤ reachBytes)=true:=hsz0
 have hW':=hW
 obtain ⟨p,q,hA0,hV,rfl,hfz,hnd⟩:=hW
 have hA:DataW.TrodAll enc Tryz.prog W 0 (fun _=>true) true Tryz.f3.params.toList args.toList ds p:=hA0
 rw [Tryz.params3] at hA hval hsz
 obtain ⟨v0,v1,d0,d1,p0,p1,rfl,rfl,rfl,h0,h1⟩:=trodAll_two hA
 obtain ⟨rfl,rfl⟩:=trodVars_none hV
 obtain ⟨r_0,c_0,l_0,x0,y0⟩:=yr (hval 0 24 _ Z Z) h0 (fF hsz 0 Z Z)
 obtain ⟨k_1,x1,y1⟩:=BG (hval 1 5 _ Z Z) h1 (fF hsz 1 Z Z)
 obtain ⟨M,last,o,w'',t'',r1,r2,r3,r4⟩:=rC Co.detT_ok (args := #[v0,v1]) Y (pP r_0 c_0 l_0 k_1 y0 y1) (And.intro x0 (And.intro x1 (trivial)))
 refine ⟨M,last,o,w'',t'',r1,r2,r3,r4.mono fun v hv => ?_⟩
 obtain ⟨hv,hw⟩:=hv
 subst hv
 refine ⟨_, [],_, [],_, [],hW',trodAll_mk1 (shut_bool Tryz.underlying4 true),trodAll_mk2
  (Below.trod detLarge_laid Y (of_decide_eq_true Y) h0 hw (fun x hx=>by simpa using hW'.lt x (by simp only [List.mem_append] at hx ⊢; simp [hx])))
  (Below.trod detLarge_laid Y (of_decide_eq_true Y) h1 hw (fun x hx=>by simpa using hW'.lt x (by simp only [List.mem_append] at hx ⊢; simp [hx]))),rfl,hw.frame _,fun h=>by cases h⟩
theorem detLarge_holds:Rows.DetLargeSaid :=
 OpenClaim.holds_of_wide_leaving 3 Tryz.f3 Z Z Z Z Z Z Z ⟨rfl,rfl,rfl,rfl,rfl⟩ Z Z Z Z Z Y Tryz.func3 Y
  (of_decide_eq_true Y) (by unfold Func.isWrapper;first | (rw [if_pos V]; kernel_rfl) | (rw [if_neg V]; exact ⟨rfl,rfl⟩))
  (fun os started H enc _=>detLarge_lifted os started H enc)
end Go.Proofs.YtfaglimgjfhdfaaGreat
namespace Tor
end Tor
namespace Go.Proofs.YtfaglimgjfhdfaaGreat
open Go.ChangeShapes Go.WideShapes Go.ChangeAt Go.RowKit Go.Joins Tor
theorem detRows_own:ownKnob Tryz.prog.godebug=none:=by kernel_rfl
theorem detRows_laid:laidOutB Tryz.prog=true:=by kernel_rfl
set_option maxRecDepth 100000 in
theorem detRows_lifted (os:Os) (started:os.Started) (H:Type) (enc:TypeId × Value→H) :
  ReturnsInLeavingWide {} Tryz.checked os 6 .any (Rows.detRowsSpec.pre6 enc Tryz.prog Tryz.f6 Rows.detRowsRow.domain false) (Rows.detRowsSpec.post enc Tryz.prog Tryz.f6 false true false false):=by
 refine returnsInLeavingWide_of_change_sized (C:=Tryz.checked) detRows_own started Tryz.func6
  (ChangeSpec.witness6 (enc:=enc) (C:=Tryz.checked) false ⟨#[], #[.agg #[.int .u8 0, .int .u8 0, .slice none 0 0], .agg #[.int .u8 0, .int .u8 0], .int .i8 0], []⟩ 8 Y Y Y Y) ?_
 intro W base args ds gs before hval0 hW hcnd hsz0 _
 have hval : ∀ (j:Nat) t v,Tryz.f6.params[j]? = some t→args[j]? = some v→Value.okWide Tryz.prog W .any base t v:=hval0
 have hsz:(DataW.weightsEach Tryz.prog (Tryz.f6.params.toList ++ Rows.detRowsSpec.plain.varTypes Tryz.prog) (ds ++ gs)).all (· ≤ reachBytes)=true:=hsz0
 have hW':=hW
 obtain ⟨p,q,hA0,hV,rfl,hfz,hnd⟩:=hW
 have hA:DataW.TrodAll enc Tryz.prog W 0 (fun _=>true) true Tryz.f6.params.toList args.toList ds p:=hA0
 rw [Tryz.params6] at hA hval hsz
 obtain ⟨v0,v1,v2,d0,d1,d2,p0,p1,p2,rfl,rfl,rfl,h0,h1,h2⟩:=trodAll_three hA
 obtain ⟨rfl,rfl⟩:=trodVars_none hV
 obtain ⟨r_0,c_0,l_0,x0,y0⟩:=yr (hval 0 24 _ Z Z) h0 (fF hsz 0 Z Z)
 obtain ⟨a_1,b_1,x1,y1⟩:=BH (hval 1 64 _ Z Z) h1 (fF hsz 1 Z Z)
 obtain ⟨k_2,x2,y2⟩:=Bq (hval 2 65 _ Z Z) h2 (fF hsz 2 Z Z)
 obtain ⟨M,last,o,w'',t'',r1,r2,r3,r4⟩:=rC Co.detT_ok (args := #[v0,v1,v2]) Y (rJ r_0 c_0 l_0 a_1 b_1 k_2 y0 y1 y2) (And.intro x0 (And.intro x1 (And.intro x2 (trivial))))
 refine ⟨M,last,o,w'',t'',r1,r2,r3,r4.mono fun v hv => ?_⟩
 obtain ⟨hv,hw⟩:=hv
 subst hv
 refine ⟨_, [],_, [],_, [],hW',trodAll_mk1 (shut_bool Tryz.underlying4 true),trodAll_mk3
  (Below.trod detRows_laid Y (of_decide_eq_true Y) h0 hw (fun x hx=>by simpa using hW'.lt x (by simp only [List.mem_append] at hx ⊢; simp [hx])))
  (Below.trod detRows_laid Y (of_decide_eq_true Y) h1 hw (fun x hx=>by simpa using hW'.lt x (by simp only [List.mem_append] at hx ⊢; simp [hx])))
  (Below.trod detRows_laid Y (of_decide_eq_true Y) h2 hw (fun x hx=>by simpa using hW'.lt x (by simp only [List.mem_append] at hx ⊢; simp [hx]))),rfl,hw.frame _,fun h=>by cases h⟩
theorem detRows_holds:Rows.DetRowsSaid :=
 OpenClaim.holds_of_wide_leaving 6 Tryz.f6 Z Z Z Z Z Z Z ⟨rfl,rfl,rfl,rfl,rfl⟩ Z Z Z Z Z Y Tryz.func6 Y
  (of_decide_eq_true Y) (by unfold Func.isWrapper;first | (rw [if_pos V]; kernel_rfl) | (rw [if_neg V]; exact ⟨rfl,rfl⟩))
  (fun os started H enc _=>detRows_lifted os started H enc)
end Go.Proofs.YtfaglimgjfhdfaaGreat
namespace Tor
end Tor
end
