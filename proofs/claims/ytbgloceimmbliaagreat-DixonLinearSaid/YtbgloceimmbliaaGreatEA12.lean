/-
  Proofs that laws of this seat return true for every input, and that their arguments read afterwards as before.
  No condition.
-/
import Derived.Test.YtbgloceimmbliaaGreatEA11
import Derived.Test.YtbgloceimmbliaaGreatRows
set_option linter.unusedVariables false
set_option linter.unusedSimpArgs false
section
namespace Tor
open Go Go.RowKit Go.Proofs
theorem BN {n i:Nat} {F:Nat→Nat→Int} {b:Nat→Int} (hd:Lin.bY n F≠0):(ie n F b i*(Lin.bY n F:Rat)).den=1:=by
 have h0:(Lin.bY n F:Rat)≠0:=fun e=>hd (Rat.intCast_eq_zero_iff.1 e)
 have e:ie n F b i*(Lin.bY n F:Rat)=((Lin.bY n (kr F i b):Int):Rat):=by
  unfold ie;rw [mX]; grind
 rw [e,Rat.den_intCast]
theorem tA {n:Nat} {F:Nat→Nat→Int} (hn:n≤4) (hF : ∀ i j,(F i j).natAbs≤9):(Lin.bY n F).natAbs≤104976:=by
 have h:=nt n F
 have h1:prN n (fun i=>eK n (F i))≤(4*(9*9))^n:=rj (n:=n) (fun i _=>Nat.le_trans (oP (B:=9) (hF i)) (Nat.mul_le_mul_right _ hn)) n (Nat.le_refl n)
 have h2:(4*(9*9))^n≤(4*(9*9))^4:=Nat.pow_le_pow_right S hn
 have h3:=C6 (Int.le_trans h (Int.ofNat_le.2 (Nat.le_trans h1 h2)))
 rcases Nat.lt_or_ge 104976 (Lin.bY n F).natAbs with h4 | h4
 ·have:=Nat.mul_le_mul h4 h4
  have e:(4*(9*9))^4=11019960576:=by decide
  rw [e] at h3
  have:104977*104977≤(Lin.bY n F).natAbs*(Lin.bY n F).natAbs:=this
  omega
 ·exact h4
theorem tB {n:Nat} {F:Nat→Nat→Int} (hn:n≤4) (hF : ∀ i j,(F i j).natAbs≤9) (hd:Lin.bY n F≠0):oU (Lin.bY n F)∧jh (Lin.bY n F)=2147483647:=by
 have h:=tA hn hF
 have h1:Lin.bY n F % 2147483647≠0:=by omega
 exact ⟨fun h2=>absurd h2 h1,by unfold jh;rw [if_neg h1]⟩
theorem nv (n:Nat) (F:Nat→Nat→Int) (b:Nat→Int) (hn:n≤4) (hF : ∀ i j,(F i j).natAbs≤34359738368) (hb : ∀ i,(b i).natAbs≤1152921504606846976) (hd:Lin.bY n F≠0) (hg:oU (Lin.bY n F)) :
  Ok Tryz.prog 13 [bR n n F,bD n b] (bv [dD n (ie n F b),one (.int .i64 0)]):=iy n F b hn hF hb hd hg
theorem nw (n:Nat) (F:Nat→Nat→Int) (b:Nat→Int) (hn:n≤4) (hF : ∀ i j,(F i j).natAbs≤34359738368) (hd:Lin.bY n F=0) :
  Ok Tryz.prog 13 [bR n n F,bD n b] (bv [dD 0 (fun _=>0),one (.int .i64 110)]):=mW n F b hn hF hd
attribute [local irreducible] Tor.J Tor.PJ Tor.aK Tor.one Tor.slT Tor.bO Tor.bC Tor.bv Tor.exT Tor.cd Tor.eP Tor.aR Tor.aI Tor.slV Tor.VT.le Tor.Ret Tor.bJ Tor.xO
attribute [local irreducible] aL cv bD
set_option maxRecDepth 100000 in
set_option maxHeartbeats 8000000 in
theorem rv (r c:Nat) (l v:List Int):Ok Tryz.prog 4 [oB r c l,fI .i8 v] (one (.bool true)):=by
 have hsq:=oH r c l
 have hn:r % 5≤4:=by omega
 generalize hF:(fun i j=>dig l (i*(r % 5)+j))=F at *
 have hA : ∀ i j,(F i j).natAbs≤9:=fun i j=>by rw [← hF]; exact kd _ _
 have lF : ∀ i j,lz 1 (F i j):=fun i j=>by rw [← hF]; exact zA _ _
 generalize r % 5=n at *
 have hve:=kK v n Z
 have hb : ∀ j,(dig v j).natAbs≤9:=fun j=>kd v j
 generalize dig v=b at *
 have hA' : ∀ i j,(F i j).natAbs≤34359738368:=fun i j=>Nat.le_trans (hA i j) S
 have hb' : ∀ j,(b j).natAbs≤1152921504606846976:=fun j=>Nat.le_trans (hb j) S
 have hva:=xx n F hn hA'
 have hsan:=mY
 have hsz:=eD (Lin.bY n F)
 have hsg:=dA (Lin.bY n F)
 by_cases hd:Lin.bY n F=0
 ·have hso:=nw n F b hn hA' hd
  have h6:=hsz.2 hd
  unfold bR at *
  refine Ok.enter Tryz.func4 Y Tryz.ntmps4 Y (fun w O => ?_)
  refine ae (ai ?_)
  refine aS Y Y (ltN Y) (fun b2 => ?_)
  refine st (ah Y) Y (Run.nil (aa (ae (ai (st (am (hsan) Y trivial) Y (st (ah Y) Y (Run.nil (aa (ae ?_)))))))))
  refine ai (st (aO 0 Y Y) Y ?_)
  refine st (am (hsq) Y ⟨VT.le_refl _,trivial⟩) Y ?_
  refine bq (T:=30) Y Y Y (fun b6 => ?_)
  refine a4 0 Y Y Y Y (Run.nil (aa (ae ?_)))
  refine dN aZ X X ?_
  refine ux (fun B=>ab Y) Y Y ?_
  refine ux (fun B=>aj Y) Y Y ?_
  refine ux (fun B=>ak 0 Y Y Y) Y Y ?_
  refine uxk (hve) Y ⟨VT.le_refl _,VT.le_refl _,trivial⟩ Y ?_
  refine ux (fun B=>aO 0 Y Y) Y Y ?_
  refine uxk (hva) Y ⟨VT.le_refl _,trivial⟩ Y ?_
  refine ua Y ?_
  refine ux (fun B=>ah Y) Y Y ?_
  refine us Y ?_
  refine RunU.nil (fun γ => ?_)
  refine cH (M' := [_,_,_]) Y (aa (ae (ai (st (aO 1 Y Y) Y (st (ab Y) Y ?_)))))
  refine st (am (hso) Y ⟨VT.le_refl _,VT.le_refl _,trivial⟩) Y ?_
  refine st (ab Y) Y (st (aq Y Y) Y (st (aq Y Y) Y (st (ah Y) Y (st (ah Y) Y (Run.nil (aa (ae (ae (ai ?_)))))))))
  refine st (ak 0 Y Y Y) Y ?_
  refine st (am (hsg) Y ⟨VT.le_refl _,trivial⟩) Y ?_
  refine st (sT (by assumption) (ci Y Y)) Y (Run.nil (aa (aH Y (ae (ai (st (ab Y) Y (st (sT Z (ci Y Y)) Y (st (ab Y) Y (sg1 Y Y (ab Y) Y ?_)))))))))
  refine sg1 Y Y (aU Y) Y (sg1 Y Y (sT Z (ci Y Y)) Y (st (bj Y Y) Y (st (ab Y) Y (sg1 Y Y (ab Y) Y (st (bj Y Y) Y (st (ah Y) Y (Run.nil (aa (aE ?_)))))))))
  refine aW ?_
  refine aT Tryz.results4 (.tmp Y H)
 ·obtain ⟨hg,_⟩:=tB hn hA hd
  have h6:c8 (Lin.bY n F)≠0:=fun e=>hd (hsz.1 e)
  have hso:=nv n F b hn hA' hb' hd hg
  have hq:=fun j (hj:j<n)=>ru (b:=b) hn hA' hb' hd hj
  have hdq:qz 1 ((Lin.bY n F:Int):Rat):=kP S (cr (k:=1) (Nat.lt_of_le_of_lt (tA hn hA) S))
  have hsol:=fun k (hk:k<n)=>oY (b:=b) hd hk
  have hint:=fun i=>BN (n:=n) (i:=i) (F:=F) (b:=b) hd
  generalize ie n F b=DM at *
  have hvl:=f9 n n DM 12 Z S hq
  rw [decide_eq_true Y] at hvl
  have ha:=zT n n DM F 12 1 Z Z S hq lF (DH S hn)
  have hra:=jQ n b Z
  have hli:=kQ n n (fun j=>Lin.sm n (fun i=>DM i*(F i j:Rat))) (fun j=>(b j:Rat)) Z
  rw [decide_eq_true ⟨rfl,hsol⟩] at hli
  have hwh:=g8 (Lin.bY n F)
  unfold bR at *
  refine Ok.enter Tryz.func4 Y Tryz.ntmps4 Y (fun w O => ?_)
  refine ae (ai ?_)
  refine aS Y Y (ltN Y) (fun b2 => ?_)
  refine st (ah Y) Y (Run.nil (aa (ae (ai (st (am (hsan) Y trivial) Y (st (ah Y) Y (Run.nil (aa (ae ?_)))))))))
  refine ai (st (aO 0 Y Y) Y ?_)
  refine st (am (hsq) Y ⟨VT.le_refl _,trivial⟩) Y ?_
  refine bq (T:=30) Y Y Y (fun b6 => ?_)
  refine a4 0 Y Y Y Y (Run.nil (aa (ae ?_)))
  refine dN aZ X X ?_
  refine ux (fun B=>ab Y) Y Y ?_
  refine ux (fun B=>aj Y) Y Y ?_
  refine ux (fun B=>ak 0 Y Y Y) Y Y ?_
  refine uxk (hve) Y ⟨VT.le_refl _,VT.le_refl _,trivial⟩ Y ?_
  refine ux (fun B=>aO 0 Y Y) Y Y ?_
  refine uxk (hva) Y ⟨VT.le_refl _,trivial⟩ Y ?_
  refine ua Y ?_
  refine ux (fun B=>ah Y) Y Y ?_
  refine us Y ?_
  refine RunU.nil (fun γ => ?_)
  refine cH (M' := [_,_,_]) Y (aa (ae (ai (st (aO 1 Y Y) Y (st (ab Y) Y ?_)))))
  refine st (am (hso) Y ⟨VT.le_refl _,VT.le_refl _,trivial⟩) Y ?_
  refine st (ab Y) Y (st (aq Y Y) Y (st (aq Y Y) Y (st (ah Y) Y (st (ah Y) Y (Run.nil (aa (ae (ae (ai ?_)))))))))
  refine st (ak 0 Y Y Y) Y ?_
  refine st (am (hsg) Y ⟨VT.le_refl _,trivial⟩) Y ?_
  refine st (sF (by assumption) (ci Y Y)) Y (Run.nil (aa (aB Y (az (aa (ae (ae (ai (st (ab Y) Y ?_)))))))))
  refine st (sF Z (di Y Y)) Y (st (ab Y) Y (sg1 Y Y (ab Y) Y (sg1 Y Y (aj Y) Y (sg1 Y Y (ak 1 Y Y Y) Y ?_))))
  refine sg1 Y Y (am (hvl) Y ⟨VT.le_refl _,VT.le_refl _,trivial⟩) Y ?_
  refine sg1 Y Y (cK Y) Y (st (bF Y Y) Y (st (ab Y) Y (sg1 Y Y (ab Y) Y (sg1 Y Y (aO 1 Y Y) Y ?_))))
  refine sg1 Y Y (am (ha) Y ⟨VT.le_refl _,VT.le_refl _,trivial⟩) Y ?_
  refine sg1 Y Y (ab Y) Y ?_
  refine sg1 Y Y (am (hra) Y ⟨VT.le_refl _,trivial⟩) Y ?_
  refine sg1 Y Y (am (hli) Y ⟨VT.le_refl _,VT.le_refl _,trivial⟩) Y ?_
  refine sg1 Y Y (cK Y) Y (st (bF Y Y) Y (Run.nil (aa (aB Y (az (aa (ae (ae (ai ?_)))))))))
  refine st (ah Y) Y (Run.nil (aa (au (cn (Γ' := [(4,_),(5,_),(8,_),(9,_),(11,_)]) DQ (SubM.refl _) ?_))))
  refine bB (σ:=Nat) (Γk := [(5,_),(8,_),(9,_)]) DQ (fun i => [(11,one (.int .i64 (i:Nat)))]) (fun i M0=>M0) (fun i=>i≤n) (fun i=>n - i) (0) (Nat.zero_le _) DR (.keep DU (.keep DU (.keep DU (.nil)))) (fun i hi => ?_)
  refine bQ (Γ' := [(11,_),(5,_),(8,_),(9,_)]) (M' := [_,_,_]) Y Y ?_
  by_cases hi2:i<n
  ·have hmu:=iU (DM i) ((Lin.bY n F:Int):Rat) 12 1 (hq i hi2) hdq S
   have hin:=ph (DM i*((Lin.bY n F:Int):Rat)) (by rw [hint i]; exact iL)
   rw [hint i,decide_eq_true Y] at hin
   refine ae (ae (ai (st (ab Y) Y (st (ab Y) Y (st (aU Y) Y (st (sT Z (a7 Y Y)) Y (Run.nil (aa (aH Y ?_)))))))))
   refine az (aa (ae (au (ae (a6 9 aZ X S (st (ab Y) Y (st (ab Y) Y (st (aC Y Y Z) Y (st (aM Y) Y ?_)))))))))
   refine st (ak 0 Y Y Y) Y ?_
   refine st (am (hwh) Y ⟨VT.le_refl _,trivial⟩) Y ?_
   refine st (am (hmu) Y ⟨VT.le_refl _,VT.le_refl _,trivial⟩) Y ?_
   refine st (am (hin) Y ⟨VT.le_refl _,trivial⟩) Y ?_
   refine st (cK Y) Y (Run.nil (Run.nil (aa (aB Y (az (aD (aa (ai (st (ab Y) Y ?_)))))))))
   refine st (bI _ 1 Y Y Z) Y (st (ah Y) Y (Run.nil ?_))
   refine aQ (i+1) Z Z DR (.keep DU (.keep DU (.keep DU (.nil))))
  ·refine ae (ae (ai (st (ab Y) Y (st (ab Y) Y (st (aU Y) Y (st (sF Z (a7 Y Y)) Y (Run.nil (aa (aB Y ?_)))))))))
   refine aX (av (av (aF (aa (ae (ai (st (ab Y) Y (st (ah Y) Y (Run.nil ?_)))))))))
   refine aa (aE ?_)
   refine aT Tryz.results4 (.tmp Y H)
end Tor
end
section
namespace Tor
open Go Go.RowKit Go.Proofs
theorem BO {n i:Nat} {F:Nat→Nat→Int} {b c:Nat→Int} {k:Int} (hd:Lin.bY n F≠0) (hi:i<n):ie n F (fun j=>b j*k+c j) i=(k:Rat)*ie n F b i+ie n F c i :=
 (xy (x:=fun i=>(k:Rat)*ie n F b i+ie n F c i) hd (fun j hj=>by
  have h1:=oY (b:=b) hd hj
  have h2:=oY (b:=c) hd hj
  rw [Lin.bg (g:=fun i=>(k:Rat)*(ie n F b i*(F i j:Rat))+ie n F c i*(F i j:Rat)) (fun i _=>by grind),Lin.yk,Lin.lB,h1,h2,Rat.intCast_add,Rat.intCast_mul]
  grind) hi).symm
attribute [local irreducible] Tor.J Tor.PJ Tor.aK Tor.one Tor.slT Tor.bO Tor.bC Tor.bv Tor.exT Tor.cd Tor.eP Tor.aR Tor.aI Tor.slV Tor.VT.le Tor.Ret Tor.bJ Tor.xO
attribute [local irreducible] aL cv bD
set_option maxRecDepth 100000 in
set_option maxHeartbeats 8000000 in
theorem rx (r c:Nat) (l v m:List Int):Ok Tryz.prog 7 [oB r c l,fI .i8 v,fI .i8 m] (one (.bool true)):=by
 have hsq:=oH r c l
 have hn:r % 5≤4:=by omega
 generalize hF:(fun i j=>dig l (i*(r % 5)+j))=F at *
 have hA : ∀ i j,(F i j).natAbs≤9:=fun i j=>by rw [← hF]; exact kd _ _
 have lF : ∀ i j,lz 1 (F i j):=fun i j=>by rw [← hF]; exact zA _ _
 generalize r % 5=n at *
 have hve:=kK v n Z
 have hvm:=kK m n Z
 have hb : ∀ j,(dig v j).natAbs≤9:=fun j=>kd v j
 have hc : ∀ j,(dig m j).natAbs≤9:=fun j=>kd m j
 have hA' : ∀ i j,(F i j).natAbs≤34359738368:=fun i j=>Nat.le_trans (hA i j) S
 have hb' : ∀ j,(dig v j).natAbs≤1152921504606846976:=fun j=>Nat.le_trans (hb j) S
 have hc' : ∀ j,(dig m j).natAbs≤1152921504606846976:=fun j=>Nat.le_trans (hc j) S
 have hsan:=mY
 refine Ok.enter Tryz.func7 Y Tryz.ntmps7 Y (fun w O => ?_)
 refine iA (F:=m.length≤2^48) (t:=2) Y (fun _ _ h=>by unfold fI at h;exact eC h) (fun hbd => ?_)
 obtain ⟨k,hk⟩ : ∃ k:Int,k=(m.length:Int):=⟨_,rfl⟩
 have hk1:0≤k∧k≤281474976710656:=by
  have:(2:Nat)^48=281474976710656:=by decide
  omega
 have hof:=gS k Z Z
 rw [hk] at hof
 have hs : ∀ j,((fun j=>dig v j*(m.length:Int)+dig m j) j).natAbs≤1152921504606846976:=fun j=>by
  have h1:(dig v j*(m.length:Int)).natAbs≤9*281474976710656:=by
   rw [Int.natAbs_mul]; exact Nat.mul_le_mul (hb j) Z
  have:=hc j
  dsimp only
  omega
 have hro:=vu n (dig v)
 have hrm:=vu n (dig m)
 have hsc:=wI 1 n (fun _=>dig v) (m.length:Int) S Z (fun i j=>cY (hb j) U) (cY (n:=281474976710656) Z U)
 have hadd:=yU 1 n (fun i j=>dig v j*(m.length:Int)) 1 n (fun _=>dig m) S Z (fun i j=>cY (n:=9*281474976710656) (by rw [Int.natAbs_mul]; exact Nat.mul_le_mul (hb j) Z) U) (fun i j=>cY (hc j) U)
 rw [decide_eq_true ⟨rfl,rfl⟩] at hadd
 unfold mS at hadd
 rw [if_pos Y,if_pos Y,if_pos Y] at hadd
 by_cases hd:Lin.bY n F=0
 ·have s1:=nw n F (dig v) hn hA' hd
  have s2:=nw n F (dig m) hn hA' hd
  have s3:=nw n F (fun j=>dig v j*(m.length:Int)+dig m j) hn hA' hd
  unfold bR fI at *
  refine ae (ai ?_)
  refine aS Y Y (ltN Y) (fun b3 => ?_)
  refine st (ah Y) Y (Run.nil (aa (ae (ai (st (am (hsan) Y trivial) Y (st (ah Y) Y (Run.nil (aa (ae ?_)))))))))
  refine ai (st (aO 0 Y Y) Y ?_)
  refine st (am (hsq) Y ⟨VT.le_refl _,trivial⟩) Y ?_
  refine bq (T:=30) Y Y Y (fun b8 => ?_)
  refine a4 0 Y Y Y Y (Run.nil (aa (ae (ai (st (ab Y) Y (st (aU Y) Y ?_))))))
  refine st (am (hof) Y ⟨VT.le_refl _,trivial⟩) Y ?_
  refine aG (T:=37) Y (ltN Y) (fun b9 => ?_)
  refine aA 0 Y Y Y Y Y (leN Y) Y (Run.nil (aa (ae (a6 9 aZ X S (st (ab Y) Y (st (aj Y) Y (st (ak 1 Y Y Y) Y ?_)))))))
  refine st (am (hve) Y ⟨VT.le_refl _,VT.le_refl _,trivial⟩) Y ?_
  refine st (ab Y) Y (st (aj Y) Y (st (ak 1 Y Y Y) Y ?_))
  refine st (am (hvm) Y ⟨VT.le_refl _,VT.le_refl _,trivial⟩) Y ?_
  refine st (ah Y) Y (Run.nil (st (ah Y) Y (Run.nil (aa (ae ?_)))))
  refine dN aZ X X ?_
  refine ux (fun B=>ab Y) Y Y ?_
  refine uxk (hro) Y ⟨VT.le_refl _,trivial⟩ Y ?_
  refine ux (fun B=>ak 0 Y Y Y) Y Y ?_
  refine uxk (hsc) Y ⟨VT.le_refl _,VT.le_refl _,trivial⟩ Y ?_
  refine ux (fun B=>ab Y) Y Y ?_
  refine uxk (hrm) Y ⟨VT.le_refl _,trivial⟩ Y ?_
  refine uxk (hadd) Y ⟨VT.le_refl _,VT.le_refl _,trivial⟩ Y ?_
  refine ux (fun B=>ab Y) Y Y ?_
  refine ux (fun B=>aq Y Y) Y Y ?_
  refine ux (fun B=>aq Y Y) Y Y ?_
  refine ua Y (us Y ?_)
  refine ux (fun B=>ah Y) Y Y ?_
  refine RunU.nil (fun γ => ?_)
  refine cH (M' := [_,_,_,_]) Y (f6 (dG.refl _) (.keep gH (SubM.refl _)) (aa (ae (ai (st (aO 2 Y Y) Y (st (ab Y) Y ?_))))))
  refine st (am (s1) Y ⟨VT.le_refl _,VT.le_refl _,trivial⟩) Y ?_
  refine st (ab Y) Y (st (aq Y Y) Y (st (aq Y Y) Y (st (ah Y) Y (st (ah Y) Y (Run.nil (aa (ae (ai (st (aO 2 Y Y) Y ?_)))))))))
  refine st (ab Y) Y ?_
  refine st (am (s2) Y ⟨VT.le_refl _,VT.le_refl _,trivial⟩) Y ?_
  refine st (ab Y) Y (st (aq Y Y) Y (st (aq Y Y) Y (st (ah Y) Y (st (ah Y) Y (Run.nil (aa (ae (a6 10 aZ X S (st (aO 2 Y Y) Y ?_)))))))))
  refine st (aj Y) Y (st (ak 0 Y Y Y) Y (st (aC Y Y S) Y (st (aM Y) Y ?_)))
  refine st (am (s3) Y ⟨VT.le_refl _,VT.le_refl _,trivial⟩) Y ?_
  refine st (ab Y) Y (st (aq Y Y) Y (st (aq Y Y) Y (st (ah Y) Y (Run.nil (st (ah Y) Y (Run.nil (aa (ae (ae ?_)))))))))
  refine ai (st (ab Y) Y (st (ab Y) Y (st (sF Z (di Y Y)) Y (st (ab Y) Y (sg1 Y Y (ab Y) Y (sg1 Y Y (ab Y) Y (sg1 Y Y (sF Z (di Y Y)) Y (st (bF Y Y) Y (Run.nil ?_)))))))))
  refine aa (aB Y (az (aa (ae (ae (ai (st (ab Y) Y (st (sT Z (di Y Y)) Y (Run.nil ?_)))))))))
  refine aa (aH Y (ae (ai (st (ab Y) Y (st (ah Y) Y (Run.nil (aa (aE (aW ?_)))))))))
  refine aT Tryz.results7 (.tmp Y H)
 ·obtain ⟨hg,_⟩:=tB hn hA hd
  have s1:=nv n F (dig v) hn hA' hb' hd hg
  have s2:=nv n F (dig m) hn hA' hc' hd hg
  have s3:=nv n F (fun j=>dig v j*(m.length:Int)+dig m j) hn hA' hs hd hg
  have q1:=fun j (hj:j<n)=>ru (b:=dig v) hn hA' hb' hd hj
  have q2:=fun j (hj:j<n)=>ru (b:=dig m) hn hA' hc' hd hj
  have hsl:=fun i (hi:i<n)=>BO (b:=dig v) (c:=dig m) (k:=(m.length:Int)) hd hi
  generalize ie n F (dig v)=DM at *
  generalize ie n F (dig m)=DK at *
  generalize ie n F (fun j=>dig v j*(m.length:Int)+dig m j)=DL at *
  have hvl:=f9 n n DM 12 Z S q1
  have hvl2:=f9 n n DK 12 Z S q2
  rw [decide_eq_true Y] at hvl hvl2
  have hwh:=g8 (m.length:Int)
  have hqk:qz 2 ((m.length:Int):Rat):=kP S (cr (k:=2) (by rw [Int.natAbs_natCast]; omega))
  unfold bR fI at *
  refine ae (ai ?_)
  refine aS Y Y (ltN Y) (fun b3 => ?_)
  refine st (ah Y) Y (Run.nil (aa (ae (ai (st (am (hsan) Y trivial) Y (st (ah Y) Y (Run.nil (aa (ae ?_)))))))))
  refine ai (st (aO 0 Y Y) Y ?_)
  refine st (am (hsq) Y ⟨VT.le_refl _,trivial⟩) Y ?_
  refine bq (T:=30) Y Y Y (fun b8 => ?_)
  refine a4 0 Y Y Y Y (Run.nil (aa (ae (ai (st (ab Y) Y (st (aU Y) Y ?_))))))
  refine st (am (hof) Y ⟨VT.le_refl _,trivial⟩) Y ?_
  refine aG (T:=37) Y (ltN Y) (fun b9 => ?_)
  refine aA 0 Y Y Y Y Y (leN Y) Y (Run.nil (aa (ae (a6 9 aZ X S (st (ab Y) Y (st (aj Y) Y (st (ak 1 Y Y Y) Y ?_)))))))
  refine st (am (hve) Y ⟨VT.le_refl _,VT.le_refl _,trivial⟩) Y ?_
  refine st (ab Y) Y (st (aj Y) Y (st (ak 1 Y Y Y) Y ?_))
  refine st (am (hvm) Y ⟨VT.le_refl _,VT.le_refl _,trivial⟩) Y ?_
  refine st (ah Y) Y (Run.nil (st (ah Y) Y (Run.nil (aa (ae ?_)))))
  refine dN aZ X X ?_
  refine ux (fun B=>ab Y) Y Y ?_
  refine uxk (hro) Y ⟨VT.le_refl _,trivial⟩ Y ?_
  refine ux (fun B=>ak 0 Y Y Y) Y Y ?_
  refine uxk (hsc) Y ⟨VT.le_refl _,VT.le_refl _,trivial⟩ Y ?_
  refine ux (fun B=>ab Y) Y Y ?_
  refine uxk (hrm) Y ⟨VT.le_refl _,trivial⟩ Y ?_
  refine uxk (hadd) Y ⟨VT.le_refl _,VT.le_refl _,trivial⟩ Y ?_
  refine ux (fun B=>ab Y) Y Y ?_
  refine ux (fun B=>aq Y Y) Y Y ?_
  refine ux (fun B=>aq Y Y) Y Y ?_
  refine ua Y (us Y ?_)
  refine ux (fun B=>ah Y) Y Y ?_
  refine RunU.nil (fun γ => ?_)
  refine cH (M' := [_,_,_,_]) Y (f6 (dG.refl _) (.keep gH (SubM.refl _)) (aa (ae (ai (st (aO 2 Y Y) Y (st (ab Y) Y ?_))))))
  refine st (am (s1) Y ⟨VT.le_refl _,VT.le_refl _,trivial⟩) Y ?_
  refine st (ab Y) Y (st (aq Y Y) Y (st (aq Y Y) Y (st (ah Y) Y (st (ah Y) Y (Run.nil (aa (ae (ai (st (aO 2 Y Y) Y ?_)))))))))
  refine st (ab Y) Y ?_
  refine st (am (s2) Y ⟨VT.le_refl _,VT.le_refl _,trivial⟩) Y ?_
  refine st (ab Y) Y (st (aq Y Y) Y (st (aq Y Y) Y (st (ah Y) Y (st (ah Y) Y (Run.nil (aa (ae (a6 10 aZ X S (st (aO 2 Y Y) Y ?_)))))))))
  refine st (aj Y) Y (st (ak 0 Y Y Y) Y (st (aC Y Y S) Y (st (aM Y) Y ?_)))
  refine st (am (s3) Y ⟨VT.le_refl _,VT.le_refl _,trivial⟩) Y ?_
  refine st (ab Y) Y (st (aq Y Y) Y (st (aq Y Y) Y (st (ah Y) Y (Run.nil (st (ah Y) Y (Run.nil (aa (ae (ae ?_)))))))))
  refine ai (st (ab Y) Y (st (ab Y) Y (st (sF Z (di Y Y)) Y (st (ab Y) Y (sg1 Y Y (ab Y) Y (sg1 Y Y (ab Y) Y (sg1 Y Y (sF Z (di Y Y)) Y (st (bF Y Y) Y (Run.nil ?_)))))))))
  refine aa (aB Y (az (aa (ae (ae (ai (st (ab Y) Y (st (sF Z (di Y Y)) Y (Run.nil ?_)))))))))
  refine aa (aB Y (az (aa (ae (ae (ai (st (ab Y) Y (st (aj Y) Y (st (ak 2 Y Y Y) Y ?_)))))))))
  refine st (am (hvl) Y ⟨VT.le_refl _,VT.le_refl _,trivial⟩) Y ?_
  refine st (cK Y) Y (st (ab Y) Y (sg1 Y Y (ab Y) Y (sg1 Y Y (aj Y) Y (sg1 Y Y (ak 2 Y Y Y) Y ?_))))
  refine sg1 Y Y (am (hvl2) Y ⟨VT.le_refl _,VT.le_refl _,trivial⟩) Y ?_
  refine sg1 Y Y (cK Y) Y (st (bF Y Y) Y (st (ab Y) Y (sg1 Y Y (ab Y) Y (sg1 Y Y (aU Y) Y (sg1 Y Y (aj Y) Y (sg1 Y Y (ak 2 Y Y Y) Y (sg1 Y Y (sF Z (di Y Y)) Y (st (bF Y Y) Y (Run.nil ?_)))))))))
  refine aa (aB Y (az (aa (ae (ae (ai (st (ah Y) Y (Run.nil (aa ?_)))))))))
  refine au (cn (Γ' := [(6,_),(7,_),(8,_),(9,_),(14,_),(16,_),(18,_),(20,_)]) DQ (SubM.refl _) ?_)
  refine bB (σ:=Nat) (Γk := [(7,_),(8,_),(9,_),(14,_),(16,_),(18,_)]) DQ (fun i => [(20,one (.int .i64 (i:Nat)))]) (fun i M0=>M0) (fun i=>i≤n) (fun i=>n - i) (0) (Nat.zero_le _) DR (.keep DU (.keep DU (.keep DU (.keep DU (.nil))))) (fun i hi => ?_)
  refine bQ (Γ' := [(20,_),(7,_),(8,_),(9,_),(14,_),(16,_),(18,_)]) (M' := [_,_,_,_]) Y Y ?_
  by_cases hi2:i<n
  ·have hmu:=iU ((m.length:Int):Rat) (DM i) 2 12 hqk (q1 i hi2) S
   have had:=oM (((m.length:Int):Rat)*DM i) (DK i) (2+12) 12 (oL hqk (q1 i hi2)) (q2 i hi2) S
   have hsm:=pU (DL i) (((m.length:Int):Rat)*DM i+DK i)
   rw [decide_eq_true (hsl i hi2)] at hsm
   refine ae (ae (ai (st (ab Y) Y (st (aj Y) Y (st (ak 2 Y Y Y) Y (st (sT Z (a7 Y Y)) Y (Run.nil (aa (aH Y ?_)))))))))
   refine az (aa (ae (au (ae (a6 18 aZ X S (st (ab Y) Y (st (ab Y) Y (st (aC Y Y Z) Y (st (aM Y) Y ?_)))))))))
   refine st (ak 1 Y Y Y) Y ?_
   refine st (am (hwh) Y ⟨VT.le_refl _,trivial⟩) Y ?_
   refine st (ab Y) Y (st (ab Y) Y (st (aC Y Y Z) Y (st (aM Y) Y ?_)))
   refine st (am (hmu) Y ⟨VT.le_refl _,VT.le_refl _,trivial⟩) Y ?_
   refine st (ab Y) Y (st (ab Y) Y (st (aC Y Y Z) Y (st (aM Y) Y ?_)))
   refine st (am (had) Y ⟨VT.le_refl _,VT.le_refl _,trivial⟩) Y ?_
   refine st (am (hsm) Y ⟨VT.le_refl _,VT.le_refl _,trivial⟩) Y ?_
   refine st (cK Y) Y (Run.nil (Run.nil (aa (aB Y (az (aD (aa (ai (st (ab Y) Y ?_)))))))))
   refine st (bI _ 1 Y Y Z) Y (st (ah Y) Y (Run.nil ?_))
   refine aQ (i+1) Z Z DR (.keep DU (.keep DU (.keep DU (.keep DU (.nil)))))
  ·refine ae (ae (ai (st (ab Y) Y (st (aj Y) Y (st (ak 2 Y Y Y) Y (st (sF Z (a7 Y Y)) Y (Run.nil (aa (aB Y ?_)))))))))
   refine aX (av (av (aF (aa (ae (ai (st (ab Y) Y (st (ah Y) Y (Run.nil ?_)))))))))
   refine aa (aE ?_)
   refine aT Tryz.results7 (.tmp Y H)
end Tor
end
section
set_option maxRecDepth 100000
namespace Tor
open Go Go.RowKit Go.ChangeShapes Go.WideShapes Go.ChangeAt Go.Joins Go.Proofs
theorem Ah {DP:Type} {enc:TypeId × Value→DP} {W:World} {base:Nat} {v:Value} {d:DataW DP} {ps:List MemPlace} (hval:Value.okWide Tryz.prog W .any base 24 v) (hT:DataW.Trod enc Tryz.prog W 0 (fun _=>true) true 24 v d ps) (hw : ∀ x∈DataW.weights Tryz.prog 24 d,x≤reachBytes) :
  ∃ (r:Nat) (c:Nat) (l:List Int),(oB r c l).p v (cm W)∧(r:Int)≤IntKind.max .u8∧(c:Int)≤IntKind.max .u8∧(∀ x∈l,IntKind.min .i8≤x∧x≤IntKind.max .i8)∧True:=by
 obtain ⟨cs,rfl,h⟩:=Ap 8 (ts := [5,5,22]) X (.inl ⟨_,Tryz.underlying24⟩) hval hT hw
 obtain ⟨c0,r0,rfl,h0,g0⟩:=h
 obtain ⟨c1,r1,rfl,h1,g1⟩:=g0
 obtain ⟨c2,r2,rfl,h2,g2⟩:=g1
 cases g2
 obtain ⟨r,rfl,b0⟩:=rR Tryz.underlying5 Y h0
 obtain ⟨c,rfl,b1⟩:=rR Tryz.underlying5 Y h1
 obtain ⟨l,k2,b2⟩:=py Tryz.underlying22 Tryz.underlying25 X (of_decide_eq_true X) h2
 exact ⟨r,c,l,Dg (φs := [one (.int .u8 r),one (.int .u8 c),fI .i8 l]) ⟨rfl,rfl,⟨rfl,rfl,⟨k2,Ao k2,trivial⟩⟩⟩,b0,b1,b2,trivial⟩
theorem Ai {DP:Type} {enc:TypeId × Value→DP} {W:World} {base:Nat} {v:Value} {d:DataW DP} {ps:List MemPlace} (hval:Value.okWide Tryz.prog W .any base 22 v) (hT:DataW.Trod enc Tryz.prog W 0 (fun _=>true) true 22 v d ps) (hw : ∀ x∈DataW.weights Tryz.prog 22 d,x≤reachBytes) :
  ∃ (d:List Int),(fI .i8 d).p v (cm W)∧(∀ x∈d,IntKind.min .i8≤x∧x≤IntKind.max .i8)∧True:=by
 have h:=xZ (.inr (.inr ⟨_,Tryz.underlying22⟩)) hval hT hw
 obtain ⟨d,k0,b0⟩:=py Tryz.underlying22 Tryz.underlying25 X (of_decide_eq_true X) h
 exact ⟨d,k0,b0,trivial⟩
end Tor
namespace Go.Proofs.YtbgloceimmbliaaGreat
open Go.ChangeShapes Go.WideShapes Go.ChangeAt Go.RowKit Go.Joins Tor
theorem dixonSolves_own:ownKnob Tryz.prog.godebug=none:=by kernel_rfl
theorem dixonSolves_laid:laidOutB Tryz.prog=true:=by kernel_rfl
set_option maxRecDepth 100000 in
theorem dixonSolves_lifted (os:Os) (started:os.Started) (DP:Type) (enc:TypeId × Value→DP) :
  ReturnsInHanded {} Tryz.checked os 4 .any (Rows.dixonSolvesSpec.pre6 enc Tryz.prog Tryz.f4 Rows.dixonSolvesRow.domain false) (Rows.dixonSolvesSpec.post enc Tryz.prog Tryz.f4 false true false false):=by
 refine returnsInHanded_of_change_sized (C:=Tryz.checked) dixonSolves_own started X Tryz.func4
  (ChangeSpec.witness6 (enc:=enc) (C:=Tryz.checked) false ⟨#[], #[.agg #[.int .u8 0, .int .u8 0, .slice none 0 0], .slice none 0 0], []⟩ 8 X X X X) ?_
 intro W base args ds gs before hval0 hW hcnd hsz0 _
 have hval : ∀ (j:Nat) t v,Tryz.f4.params[j]? = some t→args[j]? = some v→Value.okWide Tryz.prog W .any base t v:=hval0
 have hsz:(DataW.weightsEach Tryz.prog (Tryz.f4.params.toList ++ Rows.dixonSolvesSpec.plain.varTypes Tryz.prog) (ds ++ gs)).all (· ≤ reachBytes)=true:=hsz0
 have hW':=hW
 obtain ⟨p,q,hA0,hV,rfl,hfz,hnd⟩:=hW
 have hA:DataW.TrodAll enc Tryz.prog W 0 (fun _=>true) true Tryz.f4.params.toList args.toList ds p:=hA0
 rw [Tryz.params4] at hA hval hsz
 obtain ⟨v0,v1,d0,d1,p0,p1,rfl,rfl,rfl,h0,h1⟩:=trodAll_two hA
 obtain ⟨rfl,rfl⟩:=trodVars_none hV
 obtain ⟨r_0,c_0,l_0,x0,y0⟩:=Ah (hval 0 24 _ Y Y) h0 (fT hsz 0 Y Y)
 obtain ⟨d_1,x1,y1⟩:=Ai (hval 1 22 _ Y Y) h1 (fT hsz 1 Y Y)
 refine (Ok.outside (W:=W) (args := #[v0,v1]) (rv r_0 c_0 l_0 d_1) (And.intro x0 (And.intro x1 (trivial)))).mono fun e W' ⟨v,he,hv,hw⟩ => ?_
 subst he
 have hv:v = .bool true:=hv
 subst hv
 refine ⟨_,rfl,_, [],_, [],_, [],hW',trodAll_mk1 (shut_bool Tryz.underlying4 true),trodAll_mk2
  (Below.trod dixonSolves_laid X (of_decide_eq_true X) h0 hw (fun x hx=>by simpa using hW'.lt x (by simp only [List.mem_append] at hx ⊢; simp [hx])))
  (Below.trod dixonSolves_laid X (of_decide_eq_true X) h1 hw (fun x hx=>by simpa using hW'.lt x (by simp only [List.mem_append] at hx ⊢; simp [hx]))),rfl,hw.frame _,fun h=>by cases h⟩
theorem dixonSolves_holds:Rows.DixonSolvesSaid :=
 OpenClaim.holds_of_wide 4 Tryz.f4 Y Y Y Y Y Y Y ⟨rfl,rfl,rfl,rfl,rfl⟩ Y Y Y Y Y X Tryz.func4 X
  (of_decide_eq_true X) (by unfold Func.isWrapper;first | (rw [if_pos U]; kernel_rfl) | (rw [if_neg U]; exact ⟨rfl,rfl⟩))
  (fun os started DP enc _=>dixonSolves_lifted os started DP enc)
end Go.Proofs.YtbgloceimmbliaaGreat
namespace Tor
end Tor
namespace Go.Proofs.YtbgloceimmbliaaGreat
open Go.ChangeShapes Go.WideShapes Go.ChangeAt Go.RowKit Go.Joins Tor
theorem dixonLinear_own:ownKnob Tryz.prog.godebug=none:=by kernel_rfl
theorem dixonLinear_laid:laidOutB Tryz.prog=true:=by kernel_rfl
set_option maxRecDepth 100000 in
theorem dixonLinear_lifted (os:Os) (started:os.Started) (DP:Type) (enc:TypeId × Value→DP) :
  ReturnsInHanded {} Tryz.checked os 7 .any (Rows.dixonLinearSpec.pre6 enc Tryz.prog Tryz.f7 Rows.dixonLinearRow.domain false) (Rows.dixonLinearSpec.post enc Tryz.prog Tryz.f7 false true false false):=by
 refine returnsInHanded_of_change_sized (C:=Tryz.checked) dixonLinear_own started X Tryz.func7
  (ChangeSpec.witness6 (enc:=enc) (C:=Tryz.checked) false ⟨#[], #[.agg #[.int .u8 0, .int .u8 0, .slice none 0 0], .slice none 0 0, .slice none 0 0], []⟩ 8 X X X X) ?_
 intro W base args ds gs before hval0 hW hcnd hsz0 _
 have hval : ∀ (j:Nat) t v,Tryz.f7.params[j]? = some t→args[j]? = some v→Value.okWide Tryz.prog W .any base t v:=hval0
 have hsz:(DataW.weightsEach Tryz.prog (Tryz.f7.params.toList ++ Rows.dixonLinearSpec.plain.varTypes Tryz.prog) (ds ++ gs)).all (· ≤ reachBytes)=true:=hsz0
 have hW':=hW
 obtain ⟨p,q,hA0,hV,rfl,hfz,hnd⟩:=hW
 have hA:DataW.TrodAll enc Tryz.prog W 0 (fun _=>true) true Tryz.f7.params.toList args.toList ds p:=hA0
 rw [Tryz.params7] at hA hval hsz
 obtain ⟨v0,v1,v2,d0,d1,d2,p0,p1,p2,rfl,rfl,rfl,h0,h1,h2⟩:=trodAll_three hA
 obtain ⟨rfl,rfl⟩:=trodVars_none hV
 obtain ⟨r_0,c_0,l_0,x0,y0⟩:=Ah (hval 0 24 _ Y Y) h0 (fT hsz 0 Y Y)
 obtain ⟨d_1,x1,y1⟩:=Ai (hval 1 22 _ Y Y) h1 (fT hsz 1 Y Y)
 obtain ⟨d_2,x2,y2⟩:=Ai (hval 2 22 _ Y Y) h2 (fT hsz 2 Y Y)
 refine (Ok.outside (W:=W) (args := #[v0,v1,v2]) (rx r_0 c_0 l_0 d_1 d_2) (And.intro x0 (And.intro x1 (And.intro x2 (trivial))))).mono fun e W' ⟨v,he,hv,hw⟩ => ?_
 subst he
 have hv:v = .bool true:=hv
 subst hv
 refine ⟨_,rfl,_, [],_, [],_, [],hW',trodAll_mk1 (shut_bool Tryz.underlying4 true),trodAll_mk3
  (Below.trod dixonLinear_laid X (of_decide_eq_true X) h0 hw (fun x hx=>by simpa using hW'.lt x (by simp only [List.mem_append] at hx ⊢; simp [hx])))
  (Below.trod dixonLinear_laid X (of_decide_eq_true X) h1 hw (fun x hx=>by simpa using hW'.lt x (by simp only [List.mem_append] at hx ⊢; simp [hx])))
  (Below.trod dixonLinear_laid X (of_decide_eq_true X) h2 hw (fun x hx=>by simpa using hW'.lt x (by simp only [List.mem_append] at hx ⊢; simp [hx]))),rfl,hw.frame _,fun h=>by cases h⟩
theorem dixonLinear_holds:Rows.DixonLinearSaid :=
 OpenClaim.holds_of_wide 7 Tryz.f7 Y Y Y Y Y Y Y ⟨rfl,rfl,rfl,rfl,rfl⟩ Y Y Y Y Y X Tryz.func7 X
  (of_decide_eq_true X) (by unfold Func.isWrapper;first | (rw [if_pos U]; kernel_rfl) | (rw [if_neg U]; exact ⟨rfl,rfl⟩))
  (fun os started DP enc _=>dixonLinear_lifted os started DP enc)
end Go.Proofs.YtbgloceimmbliaaGreat
namespace Tor
end Tor
end
