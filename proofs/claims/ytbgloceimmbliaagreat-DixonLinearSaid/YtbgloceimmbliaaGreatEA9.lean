/-
  Theorems that the proofs of laws of this seat rest on.
  No condition.
-/
import Derived.Test.YtbgloceimmbliaaGreatEA8
import Derived.ScopeJumps
set_option linter.unusedVariables false
set_option linter.unusedSimpArgs false
section
namespace Tor
open Go Go.RowKit Go.Proofs
abbrev U64:=Fin 18446744073709551616
def CT (x:U64):Value := .int .u64 (x.val:Nat)
def dnL (c k:Nat):List U64:=(List.range k).map fun i=>⟨(c - 1 - i) % 18446744073709551616,Nat.mod_lt _ S⟩
theorem jP {c k:Nat} : dnL c (k+1)=dnL c k ++ [⟨(c - 1 - k) % 18446744073709551616,Nat.mod_lt _ S⟩]:=by simp [dnL,List.range_succ]
theorem Bh {c k:Nat} : (dnL c k).length=k:=by simp [dnL]
theorem oE {p:Nat→Bool} {c:Nat} (hc:c<18446744073709551616) : ∀ k,k≤c→(∀ y∈dnL c k,p y.val=false)→ms p c=ms p (c - k)
 | 0, _, _ => rfl
 | k + 1, hk, h => by
  rw [oE hc k Z (fun y hy=>h y (by rw [jP]; exact List.mem_append.2 (.inl hy)))]
  have h1:=h ⟨(c - 1 - k) % 18446744073709551616,Nat.mod_lt _ S⟩ (by rw [jP]; exact List.mem_append.2 (.inr (List.mem_singleton.2 Y)))
  have h1:p ((c - 1 - k) % 18446744073709551616)=false:=h1
  rw [Nat.mod_eq_of_lt Z] at h1
  rw [show c - k=(c - 1 - k)+1 by omega,ms,if_neg (by rw [h1]; simp),show c - (k+1)=c - 1 - k by omega]
attribute [local irreducible] Tor.J Tor.PJ Tor.aK Tor.one Tor.slT Tor.bO Tor.bC Tor.bv Tor.exT Tor.cd Tor.eP Tor.aR Tor.aI Tor.slV Tor.VT.le Tor.Ret Tor.bJ
set_option maxHeartbeats 4000000 in
theorem zu (n:Nat) (hn:n<18446744073709551616):OkY Tryz.prog 157 [bO .one (one (.int .u64 (n:Nat)))] CT (fun xs=>xs=dnL (min n 2147483648) (min n 2147483648)) (fun pre => ∃ k,k<min n 2147483648∧pre=dnL (min n 2147483648) (k+1)) (min n 2147483648):=by
 refine OkY.enter Tryz.func157 Y Tryz.ntmps157 Y (fun w0 l J Jx B hA hAx hY h0 => ?_)
 refine ae (ai (st (aM Y) Y (st (xF Y Y) Y (st (ah Y) Y (Run.nil (aa (au ?_)))))))
 obtain ⟨c,hc⟩ : ∃ c:Nat,c=min n 2147483648:=⟨_,rfl⟩
 have hcl:c<18446744073709551616:=by omega
 have hci:(min (n:Int) 2147483648)=(c:Int):=by omega
 rw [hci]
 rw [← hc] at hY ⊢
 refine Dj [(0,one (.func (.yield l) #[] #[])),(3,one (.int .u64 (c:Nat)))] (.cons Y H (.cons Y H .nil)) (.cons (.cons .nil)) (fun w1 hw1 => ?_)
 refine cC (σ:=Nat × World) (fun s => [(0,one (.func (.yield l) #[] #[])),(3,one (.int .u64 ((c - s.1:Nat):Int)))]) (fun s => [yO s.2]) (fun s=>s.1≤c∧SameW w1 s.2∧J (dnL c s.1) s.2) (fun s=>c - s.1) (0,w1)
  ⟨Nat.zero_le _,SameW.refl _,pD hA h0 hw1⟩ (dG.refl _) (SubM.refl _) (fun s hs => ?_)
 obtain ⟨k,W⟩:=s
 obtain ⟨hk,hsw,hJ⟩:=hs
 dsimp only at hk hsw hJ ⊢
 by_cases hlt:k<c
 ·have hv:one (.int .u64 ((c - k - 1:Nat):Int))=one (CT ⟨(c - 1 - k) % 18446744073709551616,Nat.mod_lt _ S⟩):=by
   have e:(c - 1 - k) % 18446744073709551616=c - k - 1:=by omega
   show _=one (.int .u64 (((c - 1 - k) % 18446744073709551616:Nat):Int))
   rw [e]
  refine ae (ae (ai ?_))
  refine st (ab Y) Y (st (sT Z (c7 Y Y)) Y (Run.nil ?_))
  refine aa (aH Y (az (aa (ae (au (ae ?_))))))
  refine Cd (m:=3) ⟨(c - 1 - k) % 18446744073709551616,Nat.mod_lt _ S⟩ [(0,one (.func (.yield l) #[] #[])),(3,one (.int .u64 ((c - k:Nat):Int)))] hY hA hsw hJ (by rw [Bh]; exact hlt) Y Y (.cons (.cons .nil)) ?_ (fun W' hJ' hw' => ?_) (fun W' hx' => ?_)
  ·refine st (ab Y) Y (st (ab Y) Y (st (kD 1 Y Y Z Z) Y (Run.nil ?_)))
   exact ⟨rfl,rfl,rfl,congrArg some hv, .cons Y H (.cons Y H .nil)⟩
  ·rw [← jP] at hJ'
   refine st (cK Y) Y (Run.nil (aa (aB Y (az (aD (aa (ai (st (ab Y) Y (st (kD 1 Y Y Z Z) Y ?_)))))))))
   refine st (ah Y) Y (Run.nil ?_)
   refine aQ (k+1,W') ?_ ?_ ?_ (SubM.refl _)
   ·exact ⟨hlt,hw',hJ'⟩
   ·show c - (k+1)<c - k;omega
   ·exact .cons Y H (.cons Y (ar (by rw [Nat.sub_sub])) .nil)
  ·rw [← jP] at hx'
   refine st (cK Y) Y (Run.nil (aa (aH Y (aE (bN (aW (aW (bN ?_))))))))
   exact ya Y hAx hx' ⟨k,hlt,rfl⟩ (SameW.refl _)
 ·obtain rfl:k=c:=by omega
  refine ae (ae (ai (st (ab Y) Y (st (sF Z (c7 Y Y)) Y (Run.nil (aa (aB Y (aX (av ?_)))))))))
  refine av (aF ?_)
  exact x9 Y hA hJ Y hsw
set_option maxHeartbeats 4000000 in
theorem zv (n:Nat) (hn:n<18446744073709551616):Ok Tryz.prog 133 [iZ 157 [bO .one (one (.int .u64 (n:Nat)))]] (one (.int .u64 (bf cB n:Nat))):=by
 refine Ok.enterR Tryz.func133 Y Tryz.ntmps133 Y (fun w O => ?_)
 refine ae (ai ?_)
 refine aG (T:=44) Y (ltN Y) (fun b2 => ?_)
 refine Run.nil (aa (ae (ae (ai (st (ab Y) Y (Run.nil (aa (au ?_))))))))
 refine At (α:=U64) (σ:=Nat) (zu n hn) (fun v => [aR b2 44 1 [(0, .one,one (.int .u64 (v:Nat)))]]) (fun pre v=>v=0 ∧ ∀ x∈pre,cB x.val=false)
  (fun e pre v=>e=none ∧ ∃ init x,pre=init ++ [x]∧v=x.val∧cB x.val=true ∧ ∀ y∈init,cB y.val=false) 0 Y Y ⟨rfl,fun x h=>by cases h⟩ (SubM.refl _) Y Y (by simp [fO,fZ])
  (fun l W pre x v hv hlen => ?_) (fun xs v D hxs hv => ?_) (fun pre v D hpre hv => ?_) (fun id pre v D hpre hv=>absurd hv.1 (by simp))
 ·obtain ⟨rfl,hv⟩:=hv
  have hx:=x.isLt
  unfold CT
  cases hp:cB x.val with
  | true =>
   refine au (ae (ai (st (ab Y) Y ?_)))
   refine st (sBt (by assumption) (am (j8 _ (by assumption)) Y ⟨VT.le_refl _,trivial⟩)) Y ?_
   refine Run.nil (aa (aH Y (ae (ai (st (ab Y) Y (aA 0 Y Y Y Y Y (leN Y) Y (Run.nil (aa (aE ?_)))))))))
   refine bN ?_
   exact Au (x.val:Nat) ⟨rfl,pre,x,rfl,rfl,hp,hv⟩ (SubM.refl _)
  | false =>
   refine au (ae (ai (st (ab Y) Y ?_)))
   refine st (sBf (by assumption) (am (j8 _ (by assumption)) Y ⟨VT.le_refl _,trivial⟩)) Y ?_
   refine Run.nil (aa (aB Y (az (aD ?_))))
   exact nS 0 ⟨rfl,fun y hy=>by rcases List.mem_append.1 hy with h | h;exact hv y h;rw [List.mem_singleton.1 h]; exact hp⟩ (SubM.refl _)
 ·have hz:bf cB n=0:=by
   have:=oE (p:=cB) (c:=min n 2147483648) Z (min n 2147483648) (Nat.le_refl _) (fun y hy=>hv.2 y (hxs▸hy))
   rw [Nat.sub_self] at this
   exact this
  refine aD (aa (ae (ai (aA 1 Y Y Y Y Y (leN Y) Y (Run.nil (aa (aE ?_)))))))
  rw [hz]
  refine nm ?_
  refine aT Tryz.results133 (.cellB 0 Y Y Y H)
 ·obtain ⟨k,hk,hpre⟩:=hpre
  obtain ⟨_,init,x,h1,rfl,h3,h4⟩:=hv
  have hz:bf cB n=x.val:=by
   rw [hpre,jP] at h1
   obtain ⟨e1,e2⟩:=List.append_inj' h1 Y
   have e2:(⟨(min n 2147483648 - 1 - k) % 18446744073709551616,Nat.mod_lt _ S⟩:U64)=x:=by simpa using e2
   have hb:=oE (p:=cB) (c:=min n 2147483648) Z k Z (fun y hy=>h4 y (e1▸hy))
   have e3:x.val=min n 2147483648 - 1 - k:=by rw [← e2]; show (min n 2147483648 - 1 - k) % 18446744073709551616=_;omega
   show ms cB (min n 2147483648)=_
   rw [hb,show min n 2147483648 - k=(min n 2147483648 - 1 - k)+1 by omega,ms,if_pos (by rw [← e3]; exact h3),e3]
  refine bN (aW ?_)
  rw [hz]
  refine nm ?_
  refine aT Tryz.results133 (.cellB 0 Y Y Y H)
set_option maxHeartbeats 4000000 in
theorem sZ (n:Nat) (hn:n<18446744073709551616):Ok Tryz.prog 134 [one (.int .u64 (n:Nat))] (iZ 157 [bO .one (one (.int .u64 (n:Nat)))]):=by
 refine Ok.enter Tryz.func134 Y Tryz.ntmps134 Y (fun w O => ?_)
 refine ae (ai ?_)
 refine gC Y Y (ltN Y) (fun b1 => ?_)
 refine st (ah Y) Y (Run.nil (aa (ae (ai (st (kx Y) Y (st (ah Y) Y (Run.nil (aa (aE ?_)))))))))
 refine gm [aR b1 44 1 [(0, .one,one (.int .u64 (n:Nat)))]] (Kp := []) (Kp' := []) (List.Perm.refl _) (EntM.refl []) (v9.set (t:=2) Y (Ent.clo1 (Ent.ptr List.mem_cons_self List.mem_cons_self))) ?_
 refine aT Tryz.results134 (.tmp Y H)
set_option maxHeartbeats 4000000 in
theorem mB (n:Nat) (hn:n<18446744073709551616):Ok Tryz.prog 89 [one (.int .u64 (n:Nat))] (one (.int .u64 (bf cB n:Nat))):=by
 refine Ok.enter Tryz.func89 Y Tryz.ntmps89 Y (fun w O => ?_)
 have h1:=sZ n hn
 have h2:=zv n hn
 refine ae (ai (st (ah Y) Y (Run.nil (aa (ae (ai (st (ab Y) Y ?_)))))))
 refine st (am (h1) Y ⟨VT.le_refl _,trivial⟩) Y ?_
 refine st (am (h2) Y ⟨VT.le_refl _,trivial⟩) Y ?_
 refine st (ah Y) Y (Run.nil (aa (aE ?_)))
 refine aT Tryz.results89 (.tmp Y H)
end Tor
end
section
namespace Tor
open Go Go.RowKit Go.Proofs
def w5 (p n:Nat) (F:Nat→Nat→Int) (R:Nat→Nat→Nat):Prop:=(∀ i j,i<n→j<n→R i j<p) ∧ ∀ i j,i<n→j<n→(p:Int)∣bA n (fun t=>(R i t:Int)*F t j) - (if i=j then 1 else 0)
def DG (p n:Nat) (F:Nat→Nat→Int):VT:=exT fun R:Nat→Nat→Nat=>cd (w5 p n F R) (slT .one n (fun i=>jc n (R i)))
theorem zw {p n:Nat} {F:Nat→Nat→Int} (hp:1<p):EchI p n F 0 (m9 p (fp n F)):=by
 refine EchI.start Z (fun i j hi hj => ?_) (fun i t hi ht => ?_) hp
 ·unfold m9 fp
  rw [if_pos hj,Int.toNat_of_nonneg (Int.emod_nonneg _ Z)]
 ·unfold m9 fp
  rw [if_neg Z,show n+t - n=t by omega]
  by_cases e:i=t
  ·rw [if_pos e,if_pos e,Int.emod_eq_of_lt S Z]; rfl
  ·rw [if_neg e,if_neg e]; simp
theorem zx {p n:Nat} {F:Nat→Nat→Int} {W:Nat→Nat→Nat} (h:EchI p n F n W):w5 p n F (fun i j=>W i (n+j)) :=
 ⟨fun i j hi hj=>h.lt i (n+j) hi Z,h.done⟩
def e7 (p n:Nat) (R:Nat→Nat→Nat) (r:Nat→Int):Nat→Nat→Nat
 | 0, _ => 0
 | i + 1, j => (e7 p n R r i j + (r i % (p : Int)).toNat * R i j % p) % p
theorem kc {p n:Nat} {R:Nat→Nat→Nat} {r:Nat→Int} (hp:2≤p) : ∀ i j,e7 p n R r i j<p
 | 0, _ => by show 0 < p; omega
 | i + 1, j => Nat.mod_lt _ Z
theorem zy {bz n i:Nat} {W:Nat→Nat→Nat} : Own.le (aI (some bz) 173 .one n n (upd (fun q=>if q<i then jc n (fun j=>W q (n+j)) else bJ) i (slT .one (((n+n:Nat):Int) - (n:Int)).toNat (fun j=>one (.int .u64 (W i (Int.toNat (n:Int)+j):Nat)))))) (aI (some bz) 173 .one n n (fun q=>if q<i+1 then jc n (fun j=>W q (n+j)) else bJ)):=be fun q _=>by
 unfold upd
 by_cases h:q=i
 ·subst h;rw [if_pos Y,if_pos (Nat.lt_succ_self q),show (((n+n:Nat):Int) - (n:Int)).toNat=n by omega,show Int.toNat (n:Int)=n from rfl]
 ·rw [if_neg h]
  dsimp only
  by_cases h2:q<i
  ·rw [if_pos h2,if_pos Z]
  ·rw [if_neg h2,if_neg Z]
theorem oF {sv:Option Nat} {T:TypeId} {L:Lay} {cap n t:Nat} {G:Nat→VT} : Own.le (aI sv T L cap n (upd (fun q=>if q<t then G q else bJ) t (G t))) (aI sv T L cap n (fun q=>if q<t+1 then G q else bJ)):=be fun q _=>by
 unfold upd
 by_cases h:q=t
 ·subst h;rw [if_pos Y,if_pos (Nat.lt_succ_self q)]
 ·rw [if_neg h]
  dsimp only
  by_cases h2:q<t
  ·rw [if_pos h2,if_pos Z]
  ·rw [if_neg h2,if_neg Z]
attribute [local irreducible] Tor.J Tor.PJ Tor.aK Tor.one Tor.slT Tor.bO Tor.bC Tor.bv Tor.exT Tor.cd Tor.eP Tor.aR Tor.aI Tor.slV Tor.VT.le Tor.Ret Tor.bJ
attribute [local irreducible] aL
set_option maxHeartbeats 4000000 in
theorem l0 (r c k:Nat) (F:Nat→Nat→Int) (f:Nat→Int):Ok Tryz.prog 49 [bR r c F,bD k f] (one (.bool (decide (r=c∧k=c)))):=by
 have hv:=fo r c F
 unfold bR bD at *
 refine Ok.enter Tryz.func49 Y Tryz.ntmps49 Y (fun w O => ?_)
 by_cases h1:r=c
 ·by_cases h2:k=c
  ·rw [decide_eq_true ⟨h1,h2⟩]
   refine ae (ai ?_)
   refine aS Y Y (ltN Y) (fun b2 => ?_)
   refine st (ah Y) Y (Run.nil (aa (ae (ai (st (aO 0 Y Y) Y ?_)))))
   refine st (am (hv) Y ⟨VT.le_refl _,trivial⟩) Y ?_
   refine st (ab Y) Y (sg1 Y Y (aj Y) Y (sg1 Y Y (ak 0 Y Y Y) Y (sg1 Y Y (aj Y) Y (sg1 Y Y (ak 0 Y Y Y) Y (sg1 Y Y (sT Z (ci Y Y)) Y (st (bj Y Y) Y (st (ab Y) Y (sg1 Y Y (ab Y) Y (sg1 Y Y (aU Y) Y ?_)))))))))
   refine sg1 Y Y (aj Y) Y (sg1 Y Y (ak 0 Y Y Y) Y (sg1 Y Y (sT Z (ci Y Y)) Y (st (bj Y Y) Y (st (ah Y) Y (Run.nil (aa (aE ?_)))))))
   refine aT Tryz.results49 (.tmp Y H)
  ·rw [decide_eq_false (fun h=>h2 h.2)]
   refine ae (ai ?_)
   refine aS Y Y (ltN Y) (fun b2 => ?_)
   refine st (ah Y) Y (Run.nil (aa (ae (ai (st (aO 0 Y Y) Y ?_)))))
   refine st (am (hv) Y ⟨VT.le_refl _,trivial⟩) Y ?_
   refine st (ab Y) Y (sg1 Y Y (aj Y) Y (sg1 Y Y (ak 0 Y Y Y) Y (sg1 Y Y (aj Y) Y (sg1 Y Y (ak 0 Y Y Y) Y (sg1 Y Y (sT Z (ci Y Y)) Y (st (bj Y Y) Y (st (ab Y) Y (sg1 Y Y (ab Y) Y (sg1 Y Y (aU Y) Y ?_)))))))))
   refine sg1 Y Y (aj Y) Y (sg1 Y Y (ak 0 Y Y Y) Y (sg1 Y Y (sF Z (ci Y Y)) Y (st (bj Y Y) Y (st (ah Y) Y (Run.nil (aa (aE ?_)))))))
   refine aT Tryz.results49 (.tmp Y H)
 ·rw [decide_eq_false (fun h=>h1 h.1)]
  refine ae (ai ?_)
  refine aS Y Y (ltN Y) (fun b2 => ?_)
  refine st (ah Y) Y (Run.nil (aa (ae (ai (st (aO 0 Y Y) Y ?_)))))
  refine st (am (hv) Y ⟨VT.le_refl _,trivial⟩) Y ?_
  refine st (ab Y) Y (sg1 Y Y (aj Y) Y (sg1 Y Y (ak 0 Y Y Y) Y (sg1 Y Y (aj Y) Y (sg1 Y Y (ak 0 Y Y Y) Y (sg1 Y Y (sF Z (ci Y Y)) Y (st (bj Y Y) Y (st (ab Y) Y (sn0 Y Y Y Y Y (sn0 Y Y Y Y Y ?_)))))))))
  refine sn0 Y Y Y Y Y (sn0 Y Y Y Y Y (sn0 Y Y Y Y Y (st (bF Y Y) Y (st (ah Y) Y (Run.nil (aa (aE ?_)))))))
  refine aT Tryz.results49 (.tmp Y H)
set_option maxHeartbeats 4000000 in
theorem uq (p n:Nat) (F:Nat→Nat→Int) (hpb:cB p=true) (hp2:2≤p) (hp:p<2147483648) (hinv:uh p) (hF:ui p n F) (hn:n≤1024) (hs : ∀ i j,bm (F i j)) :
  Ok Tryz.prog 92 [bR n n F,one (.int .u64 (p:Nat))] (DG p n F):=by
 have hid:=sO n Z
 have hbe:Ok Tryz.prog 136 [bR n n F,bR n n (fun i j=>if i=j then 1 else 0)] (bv [bR n (n+n) (fp n F),one (.int .i64 0)]):=by
  have h:=wH n n F n n (fun i j=>if i=j then 1 else 0) Z Z Z hs (fun i j=>by split;exact iL;exact kM)
  rw [decide_eq_true Y] at h
  unfold mS at h
  rw [if_pos Y,if_pos Y,if_pos Y] at h
  exact h
 have hre:=sR p n (n+n) (fp n F) hpb Z hp Z Z (fun i j=>by
  unfold fp;split
  ·exact hs _ _
  ·split
   ·exact iL
   ·exact kM)
 have hrr:=(A9 p n F (m9 p (fp n F)) hpb hp2 hp hinv hF hn (zw Z)).toM
 unfold bR at *
 refine Ok.enter Tryz.func92 Y Tryz.ntmps92 Y (fun w O => ?_)
 refine ae (ai ?_)
 refine aS Y Y (ltN Y) (fun b2 => ?_)
 refine st (ah Y) Y (Run.nil (aa (ae (ai (st (aj Y) Y (st (ak 0 Y Y Y) Y (st (ah Y) Y (Run.nil (aa ?_)))))))))
 refine ae ?_
 refine dN aZ X X ?_
 refine ux (fun B=>aO 0 Y Y) Y Y ?_
 refine ux (fun B=>ab Y) Y Y ?_
 refine uxk (hid) Y ⟨VT.le_refl _,trivial⟩ Y ?_
 refine uxk (hbe) Y ⟨VT.le_refl _,VT.le_refl _,trivial⟩ Y ?_
 refine ux (fun B=>ab Y) Y Y ?_
 refine ux (fun B=>aq Y Y) Y Y ?_
 refine ux (fun B=>aq Y Y) Y Y ?_
 refine ua Y (us Y ?_)
 refine ux (fun B=>ah Y) Y Y ?_
 refine RunU.nil (fun γ => ?_)
 refine cH (M' := [_,_]) Y (f6 (dG.refl _) (.keep gH (SubM.refl _)) (aa (ae (ai (st (ab Y) Y (st (aO 0 Y Y) Y ?_))))))
 refine st (am (hre) Y ⟨VT.le_refl _,VT.le_refl _,trivial⟩) Y ?_
 refine gl (hrr) Y ⟨VT.le_refl _,trivial⟩ Y Y (fun s25 => ?_)
 refine st (ab Y) Y (st (aq Y Y) Y (st (aq Y Y) Y ?_))
 refine bq (T:=169) Y Y Y (fun b8 => ?_)
 refine a4 0 Y Y Y Y (st (ah Y) Y (Run.nil (aa (ae (ai (st (ab Y) Y ?_))))))
 refine bV n n Y Y Y Y (Nat.le_refl _) Y Y Z Y Y (fun bz => ?_)
 refine st (ah Y) Y (Run.nil (aa (ae (ae (ai (st (ab Y) Y (st (cx Y) Y (st (ab Y) Y (Run.nil ?_)))))))))
 refine aa (au ?_)
 obtain ⟨W,hI⟩:=s25
 dsimp only
 refine cn (Γ' := [(4,_),(5,_),(8,_),(10,_),(31,_),(32,_)]) DQ (SubM.refl _) ?_
 refine bB (σ:=Nat) (Γk := [(4,_),(5,_),(8,_),(10,_),(31,_)]) DQ (fun i => [(32,one (.int .i64 (i:Nat)))]) (fun i M0=>(M0.set 0 (aI (some bz) 173 .one n n (fun q=>if q<i then jc n (fun j=>W q (n+j)) else bJ)))) (fun i=>i≤n) (fun i=>n - i) (0) (Nat.zero_le _) DR (.keep (ec fun q hq=>by rw [if_neg (Nat.not_lt_zero q)]; exact jG _) (.keep DU (.keep DU (.keep DU (.nil))))) (fun i hi => ?_)
 refine bQ (Γ' := [(32,_),(4,_),(5,_),(8,_),(10,_),(31,_)]) (M' := [_,_,_,_]) Y Y ?_
 by_cases hi2:i<n
 ·refine ae (ai (st (sT Z (a7 Y Y)) Y (Run.nil (aa (ae (aH Y (az (aa (ae ?_)))))))))
  refine au (ae (ai (st (ab Y) Y (st (ah Y) Y (Run.nil (aa (ai (st (ab Y) Y (st (ab Y) Y ?_)))))))))
  refine st (aj Y) Y (st (ak 1 Y Y Y) Y (st (ab Y) Y (st (aC Y Y Z) Y (st (aM Y) Y (st (ab Y) Y ?_)))))
  refine st (gi Y Y Y Y (fun h=>nomatch h) Z Z Z Z) Y ?_
  refine st (ao Y Y Z) Y ?_
  (refine aw 0 Y Y Y ?_ Y ?_;omega)
  refine Run.nil (aD (aa (ai (st (bI _ 1 Y Y Z) Y (st (ab Y) Y (Run.nil ?_))))))
  refine aQ (i+1) Z Z DR (.keep (zy) (.keep DU (.keep DU (.keep DU (.nil)))))
 ·have hin:i=n:=by omega
  subst hin
  refine ae (ai (st (sF Z (a7 Y Y)) Y (Run.nil (aa (ae (aB Y (aX (av (av ?_)))))))))
  refine aF (aa (ae (ai (st (ab Y) Y (st (ah Y) Y (Run.nil (aa (aE ?_))))))))
  refine f6 (dG.refl _) (.keep (be (ψ:=fun q=>jc i (fun j=>W q (i+j))) (fun q hq=>by rw [if_pos hq])) (SubM.refl _)) ?_
  refine cq (t:=4) (i:=0) Y Y ?_
  refine aT Tryz.results92 (.tmp Y (nK (fun a b=>W a (i+b)) (kZ (zx hI) H)))
set_option maxHeartbeats 4000000 in
theorem ur (p n:Nat) (R:Nat→Nat→Nat) (r:Nat→Int) (hp2:2≤p) (hp:p<2147483648) (hR : ∀ i j,i<n→j<n→R i j<p) (hn:n≤1024) (hs : ∀ i,bm (r i)) :
  Ok Tryz.prog 93 [bD n r,slT .one n (fun i=>jc n (R i)),one (.int .u64 (p:Nat))] (bD n (fun j=>(e7 p n R r n j:Int))):=by
 unfold bD
 refine Ok.enter Tryz.func93 Y Tryz.ntmps93 Y (fun w O => ?_)
 refine ae (ai (st (ah Y) Y (Run.nil (aa (ae (ai (st (ab Y) Y (st (aU Y) Y ?_))))))))
 refine bV n n Y Y Y Y (Nat.le_refl _) Y Y Z Y Y (fun bs => ?_)
 refine st (ah Y) Y (Run.nil (aa (ae (ae (ai (st (ab Y) Y (st (aU Y) Y (st (ab Y) Y (Run.nil ?_)))))))))
 refine aa (au (cn (Γ' := [(0,_),(1,_),(2,_),(6,_),(7,_),(19,_),(20,_),(21,_)]) DQ (SubM.refl _) ?_))
 refine bB (σ:=Nat) (Γk := [(0,_),(1,_),(2,_),(6,_),(7,_),(19,_),(20,_)]) DQ (fun i => [(21,one (.int .i64 (i:Nat)))]) (fun i M0=>(M0.set 0 (aI (some bs) 44 .one n n (fun j=>one (.int .u64 (e7 p n R r i j:Nat)))))) (fun i=>i≤n) (fun i=>n - i) (0) (Nat.zero_le _) DR (.keep DU (.nil)) (fun i hi => ?_)
 refine bQ (Γ' := [(21,_),(0,_),(1,_),(2,_),(6,_),(7,_),(19,_),(20,_)]) (M' := [_]) Y Y ?_
 by_cases hi2:i<n
 ·have hre:=gW p (r i) Z Z (hs i)
  have hk:(r i % (p:Int)).toNat<p:=by
   have:=Int.emod_nonneg (r i) (show (p:Int)≠0 by omega)
   have:=Int.emod_lt_of_pos (r i) (show 0<(p:Int) by omega)
   omega
  generalize hkk:(r i % (p:Int)).toNat=k at *
  refine ae (ai (st (sT Z (a7 Y Y)) Y (Run.nil (aa (ae (aH Y (az (aa (ae ?_)))))))))
  refine au (ae (ai (st (ab Y) Y (st (aC Y Y Z) Y (st (aM Y) Y ?_)))))
  refine aG (T:=37) Y (ltN Y) (fun b9 => ?_)
  refine st (ah Y) Y (aA 0 Y Y Y Y Y (leN Y) Y (Run.nil (aa (ae (ai (st (ab Y) Y (st (ak 0 Y Y Y) Y ?_)))))))
  refine st (am (hre) Y ⟨VT.le_refl _,VT.le_refl _,trivial⟩) Y ?_
  refine st (ah Y) Y (Run.nil (aa (ae (ai (st (ab Y) Y (st (ab Y) Y (st (aC Y Y Z) Y (st (aM Y) Y (st (aU Y) Y ?_)))))))))
  refine st (ab Y) Y (Run.nil (aa (au (cn (Γ' := [(0,_),(1,_),(2,_),(6,_),(7,_),(10,_),(19,_),(20,_),(21,_),(32,_),(33,_),(34,_)]) DQ (SubM.refl _) ?_))))
  refine bB (σ:=Nat) (Γk := [(0,_),(1,_),(2,_),(6,_),(7,_),(10,_),(19,_),(20,_),(21,_),(32,_),(33,_)]) DQ (fun j => [(34,one (.int .i64 (j:Nat)))]) (fun j M0=>(M0.set 1 (aI (some bs) 44 .one n n (fun q=>one (.int .u64 ((if q<j then (e7 p n R r i q+k*R i q % p) % p else e7 p n R r i q:Nat))))))) (fun j=>j≤n) (fun j=>n - j) (0) (Nat.zero_le _) DR (.keep DU (.keep DU (.nil))) (fun j hj => ?_)
  refine bQ (Γ' := [(34,_),(0,_),(1,_),(2,_),(6,_),(7,_),(10,_),(19,_),(20,_),(21,_),(32,_),(33,_)]) (M' := [_,_]) Y Y ?_
  by_cases hjn:j<n
  ·have h1:=hR i j hi2 hjn
   have h2:e7 p n R r i j<p:=kc hp2 i j
   have h3:k*R i j % p<p:=Nat.mod_lt _ Z
   have hm:=it p k (R i j) Z Z Z Z
   have ha:=vq p (e7 p n R r i j) (k*R i j % p) Z Z Z Z
   refine ae (ai (st (sT Z (a7 Y Y)) Y (Run.nil (aa (ae (aH Y (az (aa (ae ?_)))))))))
   refine au (ae (ai (st (ab Y) Y (st (aC Y Y Z) Y (st (aM Y) Y (st (ah Y) Y (st (ah Y) Y (Run.nil (aa ?_)))))))))
   refine a6 12 aZ X S (st (ab Y) Y (st (ab Y) Y (st (ab Y) Y (st (ab Y) Y (st (ab Y) Y (st (ao Y Y Z) Y (st (bh 1 Y Y Z) Y (st (ab Y) Y (st (ab Y) Y ?_)))))))))
   refine st (ab Y) Y ?_
   refine st (am (hm) Y ⟨VT.le_refl _,VT.le_refl _,VT.le_refl _,trivial⟩) Y ?_
   refine st (am (ha) Y ⟨VT.le_refl _,(ar (by rw [if_neg (Nat.lt_irrefl j)])),VT.le_refl _,trivial⟩) Y ?_
   refine Run.nil (st (ao Y Y Z) Y ?_)
   (refine aw 1 Y Y Y ?_ Y ?_;omega)
   refine Run.nil (aD (aa (ai (st (bI _ 1 Y Y Z) Y (st (ab Y) Y (Run.nil ?_))))))
   refine aQ (j+1) Z Z DR (.keep DU (.keep (mv (G:=fun q=>(e7 p n R r i q+k*R i q % p) % p) (DP:=fun q=>e7 p n R r i q)) (.nil)))
  ·have hjn2:j=n:=by omega
   refine ae (ai (st (sF Z (a7 Y Y)) Y (Run.nil (aa (ae (aB Y (aX (av (av ?_)))))))))
   refine aF (aD (aa (ai (st (bI _ 1 Y Y Z) Y (st (ab Y) Y (Run.nil ?_))))))
   refine aQ (i+1) Z Z DR (.drop (.keep (be (fun q hq=>by rw [if_pos Z, ← hkk]; rfl)) (.nil)))
 ·have hin:i=n:=by omega
  subst hin
  refine ae (ai (st (sF Z (a7 Y Y)) Y (Run.nil (aa (ae (aB Y (aX (av (av ?_)))))))))
  refine aF (aa (ae (ai (st (ab Y) Y (st (aU Y) Y ?_)))))
  refine bV i i Y Y Y Y (Nat.le_refl _) Y Y Z Y Y (fun bd => ?_)
  refine st (ah Y) Y (Run.nil (aa (ae (ae (ai (st (ab Y) Y (st (cx Y) Y (st (ab Y) Y (Run.nil ?_)))))))))
  refine aa (au (cn (Γ' := [(6,_),(13,_),(57,_),(58,_),(59,_)]) DQ (SubM.refl _) ?_))
  refine bB (σ:=Nat) (Γk := [(6,_),(13,_),(57,_),(58,_)]) DQ (fun t => [(59,one (.int .i64 (t:Nat)))]) (fun t M0=>(M0.set 0 (aI (some bd) 37 (.agg 2) i i (fun q=>if q<t then aL (e7 p i R r i q:Int) else bJ)))) (fun t=>t≤i) (fun t=>i - t) (0) (Nat.zero_le _) DR (.keep (ec fun q hq=>by rw [if_neg (Nat.not_lt_zero q)]; exact jG _) (.keep DU (.nil))) (fun t ht => ?_)
  refine bQ (Γ' := [(59,_),(6,_),(13,_),(57,_),(58,_)]) (M' := [_,_]) Y Y ?_
  by_cases hti:t<i
  ·have h2:e7 p i R r i t<p:=kc hp2 i t
   have ho:=jn (e7 p i R r i t:Int) Z Z
   refine ae (ai (st (sT Z (a7 Y Y)) Y (Run.nil (aa (ae (aH Y (az (aa (ae ?_)))))))))
   refine au (ae (ai (st (ab Y) Y (st (ao Y Y Z) Y (st (bh 1 Y Y Z) Y (st (ah Y) Y (st (ah Y) Y (Run.nil (aa ?_)))))))))
   refine ai (st (ab Y) Y (st (ab Y) Y (st (ab Y) Y (st (ed Y Z Z) Y ?_))))
   refine st (am (ho) Y ⟨VT.le_refl _,trivial⟩) Y ?_
   refine st (ao Y Y Z) Y ?_
   (refine aw 0 Y Y Y ?_ Y ?_;omega)
   refine Run.nil (aD (aa (ai (st (bI _ 1 Y Y Z) Y (st (ab Y) Y (Run.nil ?_))))))
   refine aQ (t+1) Z Z DR (.keep (oF (G:=fun q=>aL (e7 p i R r i q:Int))) (.keep DU (.nil)))
  ·refine ae (ai (st (sF Z (a7 Y Y)) Y (Run.nil (aa (ae (aB Y (aX (av (av ?_)))))))))
   refine aF (aa (ae (ai (st (ab Y) Y (st (ah Y) Y (Run.nil (aa (aE ?_))))))))
   refine f6 (dG.refl _) (.keep (be (ψ:=fun q=>aL (e7 p i R r i q:Int)) (fun q hq=>by rw [if_pos Z])) (SubM.refl _)) ?_
   refine cq (t:=6) (i:=0) Y Y ?_
   refine aT Tryz.results93 (.tmp Y H)
set_option maxHeartbeats 1000000 in
theorem w6 (d:Int) (p:Nat) (hd:bm d) (hp:bf cB 2147483648=p) (hp0:0<p) (hp':p<2147483648) (h:d % (p:Int)≠0):Ok Tryz.prog 56 [aL d] (one (.int .u64 (p:Nat))):=by
 have hb:=mB 2147483648 S
 rw [hp] at hb
 have hr:=gW p d hp0 Z hd
 have hz:(d % (p:Int)).toNat≠0:=by
  have:=Int.emod_nonneg d (show (p:Int)≠0 by omega)
  omega
 generalize (d % (p:Int)).toNat=k at *
 refine Ok.enter Tryz.func56 Y Tryz.ntmps56 Y (fun w O => ?_)
 refine ae (ai ?_)
 refine gC Y Y (ltN Y) (fun b1 => ?_)
 refine st (ah Y) Y (Run.nil (aa (ig (ae (ai ?_)))))
 refine st (am (hb) Y ⟨VT.le_refl _,trivial⟩) Y ?_
 refine st (ah Y) Y (Run.nil (aa (ae (jU (aa (ae (ae (ai (st (ab Y) Y ?_)))))))))
 refine st (ak 0 Y Y Y) Y ?_
 refine st (am (hr) Y ⟨VT.le_refl _,VT.le_refl _,trivial⟩) Y ?_
 refine st (sF Z (ci Y Y)) Y (st (ab Y) Y (sn0 Y Y Y Y Y (sn0 Y Y Y Y Y (st (bF Y Y) Y (Run.nil (aa (aB Y (az (aa ?_)))))))))
 refine ae (ai (st (ab Y) Y (st (ah Y) Y (Run.nil (aa (aE (ee ?_)))))))
 refine aT Tryz.results56 (.tmp Y H)
end Tor
end
section
namespace Tor
open Go Go.RowKit Go.Proofs
theorem kd (l:List Int) (n:Nat):(dig l n).natAbs≤9:=by
 unfold dig;rw [Int.natAbs_tmod]
 show (l.getD n 0).natAbs % 10≤9
 omega
theorem zA (l:List Int) (n:Nat):lz 1 (dig l n):=cr (k:=1) (by have:=kd l n;omega)
theorem oG {B:Nat} {f:Nat→Int} (h : ∀ k,(f k).natAbs≤B) : ∀ n,(bA n f).natAbs≤n*B
 | 0 => Nat.zero_le _
 | n + 1 => by
  have h1:=oG h n
  have h2:=h n
  rw [ka,Nat.succ_mul]
  omega
attribute [local irreducible] Tor.J Tor.PJ Tor.aK Tor.one Tor.slT Tor.bO Tor.bC Tor.bv Tor.exT Tor.cd Tor.eP Tor.aR Tor.aI Tor.slV Tor.VT.le Tor.Ret Tor.bJ Tor.xO
attribute [local irreducible] aL bD
set_option maxHeartbeats 4000000 in
theorem oH (r c:Nat) (l:List Int):Ok Tryz.prog 9 [oB r c l] (bR (r % 5) (r % 5) (fun i j=>dig l (i*(r % 5)+j))):=by
 have h:=ou (r % 5) (r % 5) l Z Z
 have h5:=Du r
 have hr:r % 5<5:=Nat.mod_lt _ S
 unfold oB bR at *
 refine Ok.enter Tryz.func9 Y Tryz.ntmps9 Y (fun w O => ?_)
 refine ae (ai ?_)
 refine aS Y Y (ltN Y) (fun b1 => ?_)
 refine bq (T:=30) Y Y Y (fun b2 => ?_)
 refine Run.nil (aa (ae (ai (st (aj Y) Y (st (ak 1 Y Y Y) Y (st (fC 5 Y Y Y S) Y (st (ed Y Z Z) Y (st (aj Y) Y (st (ak 1 Y Y Y) Y ?_)))))))))
 refine st (fC 5 Y Y Y S) Y (st (ed Y Z Z) Y (st (aj Y) Y (st (ak 1 Y Y Y) Y ?_)))
 refine st (am (h) Y ⟨VT.le_refl _,VT.le_refl _,VT.le_refl _,trivial⟩) Y ?_
 refine a4 0 Y Y Y Y (Run.nil (aa (aE ?_)))
 refine aT Tryz.results9 (.cellW 0 Y Y H)
end Tor
end
section
namespace Tor
open Go Go.RowKit Go.Proofs
theorem Bi (n m:Nat) (f:Nat→Nat→Int):bA n (fun i=>bA m (fun j=>f i j))=bA m (fun j=>bA n (fun i=>f i j)):=by
 induction n with
 | zero => exact ((dU (n := m) (f := fun _ => (0 : Int)) (g := fun _ => (0 : Int) * 0) (fun _ _ => rfl)).trans ((dV m 0 _).trans (Int.zero_mul _))).symm
 | succ n ih => rw [bA, ih, ← iu]; rfl
abbrev dgs (p n:Nat) (R:Nat→Nat→Nat) (r:Nat→Int):Nat→Int:=fun j=>(e7 p n R r n j:Int)
def stR (p n:Nat) (F:Nat→Nat→Int) (R:Nat→Nat→Nat) (b:Nat→Int):Nat→Nat→Int
 | 0 => b
 | k + 1 => fun i => (stR p n F R b k i - bA n (fun t => dgs p n R (stR p n F R b k) t * F t i)) / (p : Int)
theorem qa {p n:Nat} {R:Nat→Nat→Nat} {r:Nat→Int} (hp:0<p) : ∀ m j,(p:Int)∣(e7 p n R r m j:Int) - bA m (fun i=>r i*(R i j:Int))
 | 0, j => ⟨0, by simp [e7, bA]⟩
 | m + 1, j => by
  have h1:=qa (n:=n) (R:=R) (r:=r) hp m j
  have h2:(p:Int)∣(e7 p n R r (m+1) j:Int) - ((e7 p n R r m j:Int)+(((r m % (p:Int)).toNat*R m j % p:Nat):Int)):=by
   have:=fY (e7 p n R r m j+(r m % (p:Int)).toNat*R m j % p) p
   rwa [Int.natCast_add] at this
  have h3:=fY ((r m % (p:Int)).toNat*R m j) p
  have h4:(p:Int)∣(((r m % (p:Int)).toNat*R m j:Nat):Int) - r m*(R m j:Int):=by
   rw [Int.natCast_mul,Int.toNat_of_nonneg (Int.emod_nonneg _ Z)]
   refine d5 _ ⟨-(r m / (p:Int)),?_⟩
   have:=Int.mul_ediv_add_emod (r m) (p:Int)
   rw [Int.mul_neg]; omega
  obtain ⟨a,ha⟩:=h1
  obtain ⟨c,hc⟩:=h2
  obtain ⟨d,hd⟩:=jK h3 h4
  refine ⟨a+c+d,?_⟩
  rw [bA,Int.mul_add,Int.mul_add]
  omega
theorem w7 {p n:Nat} {F:Nat→Nat→Int} {R:Nat→Nat→Nat} {r:Nat→Int} (hp:0<p) (hR:w5 p n F R) {i:Nat} (hi:i<n):(p:Int)∣r i - bA n (fun t=>dgs p n R r t*F t i):=by
 have h1:(p:Int)∣bA n (fun t=>dgs p n R r t*F t i) - bA n (fun t=>bA n (fun k=>r k*(R k t:Int))*F t i):=gY fun t _=>d5 _ (qa hp n t)
 have h2:bA n (fun t=>bA n (fun k=>r k*(R k t:Int))*F t i)=bA n (fun k=>r k*bA n (fun t=>(R k t:Int)*F t i)):=by
  have e1:(fun t=>bA n (fun k=>r k*(R k t:Int))*F t i)=fun t=>bA n (fun k=>r k*((R k t:Int)*F t i)):=by
   funext t
   rw [Int.mul_comm, ← dV]
   exact congrArg (bA n) (funext fun k=>by rw [Int.mul_comm (F t i),Int.mul_assoc])
  have e2:(fun k=>r k*bA n (fun t=>(R k t:Int)*F t i))=fun k=>bA n (fun t=>r k*((R k t:Int)*F t i)):=by
   funext k
   rw [dV]
  rw [e1,e2]
  exact Bi n n _
 have h3:(p:Int)∣bA n (fun k=>r k*bA n (fun t=>(R k t:Int)*F t i)) - bA n (fun k=>r k*(if k=i then 1 else 0)):=gY fun k hk=>by
  have:=d5 (r k) (hR.2 k i hk hi)
  rwa [Int.mul_comm _ (r k),Int.mul_comm _ (r k)] at this
 have h4:bA n (fun k=>r k*(if k=i then (1:Int) else 0))=r i:=by
  rw [gZ hi fun k _ hne=>by rw [if_neg hne,Int.mul_zero],if_pos Y,Int.mul_one]
 rw [h4] at h3
 rw [h2] at h1
 exact jL (jK h1 h3)
theorem zB {p n:Nat} {F:Nat→Nat→Int} {R:Nat→Nat→Nat} {b:Nat→Int} (hp:0<p) (hR:w5 p n F R) (k:Nat) {i:Nat} (hi:i<n) :
  stR p n F R b k i=bA n (fun t=>dgs p n R (stR p n F R b k) t*F t i)+(p:Int)*stR p n F R b (k+1) i:=by
 have h:=Int.mul_ediv_cancel' (w7 (r:=stR p n F R b k) hp hR hi)
 show _=_+(p:Int)*((stR p n F R b k i - bA n (fun t=>dgs p n R (stR p n F R b k) t*F t i)) / (p:Int))
 rw [h]; omega
theorem zC {p n:Nat} {F:Nat→Nat→Int} {R:Nat→Nat→Nat} {b:Nat→Int} (hp:2≤p) (hn:n≤16) (hF : ∀ i j,(F i j).natAbs≤1099511627776) (hb : ∀ i,(b i).natAbs≤1152921504606846976) : ∀ k i,(stR p n F R b k i).natAbs≤2305843009213693952
 | 0, i => Nat.le_trans (hb i) S
 | k + 1, i => by
  have h1:=zC (R:=R) hp hn hF hb k i
  have h2:=oG (B:=p*1099511627776) (f:=fun t=>dgs p n R (stR p n F R b k) t*F t i) (fun t=>by
   rw [Int.natAbs_mul]
   have h3:e7 p n R (stR p n F R b k) n t<p:=kc hp n t
   exact Nat.mul_le_mul (by show (e7 p n R (stR p n F R b k) n t:Int).natAbs≤p;omega) (hF t i)) n
  replace h2:=Nat.le_trans h2 (Nat.mul_le_mul_right (p*1099511627776) hn)
  show ((stR p n F R b k i - bA n (fun t=>dgs p n R (stR p n F R b k) t*F t i)) / (p:Int)).natAbs≤_
  generalize bA n (fun t=>dgs p n R (stR p n F R b k) t*F t i)=s at *
  generalize stR p n F R b k i=r at *
  have h4:=Int.mul_ediv_add_emod (r - s) (p:Int)
  have h5:=Int.emod_nonneg (r - s) (show (p:Int)≠0 by omega)
  have h6:=Int.emod_lt_of_pos (r - s) (show 0<(p:Int) by omega)
  generalize (r - s) / (p:Int)=q at *
  generalize (r - s) % (p:Int)=m at *
  by_cases hq:0≤q - 17592186044416
  ·have h7:2*(q - 17592186044416)≤(p:Int)*(q - 17592186044416):=Int.mul_le_mul_of_nonneg_right Z hq
   rw [Int.mul_sub (p:Int)] at h7
   omega
  ·by_cases hq2:0 ≤ -(q+17592186044417)
   ·have h7:2*(-(q+17592186044417))≤(p:Int)*(-(q+17592186044417)):=Int.mul_le_mul_of_nonneg_right Z hq2
    rw [Int.mul_neg (p:Int),Int.mul_add (p:Int)] at h7
    omega
   ·omega
def g7 (p n:Nat) (F:Nat→Nat→Int) (b:Nat→Int) (pre:List (Nat→Int)):Prop := ∃ R,w5 p n F R∧pre=(List.range pre.length).map fun k=>dgs p n R (stR p n F R b k)
def smL (p:Nat) (pre:List (Nat→Int)) (j:Nat):Int:=bA pre.length (fun i=>(p:Int)^i*pre.getD i (fun _=>0) j)
theorem Bj {p j:Nat} : smL p [] j=0:=rfl
theorem oI {p:Nat} {pre:List (Nat→Int)} {x:Nat→Int} {j:Nat} : smL p (pre ++ [x]) j=smL p pre j+(p:Int)^pre.length*x j:=by
 unfold smL
 rw [List.length_append,show pre.length + [x].length=pre.length+1 from rfl,bA]
 congr 1
 ·exact dU fun i hi=>by rw [List.getD_eq_getElem?_getD,List.getElem?_append_left hi, ← List.getD_eq_getElem?_getD]
 ·rw [List.getD_eq_getElem?_getD,List.getElem?_append_right (Nat.le_refl _),Nat.sub_self]; rfl
theorem g7.snoc {p n:Nat} {F:Nat→Nat→Int} {b:Nat→Int} {R:Nat→Nat→Nat} (hR:w5 p n F R) (k:Nat):g7 p n F b ((List.range k).map fun k=>dgs p n R (stR p n F R b k)):=⟨R,hR,by rw [List.length_map,List.length_range]⟩
theorem fJ {α:Type} {f:Nat→α} {k:Nat} : (List.range k).map f ++ [f k]=(List.range (k+1)).map f:=by rw [List.range_succ,List.map_append]; rfl
theorem g7.last {p n:Nat} {F:Nat→Nat→Int} {b:Nat→Int} {pre:List (Nat→Int)} {x:Nat→Int} (hp:2≤p) (h:g7 p n F b (pre ++ [x])) : ∀ j,0≤x j∧x j<p:=by
 obtain ⟨R,hR,he⟩:=h
 rw [List.length_append,show pre.length + [x].length=pre.length+1 from rfl, ← fJ] at he
 have:=List.append_inj_right' he Y
 cases this
 intro j
 have h3:e7 p n R (stR p n F R b pre.length) n j<p:=kc hp n j
 exact ⟨by show 0≤(e7 p n R (stR p n F R b pre.length) n j:Int);omega,by show (e7 p n R (stR p n F R b pre.length) n j:Int)<p;omega⟩
theorem g7.sum {p n:Nat} {F:Nat→Nat→Int} {b:Nat→Int} {pre:List (Nat→Int)} (hp:0<p) (h:g7 p n F b pre) : ∀ i,i<n→((p:Int)^pre.length)∣b i - bA n (fun t=>smL p pre t*F t i):=by
 obtain ⟨R,hR,he⟩:=h
 generalize pre.length=k at *
 subst he
 intro i hi
 refine ⟨stR p n F R b k i,?_⟩
 induction k with
 | zero => rw [dU (g := fun _ => (0 : Int) * 0) (fun t _ => by rw [List.range_zero, List.map_nil, Bj, Int.zero_mul, Int.zero_mul]), dV]; simp [stR]
 | succ k ih =>
  rw [← fJ]
  have e:(fun t=>smL p ((List.range k).map (fun k=>dgs p n R (stR p n F R b k)) ++ [dgs p n R (stR p n F R b k)]) t*F t i)=fun t=>smL p ((List.range k).map fun k=>dgs p n R (stR p n F R b k)) t*F t i+(p:Int)^k*(dgs p n R (stR p n F R b k) t*F t i):=by
   funext t
   rw [oI,Int.add_mul,List.length_map,List.length_range,Int.mul_assoc]
  rw [e,iu,dV, ← Int.sub_sub,ih,zB hp hR k hi,Int.pow_succ,Int.mul_add,Int.mul_assoc]
  omega
end Tor
end
section
set_option linter.unusedSectionVars false
namespace Tor
open Go Go.RowKit
structure KeepZ (DL:List Nat) (W:World) (Z':List Nat) (W':World):Prop where
 os:W'.os=W.os
 tape:W'.tape=W.tape
 output:W'.output=W.output
 size:W.heap.size≤W'.heap.size
 block : ∀ b,b<W.heap.size→b ∉ DL→W'.heap[b]? = W.heap[b]?
 own : ∀ b∈Z',b<W'.heap.size∧(b∈DL∨W.heap.size≤b)
section
variable {P:Program} {E:Env} {D:List Deferred} {Γ:Ctx} {M:Mem} {Q:Exit→Act→World→Prop} {α σ:Type}
def rk (P:Program) (l:Nat) (Ψ:α→VT) (Good:List α→Prop) (J:List α × List Nat→World→Prop) (Jx:List α→World→Prop):Prop :=
 ∀ pre x v DL W,J (pre,DL) W→Good (pre ++ [x])→(Ψ x).p v (hid DL (cm W))→YieldAt Fence.wide 7 P l #[v] W fun e W'=>(e = .returned (.bool true) ∧ ∃ Z',J (pre ++ [x],Z') W'∧KeepZ DL W Z' W')∨(e = .returned (.bool false)∧Jx (pre ++ [x]) W')
def OkZ (P:Program) (gf:FuncId) (cs:List VT) (Ψ:α→VT) (Good:List α→Prop) (N:Nat):Prop :=
 ∀ (w:World) (O:List Nat) (ca:List Value),e8 cs ca (hid O (cm w)) →
 ∀ (l:Nat) (J:List α × List Nat→World→Prop) (Jx:List α→World→Prop) (DL:List Nat) (W:World),Ext w W→(∀ b∈DL,b<W.heap.size∧(b∈O∨w.heap.size≤b))→AbidesFrom W.heap.size J→AbidesFrom W.heap.size Jx →
  (∀ s W1,J s W1→s.1.length<N)→rk P l Ψ Good J Jx→J ([],DL) W →
  CallsIn Fence.wide 8 P gf (#[.func (.yield l) #[] #[]] ++ ca.toArray) W fun e W'=>(∃ v,e = .returned v) ∧ ∃ pre,Jx pre W'
def Dw (I:List α→List Nat→World→Prop) (Ix:Code→List α→World→Prop) (xs:List α) (DL:List Nat) (W:World):Exit→Act→World→Prop
 | .normal, _, W' => KeepsOthers W W' ∧ ∃ Z', KeepZ DL W Z' W' ∧ I xs Z' W'
 | .ret, _, W' => KeepsOthers W W' ∧ Ix .ret xs W'
 | .exit id, _, W' => KeepsOthers W W' ∧ Ix (.exit id) xs W'
 | _, _, _ => False
theorem CU {g:Operand} {ps:Array Tmp} {assign body:Code} {a:Act} {w:World} {gf:Nat} {ca:List Value} (hg:a.eval g = .func (.func gf) #[] ca.toArray) (eg : ∀ args w,(callFunc gf args).run P w = .ok (.enter gf args) w)
  {Ψ:α→VT} {Good:List α→Prop} {N:Nat} {cs:List VT} {O:List Nat} (hseq:OkZ P gf cs Ψ Good N) (hca:e8 cs ca (hid O (cm w))) (hps:ps.size=1)
  (I:List α→List Nat→World→Prop) (Ix:Code→List α→World→Prop) (hI : ∀ DL,OwnFrom w.heap.size (fun pre=>I pre DL)) (hIx : ∀ c,OwnFrom w.heap.size (Ix c)) (hN : ∀ pre DL W,I pre DL W→pre.length<N)
  (hZ : ∀ b∈O,b<w.heap.size) (h0:I [] O w) (a1:Value→Act)
  (hassign : ∀ (l:Nat) (x:Value) (W:World) (K:Act→World→Prop),K (a1 x) W→assign.wpIn (Fence.wide.inRound l) 7 P (Exit.then K (fun _ _ _=>False)) { tmps:=(ps.zip #[x]).foldl (fun t (p,v)=>t.setIfInBounds p v) a.tmps,defers := [] } W)
  (hbody : ∀ (l:Nat) (pre:List α) (x:α) (v:Value) (DL:List Nat) (W:World),I pre DL W→Good (pre ++ [x])→(Ψ x).p v (hid DL (cm W))→body.wpIn (Fence.wide.inRound l) 7 P (Dw I Ix (pre ++ [x]) DL W) (a1 v) W)
  (hstop : ∀ (D:Nat) (c:Code) (pre:List α) (W:World),w.heap.size≤D→Ix c pre W→W.heap[D]? = some (.deferred (some []))→c.wpIn Fence.wide 9 P Q { a with defers := { target := .collected D,args := #[] } :: a.defers } W) :
  (Code.rangeFunc g ps assign body).wpIn Fence.wide 9 P Q a w:=by
 refine wpIn_rangeFunc fun fn hfn => ?_
 let B:=w.heap.size
 let rec0:LoopState→Option Code→Loop:=fun st pe => { state:=st,pending:=pe,fn,tmps:=a.tmps,params:=ps,assign,body,defers:=B }
 let cl:LoopState→Option Code→World→Prop:=fun st pe W=>W.heap[B+1]? = some (.loop (rec0 st pe))∧W.heap[B]? = some (.deferred (some []))
 let W1:=(w.alloc (.deferred (some []))).alloc (.loop (rec0 .ready none))
 have c1:cl .ready none W1 :=
  ⟨by have:=World.alloc_heap_new (w.alloc (.deferred (some []))) (.loop (rec0 .ready none));rwa [World.size_alloc] at this,(Below.heap_alloc _ _ _ (by simp [B])).trans (World.alloc_heap_new w _)⟩
 have hs1:W1.heap.size=B+2:=by show ((w.alloc _).alloc _).heap.size=_;rw [World.size_alloc,World.size_alloc]
 have hb1:Ext w W1:=⟨rfl,rfl,rfl,by rw [hs1]; exact Nat.le_add_right B 2,fun k hk=>(Below.heap_alloc _ _ _ (by rw [World.size_alloc]; omega)).trans (Below.heap_alloc _ _ _ hk)⟩
 have keepL : ∀ {st pe} {W W':World} {row:Option Nat},cl st pe W→W.grownBy W' row→(∀ r,row=some r → ∃ o:Obj,W.heap[r]? = some o∧o.isCells=false∧o.isWalk=true)→cl st pe W':=fun hc hg hr =>
  ⟨(grownBy_keeps hg (fun r e=>let ⟨o,h1,_,h3⟩:=hr r e;⟨o,h1,h3⟩) hc.1 Y).trans hc.1,(grownBy_keeps hg (fun r e=>let ⟨o,h1,_,h3⟩:=hr r e;⟨o,h1,h3⟩) hc.2 Y).trans hc.2⟩
 have rows : ∀ {W:World} {row:Option Nat},(∀ r,row=some r→W1.heap.size≤r ∧ ∃ o:Obj,W.heap[r]? = some o∧o.isWalk=true) →
   (∀ r,row=some r→w.heap.size≤r ∧ ∃ o:Obj,W.heap[r]? = some o∧o.isCells=false)∧(∀ r,row=some r → ∃ o:Obj,W.heap[r]? = some o∧o.isCells=false∧o.isWalk=true):=fun hr =>
  ⟨fun r e=>let ⟨h1,o,h2,h3⟩:=hr r e;⟨by rw [hs1] at h1;show B≤r;omega,o,h2,Obj.not_cells_of_walk h3⟩,fun r e=>let ⟨_,o,h2,h3⟩:=hr r e;⟨o,h2,Obj.not_cells_of_walk h3,h3⟩⟩
 refine ⟨B+1, [{ target := .collected B,args := #[] }],W1, { target := .fn (.func gf) ca.toArray,args := #[.func (.yield (B+1)) #[] #[]] },W1,gf, #[.func (.yield (B+1)) #[] #[]] ++ ca.toArray,W1,
  run_enterLoop_outer _ _ _ _ _,by simp only [resolve,hg]; simp [go_sem],fun f' hf'=>trivial,by simp [invoke,go_sem,eg],fun _=>by omega,?_⟩
 refine (hseq w O ca hca (B+1) (fun s W => ∃ Zc,s.2=(B+1) :: B :: Zc∧I s.1 Zc W∧cl .ready none W) (fun pre W => ∃ c,Ix c pre W∧cl .done (some c) W) ((B+1) :: B :: O) W1 hb1 (fun b hb => ?_)
  (fun s A A' row hs hg' hr=>let ⟨Zc,e,h1,h2⟩:=hs;⟨Zc,e,hI Zc s.1 A A' row h1 hg' (rows hr).1,keepL h2 hg' (rows hr).2⟩) (fun s A A' row hs hg' hr=>let ⟨c,h1,h2⟩:=hs;⟨c,hIx c s A A' row h1 hg' (rows hr).1,keepL h2 hg' (rows hr).2⟩)
  (fun s W hs=>let ⟨Zc,_,h1,_⟩:=hs;hN s.1 Zc W h1) ?_ ⟨O,rfl,(hI O).alloc _ ((hI O).alloc _ h0),c1⟩).mono ?_
 ·rw [hs1]
  rcases List.mem_cons.1 hb with rfl | hb
  ·exact ⟨by omega, .inr (by show B≤B+1;omega)⟩
  ·rcases List.mem_cons.1 hb with rfl | hb
   ·exact ⟨by omega, .inr (Nat.le_refl _)⟩
   ·have:=hZ b hb
    exact ⟨by show b<w.heap.size+2;omega, .inl hb⟩
 ·rintro pre x v DL W ⟨Zc,rfl,hi,hl,hk⟩ hgo hx
  dsimp only at hi
  have hlt:B+1<W.heap.size:=(Array.getElem?_eq_some_iff.1 hl).1
  refine ⟨fn,_,assign,body,run_yield (P:=P) (args := #[v]) hl hps.symm,roundIn_of_wpIn hfn (hassign _ v W _ ⟨_,run_beginRound hl Y,?_⟩)⟩
  have hl2:(W.putObj (B+1) (.loop { rec0 .ready none with state := .busy })).heap[B+1]? = some (.loop { rec0 .ready none with state := .busy }):=World.putObj_heap_same hlt
  have hk2:(W.putObj (B+1) (.loop { rec0 .ready none with state := .busy })).heap[B]? = some (.deferred (some [])):=(World.putObj_heap_other Z).trans hk
  have hx2:(Ψ x).p v (hid Zc (cm (W.putObj (B+1) (.loop { rec0 .ready none with state := .busy })))):=(Ψ x).mono (fun b y e=>by
   obtain ⟨h1,h2⟩:=de e
   refine eF (fun h=>h1 (List.mem_cons_of_mem _ (List.mem_cons_of_mem _ h))) ?_
   rw [eM (World.putObj_heap_other (fun e=>h1 (by rw [e]; exact List.mem_cons_self)))]
   exact h2) hx
  refine wpIn_mono (hbody _ pre x v Zc _ ((hI Zc).putObj _ hi Z hl Y) hgo hx2) ?_
  have fin : ∀ (jump:Option Code) (W3:World),KeepsOthers (W.putObj (B+1) (.loop { rec0 .ready none with state := .busy })) W3 →
    (Instr.endRound (B+1) jump).run P W3 = .ok (.bool jump.isNone) (W3.putObj (B+1) (.loop (rec0 (if jump.isNone then .ready else .done) jump))) ∧
    W3.heap[B+1]? = some (.loop { rec0 .ready none with state := .busy })∧cl (if jump.isNone then .ready else .done) jump (W3.putObj (B+1) (.loop (rec0 (if jump.isNone then .ready else .done) jump))):=fun jump W3 hk3=>by
   have hl3:=hk3.same _ _ hl2 Y
   exact ⟨run_endRound (P:=P) jump hl3,hl3,World.putObj_heap_same (Array.getElem?_eq_some_iff.1 hl3).1,(World.putObj_heap_other Z).trans (hk3.same _ _ hk2 Y)⟩
  have leave : ∀ (c:Code) (W3:World),KeepsOthers (W.putObj (B+1) (.loop { rec0 .ready none with state := .busy })) W3→Ix c (pre ++ [x]) W3 → ∃ v W4,(Instr.endRound (B+1) (some c)).run P W3 = .ok v W4 ∧
    ((Ending.returned v = .returned (.bool true) ∧ ∃ Z',(∃ Zc,Z'=(B+1) :: B :: Zc∧I (pre ++ [x]) Zc W4∧cl .ready none W4)∧KeepZ ((B+1) :: B :: Zc) W Z' W4)∨(Ending.returned v = .returned (.bool false) ∧ ∃ c,Ix c (pre ++ [x]) W4∧cl .done (some c) W4)):=fun c W3 hk3 hi3=>by
   obtain ⟨hr,hl3,hc4⟩:=fin (some c) W3 hk3
   exact ⟨_,_,hr, .inr ⟨rfl,c,(hIx _).putObj _ hi3 Z hl3 Y,hc4⟩⟩
  rintro e a3 W3 hp
  cases e with
  | normal =>
   obtain ⟨hk3,Z',kz,hi3⟩:=hp
   obtain ⟨hr,hl3,hc4⟩:=fin none W3 hk3
   refine ⟨_,_,hr, .inl ⟨rfl,(B+1) :: B :: Z',⟨Z',rfl,(hI Z').putObj _ hi3 Z hl3 Y,hc4⟩,kz.os,kz.tape,kz.output,?_,fun b hb hn => ?_,fun b hb => ?_⟩⟩
   ·have:=kz.size;simp only [World.putObj_size] at this ⊢; exact this
   ·have h1:b≠B+1:=fun e=>hn (by rw [e]; exact List.mem_cons_self)
    exact (World.putObj_heap_other h1).trans ((kz.block b (by rw [World.putObj_size]; exact hb) fun h=>hn (List.mem_cons_of_mem _ (List.mem_cons_of_mem _ h))).trans (World.putObj_heap_other h1))
   ·have hlt3:=(Array.getElem?_eq_some_iff.1 hl3).1
    rw [World.putObj_size]
    rcases List.mem_cons.1 hb with rfl | hb
    ·exact ⟨hlt3, .inl List.mem_cons_self⟩
    ·rcases List.mem_cons.1 hb with rfl | hb
     ·exact ⟨by omega, .inl (List.mem_cons_of_mem _ List.mem_cons_self)⟩
     ·obtain ⟨h1,h2⟩:=kz.own b hb
      rw [World.putObj_size] at h2
      exact ⟨h1,h2.imp (fun h=>List.mem_cons_of_mem _ (List.mem_cons_of_mem _ h)) id⟩
  | ret => exact leave .ret W3 hp.1 hp.2
  | exit id => exact leave (.exit id) W3 hp.1 hp.2
  | goto t => exact hp.elim
  | panic ch => exact hp.elim
  | outgrown => exact hp.elim
 ·rintro e W2 ⟨⟨v,rfl⟩,pre,c,hi,hl,hk⟩
  exact ⟨some c,_,run_endLoop (P:=P) hl (by simp [rec0]),hstop _ c pre _ (Nat.le_refl _) ((hIx c).putObj _ hi Z hl Y) ((World.putObj_heap_other Z).trans hk)⟩
theorem s6 {g:Operand} {p q id:Nat} {T:TypeId} {pos:String} {body:Code} {gf:FuncId} {cs:List VT} {Ψ:α→VT} {Good:List α→Prop} {N:Nat} [hF:Fn P gf]
  (hit:OkZ P gf cs Ψ Good N) (Ms:σ→Mem) [hc : ∀ s,CellM (Ms s)] (ok:List α→σ→Prop) (okx:Option Nat→List α→σ→Prop) (s0:σ) (hE:E.R=none) (hg:aN Γ g=some (iZ gf cs)) (hN : ∀ pre s,ok pre s→pre.length<N) (h0:ok [] s0) (hm:SubM M (Ms s0))
  (hp:Nat.ble (p+1) E.N=true) (hq:Nat.ble (q+1) E.N=true) (hnd:fO body=true)
  (hround : ∀ (l:Nat) (W:World) (pre:List α) (x:α) (s:σ),ok pre s→Good (pre ++ [x]) →
   J P ⟨W,E.O,aY (Ms s),E.N,some l⟩ [] ((q, Ψ x) :: (p, Ψ x) :: Γ) (Ms s) body (rV ⟨W,E.O,aY (Ms s),E.N,some l⟩ Ms ok okx (pre ++ [x])))
  (hret : ∀ (pre:List α) (s:σ) (b:Nat),okx none pre s→PJ E [m6 b] Γ (dfO b :: Ms s) .ret Q)
  (hexit : ∀ (id:Nat) (pre:List α) (s:σ) (b:Nat),okx (some id) pre s→PJ E [m6 b] Γ (dfO b :: Ms s) (.exit id) Q) :
  J P E [] Γ M (.rangeFunc g #[p] (.region id #[⟨some q, .assign (.tmp p),T,pos, #[],none⟩] false) body) Q:=by
 intro a w hS _
 rw [hE]
 show Code.wpIn Fence.wide 9 P _ Q a w
 obtain ⟨ca,hg0,hca⟩:=cF hS hg
 have hp:=Nat.le_of_ble_eq_true hp
 have hq:=Nat.le_of_ble_eq_true hq
 let E1:Env:=⟨w,E.O,aY M,E.N,none⟩
 have hS0:St E1 [] Γ M a w:=⟨⟨hS.base.mem,hS.base.nd,hS.base.dis,fun b hb => .inr hb,hS.base.ex,Fr.refl _ _⟩,hS.sz,hS.df,hS.tm⟩
 have own : ∀ (s:σ) (W W':World) (row:Option Nat),St E1 [] Γ (Ms s) a W→W.grownBy W' row→(∀ r,row=some r→w.heap.size≤r ∧ ∃ o:Obj,W.heap[r]? = some o∧o.isCells=false)→St E1 [] Γ (Ms s) a W':=fun s W W' row hs hgr hr=>St.grown (hc s) hs hgr (Nat.le_refl _) hr
 have fin : ∀ (s:σ) (b:Nat) (W:World),w.heap.size≤b→W.heap[b]? = some (.deferred (some []))→St E1 [] Γ (Ms s) a W→St E [m6 b] Γ (dfO b :: Ms s) { a with defers:=m6 b :: a.defers } W:=fun s b W hb hh hs =>
  St.mark (hc s) (hs.from_ hS.base) (Nat.le_trans hS.base.fr.size hb) (fun h=>by have:=hS.base.ex b (List.mem_append.2 (.inl h));omega) hh
 have hS1:St E1 [] Γ (Ms s0) a w:=hS0.sub (dG.refl _) hm
 refine CU (O:=E.O ++ aY M) hg0 (fun args w=>hF.run args w) hit hca Y
  (fun pre DL W => ∃ s,(∀ b∈E.O ++ aY (Ms s),b∈DL)∧ok pre s∧St E1 [] Γ (Ms s) a W)
  (fun c pre W=>match c with
   | .ret => ∃ s, okx none pre s ∧ St E1 [] Γ (Ms s) a W
   | .exit id => ∃ s, okx (some id) pre s ∧ St E1 [] Γ (Ms s) a W
   | _ => False)
  (fun DL pre W W' row hs hgr hr=>let ⟨s,h0,h1,h2⟩:=hs;⟨s,h0,h1,own s W W' row h2 hgr hr⟩) ?_ (fun pre DL W hs=>let ⟨s,_,h1,_⟩:=hs;hN pre s h1) hS.base.ex ⟨s0,fun b hb => ?_,h0,hS1⟩
  (fun v=>({ tmps:=a.tmps.setIfInBounds p v,defers := [] } : Act).put (some q) v) ?_ ?_ ?_
 ·rintro c pre W W' row hs hgr hr
  cases c <;> first
   | exact hs.elim
   | (obtain ⟨s, h1, h2⟩ := hs; exact ⟨s, h1, own s W W' row h2 hgr hr⟩)
 ·rcases List.mem_append.1 hb with h | h
  ·exact List.mem_append.2 (.inl h)
  ·exact List.mem_append.2 (.inr ((hS1.base.lo b h).resolve_left fun h3=>by
    have:=hS1.base.ex b (List.mem_append.2 (.inr h))
    have h3:w.heap.size≤b:=h3
    omega))
 ·intro l x W K hK
  refine wpIn_region (F:=fen (some l)) (kW (r:=some l) (.inr (by simp [fZ])) (fun ⟨_,_,h⟩=>h) _ _ _ ?_)
  have hv':(a.tmps.setIfInBounds p x).getD p undef=x:=by
   have:=hS.sz
   simp [Array.getD_eq_getD_getElem?,show p<a.tmps.size by omega]
  have e:List.range 1 = [0]:=rfl
  simp [wpOps,e,Oper.wp,Region.wanted,execOp,Act.eval,hv',Oper.upon,Exit.then]
  exact .inl hK
 ·rintro l pre x v DL W ⟨s,hz,hs,hSs⟩ hgo hx
  have hx:(Ψ x).p v (hid (E.O ++ aY (Ms s)) (cm W)):=(Ψ x).mono (kU hz) hx
  have hS1:St ⟨W,E.O,aY (Ms s),E.N,some l⟩ [] Γ (Ms s) { tmps:=a.tmps,defers := [] } W :=
   ⟨⟨hSs.base.mem,hSs.base.nd,hSs.base.dis,fun b hb => .inr hb,hSs.base.ex,Fr.refl _ _⟩,hSs.sz,rfl,hSs.tm⟩
  have hS2:=(hS1.put (Ext.refl W) (d:=p) hp (ψ:=Ψ x) (v:=v) hx).put (Ext.refl W) (d:=q) hq (ψ:=Ψ x) (v:=v) hx
  refine wpIn_mono (nR (m:=7) (hround l W pre x s hs hgo _ W hS2 (.inr hnd))) ?_
  have keep : ∀ (s':σ) (a':Act) (W':World),St ⟨W,E.O,aY (Ms s),E.N,some l⟩ [] [] (Ms s') a' W'→KeepsOthers W W'∧KeepZ DL W (E.O ++ aY (Ms s')) W'∧St E1 [] Γ (Ms s') a W':=by
   intro s' a' W' h'
   have hf:=h'.base.fr
   refine ⟨⟨hf.size,fun k o hk ho=>(hf.block k (Array.getElem?_eq_some_iff.1 hk).1 fun hm' => ?_).trans hk⟩,⟨hf.os,hf.tape,hf.output,hf.size,fun b hb hn=>hf.block b hb fun hm'=>hn (hz b (List.mem_append.2 (.inr hm'))),fun b hb=>⟨h'.base.ex b hb,?_⟩⟩,hSs.slots h'⟩
   ·obtain ⟨c,T,f,e⟩:=(hc s).get hSs.base hm'
    rw [hk] at e;cases e;cases ho
   ·rcases List.mem_append.1 hb with h | h
    ·exact .inl (hz b (List.mem_append.2 (.inl h)))
    ·rcases h'.base.lo b h with h3 | h3
     ·exact .inr h3
     ·exact .inl (hz b (List.mem_append.2 (.inr h3)))
  rintro e a' W' hp'
  cases e with
  | normal => obtain ⟨s', h1, h2⟩ := hp'; obtain ⟨k1, k2, k3⟩ := keep s' a' W' h2; exact ⟨k1, _, k2, s', fun b hb => hb, h1, k3⟩
  | ret => obtain ⟨s', h1, h2⟩ := hp'; obtain ⟨k1, k2, k3⟩ := keep s' a' W' h2; exact ⟨k1, s', h1, k3⟩
  | exit id => obtain ⟨s', h1, h2⟩ := hp'; obtain ⟨k1, k2, k3⟩ := keep s' a' W' h2; exact ⟨k1, s', h1, k3⟩
  | goto t => exact hp'.elim
  | panic ch => exact hp'.elim
  | outgrown => exact hp'.elim
 ·rintro b c pre W hb hx hh
  cases c <;> first
   | exact hx.elim
   | (obtain ⟨s, hs, hSs⟩ := hx; exact wpIn_ret (hret pre s b hs _ W (fin s b W hb hh hSs)))
   | (obtain ⟨s, hs, hSs⟩ := hx; exact wpIn_exit (hexit _ pre s b hs _ W (fin s b W hb hh hSs)))
/-! ### The function that yields -/
def RZ (Jx:List α→World→Prop) (e:Ending) (W:World):Prop:=(∃ v,e = .returned v) ∧ ∃ pre,Jx pre W
theorem OkZ.enter {Ψ:α→VT} {Good:List α→Prop} {f:FuncId} {fn:Func} {c:Code} {N Nr:Nat} {cs:List VT} (hf:P.funcs[f]? = some fn) (hb:fn.body=some c) (hN:fn.ntmps=N) (hle:Nat.ble (cs.length+1) N=true)
  (h : ∀ (W:World) (l:Nat) (J:List α × List Nat→World→Prop) (Jx:List α→World→Prop) (B:Nat) (DL:List Nat),AbidesFrom B J→AbidesFrom B Jx→(∀ s W,J s W→s.1.length<Nr)→rk P l Ψ Good J Jx→J ([],DL) W →
   Tor.J P ⟨W,DL, [],N,none⟩ [] ((0,one (.func (.yield l) #[] #[])) :: fa 1 cs) [] c (bodyPost P fn (RZ Jx))):OkZ P f cs Ψ Good Nr:=by
 intro w O ca hca l J Jx DL W hW hZ hA hAx hl hY h0
 have hv':e8 (one (.func (.yield l) #[] #[]) :: cs) (.func (.yield l) #[] #[] :: ca) (hid DL (cm W)) :=
  ⟨rfl,iH (fun b x e=>by
   obtain ⟨h1,h2⟩:=de e
   have:=ez h2
   exact eF (fun h=>(hZ b h).2.elim h1 (fun h3=>by omega)) (Ext.view hW _ _ h2)) hca⟩
 have hc:=Tor.jj (R:=RZ Jx) hf hb hN (O:=DL) (fun b hb=>(hZ b hb).1) hv' (Nat.le_of_ble_eq_true hle) (h W l J Jx _ DL hA hAx hl hY h0)
 have he:(#[Value.func (.yield l) #[] #[]] ++ ca.toArray)=(Value.func (.yield l) #[] #[] :: ca).toArray:=by simp
 rw [he]
 exact callsIn_wide.2 hc
theorem Bk {ops:Array Oper} {Ψ:α→VT} {Good:List α→Prop} {J:List α × List Nat→World→Prop} {Jx:List α→World→Prop} {l id m d N:Nat} {t x:Operand} {ats:Array TypeId} {ty:TypeId} {pos:String} {af:Array Edge} {pre:List α} {B:Nat} {W:World} {DL:List Nat} (v:α) (Γk:Ctx)
  (hY:rk P l Ψ Good J Jx) (hA:AbidesFrom B J) (hJ:J (pre,DL) W) (hgo:Good (pre ++ [v]))
  (hm:ops[m]? = some ⟨some d, .call ⟨.value t, #[x],ats⟩,ty,pos,af,none⟩) (hd:Nat.ble (d+1) N=true)
  (h:Run P ⟨W,DL, [],N,none⟩ ops false 0 [] Γ [] (ops.toList.take m) (fun D' Γ' M'=>D' = []∧M' = []∧aN Γ' t=some (one (.func (.yield l) #[] #[]))∧aN Γ' x=some (Ψ v)∧dG Γ' Γk))
  (h1 : ∀ W' Z',J (pre ++ [v],Z') W'→Run P ⟨W',Z', [],N,none⟩ ops false (m+1) [] ((d,one (.bool true)) :: Γk) [] (ops.toList.drop (m+1)) (fun D' Γ' M'=>PJ ⟨W',Z', [],N,none⟩ D' Γ' M' .normal Q))
  (h2 : ∀ W',Jx (pre ++ [v]) W'→Run P ⟨W', [], [],N,none⟩ ops false (m+1) [] [(d,one (.bool false))] [] (ops.toList.drop (m+1)) (fun D' Γ' M'=>PJ ⟨W', [], [],N,none⟩ D' Γ' M' .normal Q)) :
  Tor.J P ⟨W,DL, [],N,none⟩ [] Γ [] (.region id ops false) Q:=by
 intro a w hS _
 have hlt:m<ops.size:=(Array.getElem?_eq_some_iff.1 hm).1
 have hd:=Nat.le_of_ble_eq_true hd
 show Code.wpIn (fen none) 9 P _ Q a w
 refine wpIn_mono (wpIn_region ?_) ql
 have e:List.range ops.size=List.range' 0 (ops.toList.take m).length ++ (m :: List.range' (m+1) (ops.size - (m+1))):=by
  rw [List.range_eq_range',show (ops.toList.take m).length=m by simp;omega, ← List.range'_succ,show ops.size - (m+1)+1=ops.size - m by omega]
  have := @List.range'_append 0 m (ops.size - m) 1
  simp only [Nat.one_mul,Nat.zero_add] at this
  rw [this]; congr 1;omega
 rw [e]
 refine h.seqIn (.inl Y) (nrm Q) _ (fun j hj => ?_) jT (fun D' Γ' M' a w hK hS => ?_) a w hS
 ·have hj':j<m:=by simp at hj;omega
  simp [List.getElem?_take,hj']
 ·obtain ⟨rfl,rfl,ht,hx,hg⟩:=hK
  have e1:a.eval t = .func (.yield l) #[] #[]:=cF hS ht
  have e2:(Ψ v).p (a.eval x) (hid (DL ++ aY []) (cm w)):=cF hS hx
  rw [show DL ++ aY []=DL from List.append_nil DL] at e2
  obtain ⟨fn,tmps,assign,body,hy,hR⟩:=hY pre v _ DL w (pD hA hJ hS.base.fr.toExt) hgo e2
  have tail : ∀ (E':Env) (b:Bool) (Γ':Ctx) (a':Act) (W':World),E'.N=N→St E' [] ((d,one (.bool b)) :: Γ') [] a' W' →
    Run P E' ops false (m+1) [] ((d,one (.bool b)) :: Γ') [] (ops.toList.drop (m+1)) (fun D' Γ' M'=>PJ E' D' Γ' M' .normal Q) →
    wpOpsIn (fen none) 9 P ops (nrm Q) (List.range' (m+1) (ops.size - (m+1))) a' W':=by
   intro E' b Γ' a' W' hE' hS' hr
   have:=hr.seqIn (n:=9) (.inl Y) (nrm Q) [] (fun j _=>by simp [List.getElem?_drop]) jT (fun D' Γ' M' a w hK hS=>by simpa [wpOpsIn] using hK a w hS) a' W' hS'
   simpa using this
  rw [wpOpsIn_cons]
  unfold wpOpIn
  simp only [hm,cP (o:=⟨some d, .call ⟨.value t, #[x],ats⟩,ty,pos,af,none⟩) Y,if_true]
  refine ⟨fun f _=>qk f,?_⟩
  have hr:(Oper.semAt (fen none).round a.eval ⟨some d, .call ⟨.value t, #[x],ats⟩,ty,pos,af,none⟩).run P w = .ok (.round l fn tmps assign body) w:=by
   rw [l9,Oper.semAt_none]
   simpa [execOp,resolve,Deferred.ofValue,invoke,e1] using hy
  rw [hr]
  refine ⟨fun h=>(by cases h),RoundIn.mono (n:=8) (F:=Fence.wide) ⟨hR.1,fun c cs _=>hR.2 c cs (room_wide _)⟩ ?_⟩
  rintro e W' (⟨rfl,Z',hJ',hk⟩ | ⟨rfl,hJx'⟩)
  ·have hS':St ⟨W',Z', [],N,none⟩ [] Γk [] a W':=by
    refine ⟨⟨fun o ho=>(by cases ho),List.nodup_nil,fun b hb=>(by cases hb),fun b hb=>(by cases hb),fun b hb=>(hk.own b (by simpa using hb)).1,Fr.refl _ _⟩,hS.sz,hS.df,fun t φ ht => ?_⟩
    obtain ⟨φ',h3,h4⟩:=hg t φ ht
    refine φ.mono (fun b y e => ?_) (h4 _ _ (hS.tm t φ' h3))
    obtain ⟨h5,h6⟩:=de e
    have h7:=ez h6
    have h8:b ∉ DL:=fun h=>h5 (List.mem_append.2 (.inl h))
    refine eF (fun h => ?_) (by rw [eM (hk.block b h7 h8)]; exact h6)
    rcases (hk.own b (by simpa using h)).2 with h9 | h9
    ·exact h8 h9
    ·omega
   exact tail _ true _ _ W' Y (hS'.put (Ext.refl _) (d:=d) (show d<N from hd) (ψ:=one (.bool true)) Y) (h1 W' Z' hJ')
  ·have hS':St ⟨W', [], [],N,none⟩ [] [] [] a W' :=
    ⟨⟨fun o ho=>(by cases ho),List.nodup_nil,fun b hb=>(by cases hb),fun b hb=>(by cases hb),fun b hb=>(by cases hb),Fr.refl _ _⟩,hS.sz,hS.df,fun t φ ht=>(by cases ht)⟩
   exact tail _ false _ _ W' Y (hS'.put (Ext.refl _) (d:=d) (show d<N from hd) (ψ:=one (.bool false)) Y) (h2 W' hJx')
theorem zD {fn:Func} {B N:Nat} {W:World} {DL:List Nat} {Jx:List α→World→Prop} (hr:fn.results = #[]) (hA:AbidesFrom B Jx) {pre:List α} (hJ:Jx pre W):PJ ⟨W,DL, [],N,none⟩ [] Γ [] .ret (bodyPost P fn (RZ Jx)):=by
 intro a w hSt
 exact ⟨hSt.df, .tuple #[],by simp [results,hr],⟨_,rfl⟩,pre,pD hA hJ hSt.base.fr.toExt⟩
theorem Bl {c:Code} {N:Nat} {W0:World} {Z0:List Nat} (Ws:σ→World) (Zs:σ→List Nat) (G:σ→Ctx) (ok:σ→Prop) (μ:σ→Nat) (s0:σ) (hW:Ws s0=W0) (hZ:Zs s0=Z0) (h0:ok s0) (hg:dG Γ (G s0))
  (round : ∀ s,ok s→Tor.J P ⟨Ws s,Zs s, [],N,none⟩ [] (G s) [] c (Exit.then (fun a w => ∃ s',ok s'∧μ s'<μ s∧St ⟨Ws s',Zs s', [],N,none⟩ [] (G s') [] a w) Q)):Tor.J P ⟨W0,Z0, [],N,none⟩ [] Γ [] (.loop c) Q:=by
 subst hW hZ
 intro a w hS hd b k cs hro hb hr
 have key : ∀ n s,ok s→μ s=n → ∀ a w,St ⟨Ws s,Zs s, [],N,none⟩ [] (G s) [] a w →
   ∃ e a' w',Q e a' w'∧ArrivesIn (Machine.fenced P (fen none)) P (lone (b.atR a (.code c :: .inLoop c :: k)) cs w) b k cs e a' w':=by
  intro n
  induction n using Nat.strongRecOn with
  | _ n ih =>
   intro s hs hn a w hS
   obtain ⟨e,a1,w1,hq,harr⟩:=round s hs a w hS (.inl Y) b (.inLoop c :: k) cs hro hb hr
   cases e with
   | normal =>
    obtain ⟨s',hs',hlt,hS'⟩:=hq
    obtain ⟨e2,a2,w2,hq2,harr2⟩:=ih (μ s') (hn▸hlt) s' hs' Y a1 w1 hS'
    exact ⟨e2,a2,w2,hq2, .of_steps (StepsIn.trans harr (.one (fenced_calm hb hr Y) stepR_inLoop)) harr2⟩
   | exit id => exact ⟨_, a1, w1, hq, .pass (x := .inLoop c) Y (fun _ _ => .inl (by simp)) harr⟩
   | goto l => exact ⟨_, a1, w1, hq, .pass (x := .inLoop c) Y (fun _ _ => .inl (by simp)) harr⟩
   | ret => exact ⟨_, a1, w1, hq, .pass (x := .inLoop c) Y (fun _ _ => .inl (by simp)) harr⟩
   | panic ch => exact ⟨_, a1, w1, hq, .pass (x := .inLoop c) Y (fun _ _ => .inl (by simp)) harr⟩
   | outgrown => exact ⟨_, a1, w1, hq, .pass (x := .inLoop c) Y (fun _ _ => .inl (by simp)) harr⟩
 obtain ⟨e,a',w',hq,harr⟩:=key _ s0 h0 Y a w (hS.sub hg (SubM.refl _))
 exact ⟨e,a',w',hq, .of_steps (.one (fenced_calm hb hr Y) stepR_loop) harr⟩
theorem w8 {G:σ→Ctx} {ok:σ→Prop} {μ:σ→Nat} {N:Nat} {Ws:σ→World} {Zs:σ→List Nat} {s:σ} (s':σ) (h:ok s') (hμ:μ s'<μ s) (hg:dG Γ (G s')) (hE:E=⟨Ws s',Zs s', [],N,none⟩) :
  PJ E [] Γ [] .normal (Exit.then (fun a w => ∃ s',ok s'∧μ s'<μ s∧St ⟨Ws s',Zs s', [],N,none⟩ [] (G s') [] a w) Q):=fun a w hS=>⟨s',h,hμ,hE▸hS.sub hg (SubM.refl _)⟩
end
end Tor
end
section
namespace Tor
open Go Go.RowKit Go.Proofs
theorem zE {p n:Nat} {F:Nat→Nat→Int} {R:Nat→Nat→Nat} {r:Nat→Int} (hp2:2≤p) (hp:p<2147483648) (hn:n≤16) (hF : ∀ i j,(F i j).natAbs≤1099511627776) (i:Nat):(bA n (fun t=>dgs p n R r t*F t i)).natAbs≤37778931862957161709568 :=
 Nat.le_trans (oG (B:=2147483648*1099511627776) (fun t=>by
  rw [Int.natAbs_mul]
  have:e7 p n R r n t<p:=kc hp2 n t
  exact Nat.mul_le_mul (by show (e7 p n R r n t:Int).natAbs≤2147483648;omega) (hF t i)) n) (Nat.mul_le_mul_right (2147483648*1099511627776) hn)
theorem Ent.clo3 {Ms:Mem} {f:FuncId} {φ ψ φ' ψ' φ'' ψ'':VT} (h:Ent Ms φ ψ) (h':Ent Ms φ' ψ') (h'':Ent Ms φ'' ψ''):Ent Ms (iZ f [φ, φ', φ'']) (iZ f [ψ, ψ', ψ'']):=Ent.clo fun g h0 h1 vs ho hc=>by
 match vs,hc with
 | [v, v', v''], hc => exact ⟨h g h0 h1 v ho hc.1, h' g h0 h1 v' ho hc.2.1, h'' g h0 h1 v'' ho hc.2.2.1, trivial⟩
 | [], hc => exact hc.elim
 | [_], hc => exact hc.2.elim
 | [_, _], hc => exact hc.2.2.elim
 | _ :: _ :: _ :: _ :: _, hc => exact hc.2.2.2.elim
theorem qr.same {Ms:Mem} {cs:ck} : qr Ms cs cs:=fun q hq=>⟨q.2.2,hq,Ent.refl _⟩
abbrev DgZ:Type:=Nat × List Nat × World
attribute [local irreducible] Tor.J Tor.PJ Tor.aK Tor.one Tor.slT Tor.bO Tor.bC Tor.bv Tor.exT Tor.cd Tor.eP Tor.aR Tor.aI Tor.slV Tor.VT.le Tor.Ret Tor.bJ
attribute [local irreducible] aL
set_option maxHeartbeats 4000000 in
theorem oJ (p n:Nat) (F:Nat→Nat→Int) (b:Nat→Int) (N:Nat) (hpb:cB p=true) (hp2:2≤p) (hp:p<2147483648) (hinv:uh p) (hF:ui p n F) (hn:n≤16) (hs' : ∀ i j,(F i j).natAbs≤1099511627776) (hb : ∀ i,(b i).natAbs≤1152921504606846976) :
  OkZ Tryz.prog 91 [bO (.agg 3) (bR n n F),bO .one (one (.int .u64 (p:Nat))),bO .one (bD n b)] (bD n) (g7 p n F b) N:=by
 have hiv:=uq p n F hpb hp2 hp hinv hF Z (fun i j=>cY (hs' i j) U)
 unfold bR bD at *
 refine OkZ.enter Tryz.func91 Y Tryz.ntmps91 Y (fun W0 l J Jx B DL hA hAx hN hY h0 => ?_)
 refine ae ?_
 refine dN aZ X X ?_
 refine ux (fun B=>aM Y) Y Y ?_
 refine ux (fun B=>aM Y) Y Y ?_
 refine uxk (hiv) Y ⟨VT.le_refl _,VT.le_refl _,trivial⟩ Y ?_
 refine ux (fun B=>aM Y) Y Y ?_
 refine ux (fun B=>ed Y Z Z) Y Y ?_
 refine uxk (jn _ Z Z) Y ⟨VT.le_refl _,trivial⟩ Y ?_
 refine ua Y ?_
 refine ux (fun B=>ah Y) Y Y ?_
 refine us Y ?_
 refine RunU.nil (fun γ => ?_)
 refine cH (M' := [_]) Y (aa (ae (ai (st (aM Y) Y (st (ah Y) Y (Run.nil (aa (au ?_))))))))
 refine v6 (t:=5) Y (fun R=>pu (t:=5) Y (fun hR => ?_))
 refine B2 [_] (Kp := []) (Kp' := []) (List.Perm.refl _) (EntM.refl []) (v9.set (t:=6) Y (Ent.ptr List.mem_cons_self List.mem_cons_self)) ?_
 refine Bl (σ:=DgZ) (fun s=>s.2.2) (fun s=>s.2.1)
  (fun s => [(0,one (.func (.yield l) #[] #[])),(1,bO (.agg 3) (bR n n F)),(2,bO .one (one (.int .u64 (p:Nat)))),(5,slT .one n (fun i=>jc n (R i))),(6,bO (.agg 2) (aL (p:Nat))),(7,bD n (stR p n F R b s.1))])
  (fun s=>J ((List.range s.1).map fun k=>dgs p n R (stR p n F R b k),s.2.1) s.2.2) (fun s=>N - s.1) (0,DL,W0) Y Y h0 ?_ (fun s hs => ?_)
 ·exact .cons Y H (.cons Y H (.cons Y H (.cons Y H (.cons Y H (.cons Y H .nil)))))
 obtain ⟨k,DL,W⟩:=s
 dsimp only at hs ⊢
 have hkN:=hN _ _ hs
 rw [List.length_map,List.length_range] at hkN
 have hst:=zC (R:=R) hp2 hn hs' hb k
 have hdg:=ur p n R (stR p n F R b k) hp2 hp hR.1 Z (fun i=>cY (hst i) U)
 have htm:Ok Tryz.prog 94 [bD n (dgs p n R (stR p n F R b k)),bR n n F] (bv [bD n (fun j=>bA n (fun t=>dgs p n R (stR p n F R b k) t*F t j)),one (.int .i64 0)]):=by
  have h:=yS n (dgs p n R (stR p n F R b k)) n n F Z Z (fun j=>Nat.le_trans (show (e7 p n R (stR p n F R b k) n j:Int).natAbs≤2147483648 by
   have:e7 p n R (stR p n F R b k) n j<p:=kc hp2 n j
   omega) U) (fun i j=>Nat.le_trans (hs' i j) U)
  rw [decide_eq_true Y] at h
  exact h
 have hsl:=fun i=>Nat.le_trans (Nat.le_trans (Int.natAbs_sub_le (stR p n F R b k i) (bA n (fun t=>dgs p n R (stR p n F R b k) t*F t i))) (Nat.add_le_add (hst i) (zE hp2 hp hn hs' i))) (show 2305843009213693952+37778931862957161709568≤2^100 by decide)
 unfold bD bR at *
 refine au (ae (ai (st (ab Y) Y (st (ab Y) Y (st (aM Y) Y ?_)))))
 refine st (am (hdg) Y ⟨VT.le_refl _,VT.le_refl _,VT.le_refl _,trivial⟩) Y ?_
 refine st (ah Y) Y (Run.nil (aa (ae (ae ?_))))
 apply Bk (m:=2) (dgs p n R (stR p n F R b k)) [(0,_),(1,_),(2,_),(5,_),(6,_),(7,_),(8,_)] hY hA hs (by rw [fJ]; exact g7.snoc hR (k+1)) Y Y
 ·refine st (ab Y) Y (st (ab Y) Y (Run.nil ?_))
  refine ⟨rfl,?_⟩
  refine ⟨rfl,?_⟩
  refine ⟨rfl,?_⟩
  refine ⟨rfl,?_⟩
  repeat (first | exact dG.nil | refine dG.cons Y H ?_)
 ·intro W' Z' hJ'
  rw [fJ] at hJ'
  refine st (cK Y) Y (Run.nil (aa (aB Y (az (aa (ae (ai (st (ab Y) Y (st (aM Y) Y ?_)))))))))
  refine st (am (htm) Y ⟨VT.le_refl _,VT.le_refl _,trivial⟩) Y ?_
  refine st (ab Y) Y (st (aq Y Y) Y (st (aq Y Y) Y (st (ah Y) Y (st (ah Y) Y (Run.nil (aa (ae (ai (st (ab Y) Y ?_)))))))))
  refine st (aU Y) Y ?_
  refine bV n n Y Y Y Y (Nat.le_refl _) Y Y Z Y Y (fun bd => ?_)
  refine st (ah Y) Y (Run.nil (aa (ae (ae (ai (st (ab Y) Y (st (aU Y) Y (st (ab Y) Y (Run.nil ?_)))))))))
  refine aa (au (cn (Γ' := [(0,_),(1,_),(2,_),(5,_),(6,_),(7,_),(9,_),(11,_),(38,_),(39,_),(40,_)]) DQ (SubM.refl _) ?_))
  refine bB (σ:=Nat) (Γk := [(0,_),(1,_),(2,_),(5,_),(6,_),(7,_),(9,_),(11,_),(38,_),(39,_)]) DQ (fun t => [(40,one (.int .i64 (t:Nat)))]) (fun t M0=>(M0.set 0 (aI (some bd) 37 (.agg 2) n n (fun q=>if q<t then aL (stR p n F R b (k+1) q) else bJ)))) (fun t=>t≤n) (fun t=>n - t) (0) (Nat.zero_le _) DR (.keep (ec fun q hq=>by rw [if_neg (Nat.not_lt_zero q)]; exact jG _) (.nil)) (fun t ht => ?_)
  refine bQ (Γ' := [(40,_),(0,_),(1,_),(2,_),(5,_),(6,_),(7,_),(9,_),(11,_),(38,_),(39,_)]) (M' := [_]) Y Y ?_
  by_cases hti:t<n
  ·have hsu:=lL (stR p n F R b k t) (bA n (fun q=>dgs p n R (stR p n F R b k) q*F q t)) (cY (hst t) U) (cY (zE hp2 hp hn hs' t) U)
   have hdm:=dk (stR p n F R b k t - bA n (fun q=>dgs p n R (stR p n F R b k) q*F q t)) (p:Int) Z (cY (hsl t) U) (cY (n:=2147483648) Z U)
   refine ae (ai (st (sT Z (a7 Y Y)) Y (Run.nil (aa (ae (aH Y (az (aa (ae ?_)))))))))
   refine au (ae (ai (st (ab Y) Y (st (aC Y Y Z) Y (st (aM Y) Y ?_)))))
   refine aG (T:=37) Y (ltN Y) (fun b13 => ?_)
   refine st (ah Y) Y (aA 0 Y Y Y Y Y (leN Y) Y (Run.nil (aa ?_)))
   apply iE (Γ1 := [(0,_),(1,_),(2,_),(5,_),(6,_),(7,_),(9,_),(11,_),(38,_),(39,_),(40,_)]) (M1 := [_,_]) 14 3 [] [12,13] aZ X S
   ·refine st (ab Y) Y (st (ab Y) Y (st (ak 0 Y Y Y) Y (st (ab Y) Y (st (ab Y) Y (st (aC Y Y Z) Y (st (aM Y) Y ?_))))))
    refine st (am (hsu) Y ⟨VT.le_refl _,VT.le_refl _,trivial⟩) Y ?_
    refine st (aM Y) Y ?_
    refine st (am (hdm) Y ⟨VT.le_refl _,VT.le_refl _,trivial⟩) Y ?_
    refine st (ab Y) Y (st (aq Y Y) Y (st (aq Y Y) Y (st (aq Y Y) Y (Run.nil ?_))))
    refine nT (Γe := [(0,_),(1,_),(2,_),(5,_),(6,_),(7,_),(9,_),(11,_),(38,_),(39,_),(40,_),(45,_),(46,_),(47,_),(56,_)]) (rem := [14,15]) Y DT Y ?_
    refine an (rem' := [15]) (i:=14) X Y Y ?_ (iD.cons Y (StepG.plain (aq Y Y) Y Y (ltN Y)) Y (iD.cons Y (StepG.plain (aq Y Y) Y Y (ltN Y)) Y iD.nil))
    refine st (ao Y Y Z) Y (Run.nil ?_)
    refine ⟨rfl,?_⟩
    refine an (rem' := []) (i:=15) X Y Y ?_ (iD.cons Y (StepG.plain (aq Y Y) Y Y (ltN Y)) Y (iD.cons Y (StepG.plain (aq Y Y) Y Y (ltN Y)) Y iD.nil))
    (refine aw 1 Y Y Y ?_ Y ?_;omega)
    refine Run.nil ?_
    refine ⟨rfl,?_⟩
    refine aV DT (SubM.refl _) (iD.cons Y (StepG.plain (aq Y Y) Y Y (ltN Y)) Y (iD.cons Y (StepG.plain (aq Y Y) Y Y (ltN Y)) Y iD.nil))
   ·refine aD (aa (ai (st (bI _ 1 Y Y Z) Y (st (ab Y) Y (Run.nil ?_)))))
    refine aQ (t+1) Z Z DR (.drop (.keep (oF (G:=fun q=>aL (stR p n F R b (k+1) q))) (.nil)))
  ·have htn:t=n:=by omega
   subst htn
   refine ae (ai (st (sF Z (a7 Y Y)) Y (Run.nil (aa (ae (aB Y (aX (av (av ?_)))))))))
   refine aF (aa (ai (st (ab Y) Y (st (ah Y) Y (Run.nil (aD ?_))))))
   refine f6 (dG.refl _) (.keep (be (ψ:=fun q=>aL (stR p t F R b (k+1) q)) (fun q hq=>by rw [if_pos Z])) (SubM.refl _)) ?_
   refine cq (t:=7) (i:=0) Y Y ?_
   refine w8 (s:=(k,DL,W)) (μ:=fun s:DgZ=>N - s.1) (Ws:=fun s:DgZ=>s.2.2) (Zs:=fun s=>s.2.1) (ok:=fun s:DgZ=>J ((List.range s.1).map fun k=>dgs p _ R (stR p _ F R b k),s.2.1) s.2.2) ((k+1,Z',W'):DgZ) hJ' ?_ ?_ Y
   ·exact Nat.sub_lt_sub_left hkN (Nat.lt_succ_self k)
   ·repeat (first | exact dG.nil | refine dG.cons Y H ?_)
 ·intro W' hx'
  rw [fJ] at hx'
  refine st (cK Y) Y (Run.nil (aa (aH Y (aE (aW (bN (aW (bN ?_))))))))
  exact zD Y hAx hx'
set_option maxHeartbeats 4000000 in
theorem qb (p n:Nat) (F:Nat→Nat→Int) (b:Nat→Int):Ok Tryz.prog 57 [bR n n F,bD n b,one (.int .u64 (p:Nat))] (iZ 91 [bO (.agg 3) (bR n n F),bO .one (one (.int .u64 (p:Nat))),bO .one (bD n b)]):=by
 refine Ok.enter Tryz.func57 Y Tryz.ntmps57 Y (fun w O => ?_)
 refine ae (ai ?_)
 refine aS Y Y (ltN Y) (fun b3 => ?_)
 refine gC Y Y (ltN Y) (fun b4 => ?_)
 refine gC Y Y (ltN Y) (fun b5 => ?_)
 refine st (ah Y) Y (Run.nil (aa (ae (ai (st (kx Y) Y (st (ah Y) Y (Run.nil (aa (aE ?_)))))))))
 refine gm [_,_,_] (Kp := []) (Kp' := []) (List.Perm.refl _) (EntM.refl []) (v9.set (t:=6) Y (Ent.clo3 (Ent.ptrW (List.mem_cons_of_mem _ (List.mem_cons_of_mem _ List.mem_cons_self)) (qr.same)) (Ent.ptr List.mem_cons_self List.mem_cons_self) (Ent.ptr (List.mem_cons_of_mem _ List.mem_cons_self) List.mem_cons_self))) ?_
 unfold bR bD
 refine aT Tryz.results57 (.tmp Y H)
end Tor
end
section
set_option linter.unusedSectionVars false
namespace Tor
open Go Go.RowKit
section
variable {P:Program} {E:Env} {D:List Deferred} {Γ Γ1:Ctx} {M M1:Mem} {Q:Exit→Act→World→Prop}
theorem CV {c rest:Code} {l:Nat} (hE:E.R=none) (hf:findLabel c l=some rest) (h:J P E D Γ M c (Exit.jump l (St E D Γ1 M1) Q)) (h1:J P E D Γ1 M1 rest (Exit.jump l (fun _ _=>False) Q)) :
  J P E D Γ M (.scope c) Q:=fun a w hS hd=>by
 rw [hE]
 refine wpIn_wide.2 (wp_scope_jumps l (St E D Γ1 M1) (fun _ _=>0) hf ((h a w hS).wp hE) fun a' w' hS'=>((h1 a' w' hS').mono ?_).wp hE)
 rintro e a2 w2 hq
 cases e <;> first
  | exact hq
  | exact hq.2.elim
theorem Bm {l:Nat} {Q:Exit→Act→World→Prop} (hg:dG Γ Γ1) (hm:SubM M M1):PJ E D Γ M (.goto l) (Exit.jump l (St E D Γ1 M1) Q):=fun a w hS=>⟨rfl,hS.sub hg hm⟩
theorem CW {l:Nat} (h:PJ E D Γ M (.goto l) Q):J P E D Γ M (.goto l) Q:=fun a w hS _=>wpIn_goto (h a w hS)
theorem Bn {id:Nat} {n:Act→World→Prop} (h:PJ E D Γ M (.goto id) Q):PJ E D Γ M (.goto id) (Exit.then n Q):=h
theorem Bo {l:Nat} {K:Act→World→Prop} (h:PJ E D Γ M .ret Q):PJ E D Γ M .ret (Exit.jump l K Q):=h
end
end Tor
end
section
namespace Tor
open Go Go.RowKit Go.Proofs
attribute [local irreducible] Tor.J Tor.PJ Tor.aK Tor.one Tor.slT Tor.bO Tor.bC Tor.bv Tor.exT Tor.cd Tor.eP Tor.aR Tor.aI Tor.slV Tor.VT.le Tor.Ret Tor.bJ
set_option maxHeartbeats 1000000 in
theorem w9 (d:Int) (p q:Nat) (hd:bm d) (hp:bf cB 2147483648=p) (hq:bf cB p=q) (hq0:2<q) (hp':p<2147483648) (hqp:q<p) (h:d % (p:Int)=0) (h2:d % (q:Int)≠0):Ok Tryz.prog 56 [aL d] (one (.int .u64 (q:Nat))):=by
 have hb:=mB 2147483648 S
 rw [hp] at hb
 have hc:=mB p Z
 rw [hq] at hc
 have hr:=gW p d Z Z hd
 have hr2:=gW q d Z Z hd
 have hz:(d % (q:Int)).toNat≠0:=by
  have:=Int.emod_nonneg d (show (q:Int)≠0 by omega)
  omega
 rw [h] at hr
 generalize (d % (q:Int)).toNat=k at *
 refine Ok.enter Tryz.func56 Y Tryz.ntmps56 Y (fun w O => ?_)
 refine ae (ai ?_)
 refine aS Y Y (ltN Y) (fun b1 => ?_)
 refine st (ah Y) Y (Run.nil (aa ?_))
 refine CV (l:=0) (Γ1 := [(3,one (.int .u64 (q:Nat))),(1,one (.pointer (some ⟨b1,0,none⟩)))]) (M1 := [aR b1 37 2 [(0, .one,one (.bool (decide (d<0)))),(1, .one,co (aJ d.natAbs))]]) Y Y ?_ ?_
 ·refine ae (ai ?_)
  refine st (am (hb) Y ⟨VT.le_refl _,trivial⟩) Y ?_
  refine st (ah Y) Y (Run.nil (aa (ae (jU (aa (ae (ae (ai (st (ab Y) Y ?_)))))))))
  refine st (aO 0 Y Y) Y ?_
  refine st (am (hr) Y ⟨VT.le_refl _,VT.le_refl _,trivial⟩) Y ?_
  refine st (sT Z (ci Y Y)) Y (st (ab Y) Y (sg1 Y Y (ab Y) Y (sg1 Y Y (sT Z (c7 Y Y)) Y (st (bj Y Y) Y (Run.nil (aa (aH Y (ae (ai ?_)))))))))
  refine st (ab Y) Y ?_
  refine st (am (hc) Y ⟨VT.le_refl _,trivial⟩) Y ?_
  refine st (ah Y) Y (Run.nil (aa (CW ?_)))
  refine Bn (Bm ?_ ?_)
  ·exact .cons Y H (.cons Y H .nil)
  ·exact SubM.refl _
 ·refine ae (az (aa (ae (ae (ai (st (ab Y) Y (st (aO 0 Y Y) Y ?_)))))))
  refine st (am (hr2) Y ⟨VT.le_refl _,VT.le_refl _,trivial⟩) Y ?_
  refine st (sF Z (ci Y Y)) Y (st (ab Y) Y (sn0 Y Y Y Y Y (sn0 Y Y Y Y Y (st (bF Y Y) Y (Run.nil (aa (aB Y (az (aa ?_)))))))))
  refine ae (ai (st (ab Y) Y (st (ah Y) Y (Run.nil (aa (aE (Bo ?_)))))))
  refine aT Tryz.results56 (.tmp Y H)
end Tor
end
section
namespace Tor
open Go Go.RowKit Go.Proofs
theorem g7.init {p n:Nat} {F:Nat→Nat→Int} {b:Nat→Int} {pre:List (Nat→Int)} {x:Nat→Int} (h:g7 p n F b (pre ++ [x])):g7 p n F b pre:=by
 obtain ⟨R,hR,he⟩:=h
 rw [List.length_append,show pre.length + [x].length=pre.length+1 from rfl, ← fJ] at he
 exact ⟨R,hR,List.append_inj_left' he Y⟩
abbrev z0:Nat→Int:=fun _=>0
def oK (n:Nat) (l:List (Nat→Int)):VT:=slT .one l.length (fun i=>bD n (l.getD i z0))
theorem xa {sv:Option Nat} {T:TypeId} {n cap:Nat} {x:Nat→Int} {l:List (Nat→Int)} : Own.le (aI sv T .one cap (l.length+1) (fun q=>if q<l.length then bD n (l.getD q z0) else bD n x)) (aI sv T .one cap (l ++ [x]).length (fun q=>bD n ((l ++ [x]).getD q z0))):=by
 refine gR (by simp) (fun q hq => ?_)
 by_cases h:q<l.length
 ·rw [if_pos h]; simp only [List.getD]; rw [List.getElem?_append_left h]
 ·have:q=l.length:=by omega
  subst this;rw [if_neg h]; simp [List.getD]
theorem zF {b:Nat} {T:TypeId} : Own.le (aR b T 1 [(0, .one,one (.slice none 0 0))]) (aR b T 1 [(0, .one,one (slV none 0 0))]):=Own.le_refl _
theorem xb {b:Nat} {T:TypeId} {φ:VT} {sv:Option Nat} {l l' cap:Nat} (h:l+1=l'):Own.le (aR b T 1 (ko [(0, .one, φ)] 0 (one (slV sv (l+1) cap)))) (aR b T 1 [(0, .one,one (slV sv l' cap))]):=by
 subst h;exact Own.le_refl _
theorem s7 {n:Nat} {l:List (Nat→Int)} (h:l = []):VT.le (one (.slice none 0 0)) (oK n l):=by subst h;exact eQ
attribute [local irreducible] Tor.J Tor.PJ Tor.aK Tor.one Tor.slT Tor.bO Tor.bC Tor.bv Tor.exT Tor.cd Tor.eP Tor.aR Tor.aI Tor.slV Tor.VT.le Tor.Ret Tor.bJ
attribute [local irreducible] aL
set_option maxHeartbeats 4000000 in
theorem ut (n:Nat) (F:Nat→Nat→Int) (b:Nat→Int) (k:Int) (h:k<0∨64<k):Ok Tryz.prog 15 [bR n n F,bD n b,one (.int .i64 k)] (bv [oK 0 [],one (.int .u64 0),one (.int .i64 1)]):=by
 have hf:=l0 n n n F b
 rw [decide_eq_true ⟨rfl,rfl⟩] at hf
 refine Ok.enterR Tryz.func15 Y Tryz.ntmps15 Y (fun w O => ?_)
 by_cases h1:k<0
 ·refine ae (ai ?_)
  refine aS Y Y (ltN Y) (fun b3 => ?_)
  refine gC Y Y (ltN Y) (fun b5 => ?_)
  refine st (ah Y) Y (st (ah Y) Y (st (ah Y) Y (Run.nil (aa (ae (ae (ai (st (aO 1 Y Y) Y (st (ab Y) Y ?_)))))))))
  refine st (am (hf) Y ⟨VT.le_refl _,VT.le_refl _,trivial⟩) Y ?_
  refine st (cK Y) Y (Run.nil (aa (aB Y (az (aa (ae (ae (ai (st (ak 0 Y Y Y) Y ?_)))))))))
  refine st (sT (by assumption) (a7 Y Y)) Y (st (ab Y) Y (sn0 Y Y Y Y Y (sn0 Y Y Y Y Y (st (bj Y Y) Y (Run.nil (aa (aH Y (ae (ai ?_)))))))))
  refine st (ah Y) Y (st (ah Y) Y (st (ah Y) Y (Run.nil (aa (aE (aW (jY ?_)))))))
  refine jk Tryz.results15 (.tmp Y (s7 Y)) (.tmp Y H) (.tmp Y H)
 ·have h2:64<k:=by omega
  refine ae (ai ?_)
  refine aS Y Y (ltN Y) (fun b3 => ?_)
  refine gC Y Y (ltN Y) (fun b5 => ?_)
  refine st (ah Y) Y (st (ah Y) Y (st (ah Y) Y (Run.nil (aa (ae (ae (ai (st (aO 1 Y Y) Y (st (ab Y) Y ?_)))))))))
  refine st (am (hf) Y ⟨VT.le_refl _,VT.le_refl _,trivial⟩) Y ?_
  refine st (cK Y) Y (Run.nil (aa (aB Y (az (aa (ae (ae (ai (st (ak 0 Y Y Y) Y ?_)))))))))
  refine st (sF (by assumption) (a7 Y Y)) Y (st (ab Y) Y (sg1 Y Y (ak 0 Y Y Y) Y (sg1 Y Y (sT (by assumption) (c7 Y Y)) Y (st (bF Y Y) Y (Run.nil (aa (aH Y (ae (ai ?_)))))))))
  refine st (ah Y) Y (st (ah Y) Y (st (ah Y) Y (Run.nil (aa (aE (aW (jY ?_)))))))
  refine jk Tryz.results15 (.tmp Y (s7 Y)) (.tmp Y H) (.tmp Y H)
set_option maxHeartbeats 4000000 in
theorem xc (p n k:Nat) (F:Nat→Nat→Int) (b:Nat→Int) (d:Int) (hpb:cB p=true) (hp2:2≤p) (hp:p<2147483648) (hinv:uh p) (hF:ui p n F) (hn:n≤16) (hs : ∀ i j,(F i j).natAbs≤1099511627776) (hb : ∀ i,(b i).natAbs≤1152921504606846976)
  (hdet:Ok Tryz.prog 50 [bR n n F] (bv [aL d,one (.int .i64 0)])) (hd:d≠0) (hpr:Ok Tryz.prog 56 [aL d] (one (.int .u64 (p:Nat)))) (hk:k≤64) :
  Ok Tryz.prog 15 [bR n n F,bD n b,one (.int .i64 (k:Nat))] (exT fun pre:List (Nat→Int)=>cd (g7 p n F b pre∧pre.length=k) (bv [oK n pre,one (.int .u64 (p:Nat)),one (.int .i64 0)])):=by
 have hf:=l0 n n n F b
 rw [decide_eq_true ⟨rfl,rfl⟩] at hf
 have hdg:=qb p n F b
 have hit:=oJ p n F b (k+1) hpb hp2 hp hinv hF hn hs hb
 have hsz:=eD d
 have hsg:=db d
 have hsz':c8 d≠0:=fun e=>hd (hsz.1 e)
 refine Ok.enterR Tryz.func15 Y Tryz.ntmps15 Y (fun w O => ?_)
 refine ae (ai ?_)
 refine aS Y Y (ltN Y) (fun b3 => ?_)
 refine gC Y Y (ltN Y) (fun b5 => ?_)
 refine st (ah Y) Y (st (ah Y) Y (st (ah Y) Y (Run.nil (aa (ae (ae (ai (st (aO 1 Y Y) Y (st (ab Y) Y ?_)))))))))
 refine st (am (hf) Y ⟨VT.le_refl _,VT.le_refl _,trivial⟩) Y ?_
 refine st (cK Y) Y (Run.nil (aa (aB Y (az (aa (ae (ae (ai (st (ak 0 Y Y Y) Y ?_)))))))))
 refine st (sF Z (a7 Y Y)) Y (st (ab Y) Y (sg1 Y Y (ak 0 Y Y Y) Y (sg1 Y Y (sF Z (c7 Y Y)) Y (st (bF Y Y) Y (Run.nil (aa (aB Y (az (aa ?_)))))))))
 refine ae (ai (st (aO 1 Y Y) Y ?_))
 refine st (am (hdet) Y ⟨VT.le_refl _,trivial⟩) Y ?_
 refine st (ab Y) Y (st (aq Y Y) Y (st (aq Y Y) Y ?_))
 refine aG (T:=37) Y (ltN Y) (fun b9 => ?_)
 refine aA 0 Y Y Y Y Y (leN Y) Y (st (ah Y) Y (Run.nil (aa (ae (ae (ai (st (ak 0 Y Y Y) Y ?_)))))))
 refine st (am (hsg) Y ⟨VT.le_refl _,trivial⟩) Y ?_
 refine st (sF (by assumption) (ci Y Y)) Y (Run.nil (aa (aB Y (az (aa (ae (ai (st (ak 0 Y Y Y) Y ?_))))))))
 refine st (am (hpr) Y ⟨VT.le_refl _,trivial⟩) Y ?_
 refine st (ah Y) Y (Run.nil (aa (ae (ai ?_))))
 refine aG (T:=43) Y (ltN Y) (fun b12 => ?_)
 refine Run.nil (aa (ae (ae (ai (st (aO 3 Y Y) Y (st (ab Y) Y (st (ab Y) Y ?_)))))))
 refine st (am (hdg) Y ⟨VT.le_refl _,VT.le_refl _,VT.le_refl _,trivial⟩) Y ?_
 refine Run.nil (aa (au ?_))
 refine f8 (ConvM.nilSl0 (T:=33) (L := .one) (φ:=fun q=>bD n (([]:List (Nat→Int)).getD q z0)) _) ?_
 refine s6 (σ:=Option Nat × Nat × List (Nat→Int)) hit (fun s => [aI s.1 33 .one s.2.1 s.2.2.length (fun q=>bD n (s.2.2.getD q z0)),aR b12 43 1 [(0, .one,one (slV s.1 s.2.2.length s.2.1))],aR b5 3 1 [(0, .one,one (.int .i64 (k:Nat)))]])
  (fun pre s=>s.2.2=pre∧pre.length≤k) (fun e pre s=>e=some 0∧g7 p n F b s.2.2∧s.2.2.length=k) (none,0, []) Y Y (fun pre s h=>Nat.lt_succ_of_le h.2) ⟨rfl,Nat.zero_le _⟩
  (.keep (be (fun q hq=>absurd hq (Nat.not_lt_zero _))) (.keep zF (.drop (.keep DU (SubM.nilR _))))) Y Y (by simp [fO,fZ])
  (fun l W pre x s hs hgo => ?_) (fun pre s D hs=>absurd hs.1 (by simp)) (fun id pre s D hs => ?_)
 ·obtain ⟨sv,cap,m⟩:=s
  obtain ⟨hm,hl⟩:=hs
  dsimp only at hm hl ⊢
  subst hm
  by_cases he:m.length=k
  ·refine au (ae (ae (ai (st (ak 1 Y Y Y) Y (st (cx Y) Y (st (ak 2 Y Y Y) Y (st (sT Z (ci Y Y)) Y (Run.nil (aa ?_)))))))))
   refine aH Y (aX (av (c6 Y ?_)))
   exact rW (sv,cap,m) ⟨rfl,hgo.init,he⟩ (SubM.refl _)
  ·refine au (ae (ae (ai (st (ak 1 Y Y Y) Y (st (cx Y) Y (st (ak 2 Y Y Y) Y (st (sF Z (ci Y Y)) Y (Run.nil (aa ?_)))))))))
   refine aB Y (az (aa (ai (st (ak 1 Y Y Y) Y (st (ab Y) Y (fS Y Y Y Y ?_))))))
   (refine cS 0 Y Y Y (leN Y) ?_ ?_ Y (ltN Y) (fun sv46 cap46 => ?_);omega;omega)
   refine aA 1 Y Y Y Y Y (leN Y) Y (Run.nil (aD ?_))
   exact nS (sv46,cap46,m ++ [x]) ⟨rfl,by simp;omega⟩ (.keep xa (.keep (xb (by simp)) (SubM.refl _)))
 ·obtain ⟨sv,cap,m⟩:=s
  obtain ⟨hid,hm,hl⟩:=hs
  cases hid
  dsimp only at hm hl ⊢
  refine aF (aa (ae (ai (st (ak 2 Y Y Y) Y (st (ab Y) Y (st (ah Y) Y (st (ah Y) Y (st (ah Y) Y (Run.nil ?_)))))))))
  refine aa (aE (nm (cq (t:=6) (i:=0) Y Y ?_)))
  refine sa (ψ:=bv [oK n m,one (.int .u64 (p:Nat)),one (.int .i64 0)]) (nK m (kZ ⟨hm,hl⟩ H)) ?_
  refine jk Tryz.results15 (.tmp Y H) (.tmp Y H) (.tmp Y H)
end Tor
end
section
namespace Tor
open Go Go.RowKit Go.Proofs
def kO (s:Nat):Nat→Nat × Int→Nat × Int→Nat × Int
 | 0, _, y => y
 | f + 1, x, y => if s < y.1 then kO s f y (x.1 % y.1, x.2 - ((x.1 / y.1 : Nat) : Int) * y.2) else y
theorem mC (s:Nat) : ∀ (f g:Nat) (x y:Nat × Int),y.1<f→y.1<g→kO s f x y=kO s g x y
 | 0, _, _, _, h, _ => absurd h (Nat.not_lt_zero _)
 | _ + 1, 0, _, _, _, h => absurd h (Nat.not_lt_zero _)
 | f + 1, g + 1, x, y, h1, h2 => by
  rw [kO,kO]
  by_cases c:s<y.1
  ·rw [if_pos c,if_pos c]
   have:=Nat.mod_lt x.1 (show 0<y.1 by omega)
   exact mC s f g _ _ (by show x.1 % y.1<f;omega) (by show x.1 % y.1<g;omega)
  ·rw [if_neg c,if_neg c]
structure EucR (m s:Nat) (R:Nat × Int) (x y:Nat × Int):Prop where
 eq : ∀ f,y.1<f→kO s f x y=R
 lt:y.1<x.1
 le:x.1≤m
 w:x.2.natAbs*y.1+y.2.natAbs*x.1≤m
 u:x.2.natAbs≤m
 v:y.2.natAbs≤m
theorem EucR.step {m s:Nat} {R x y:Nat × Int} (h:EucR m s R x y) (hc:s<y.1):EucR m s R y (x.1 % y.1,x.2 - ((x.1 / y.1:Nat):Int)*y.2)∧(((x.1 / y.1:Nat):Int)*y.2).natAbs≤m:=by
 have hy:0<y.1:=by omega
 have hm:=Nat.mod_lt x.1 hy
 have hd:=Nat.div_add_mod x.1 y.1
 have hlt:=h.lt
 have hle:=h.le
 have hw:=h.w
 have e1:(((x.1 / y.1:Nat):Int)*y.2).natAbs=x.1 / y.1*y.2.natAbs:=by rw [Int.natAbs_mul,Int.natAbs_natCast]
 have e2:(x.2 - ((x.1 / y.1:Nat):Int)*y.2).natAbs≤x.2.natAbs+x.1 / y.1*y.2.natAbs:=by rw [← e1]; omega
 have e3:x.1 / y.1*y.2.natAbs≤y.2.natAbs*x.1:=by rw [Nat.mul_comm]; exact Nat.mul_le_mul_left _ (Nat.div_le_self _ _)
 have e4:y.2.natAbs*(x.1 % y.1)+(x.2 - ((x.1 / y.1:Nat):Int)*y.2).natAbs*y.1≤m:=by
  have k1:=Nat.mul_le_mul_right y.1 e2
  have k2:(x.2.natAbs+x.1 / y.1*y.2.natAbs)*y.1+y.2.natAbs*(x.1 % y.1)=x.2.natAbs*y.1+y.2.natAbs*x.1:=by
   conv=>rhs;rw [← hd]
   rw [Nat.add_mul,Nat.mul_add]
   have:x.1 / y.1*y.2.natAbs*y.1=y.2.natAbs*(y.1*(x.1 / y.1)):=by ac_rfl
   omega
  omega
 refine ⟨⟨fun f hf => ?_,hm,by omega,e4,h.v,?_⟩,by rw [e1]; omega⟩
 ·have:=h.eq (y.1+1) Z
  rw [kO,if_pos hc] at this
  rw [← this]
  exact mC s _ _ _ _ hf hm
 ·have k3:(x.2 - ((x.1 / y.1:Nat):Int)*y.2).natAbs≤(x.2 - ((x.1 / y.1:Nat):Int)*y.2).natAbs*y.1:=Nat.le_mul_of_pos_right _ hy
  show (x.2 - ((x.1 / y.1:Nat):Int)*y.2).natAbs≤m
  omega
theorem EucR.start {m s r:Nat} (hr:r<m):EucR m s (kO s (m+1) (m,0) (r,1)) (m,0) (r,1) :=
 ⟨fun f hf=>mC s _ _ _ _ hf (by show r<m+1;omega),hr,Nat.le_refl _,by simp,by simp,by show (1:Int).natAbs≤m;omega⟩
theorem EucR.fin {m s:Nat} {R x y:Nat × Int} (h:EucR m s R x y) (hc : ¬ s<y.1):y=R:=by
 have:=h.eq (y.1+1) Z
 rwa [kO,if_neg hc] at this
def jd (a:Int) (m s:Nat) (f:Rat):Bool:=decide (f.num.natAbs≤s) && (decide (f.den≤s) && (decide (Nat.gcd f.den m=1) && decide ((f.num - a*f.den) % (m:Int)=0)))
def uu (a:Int) (m s:Nat):Option Rat :=
 let y:=kO s (m+1) (m,0) ((a % (m:Int)).toNat,1)
 if y.2=0 then none else if jd a m s (Rat.divInt (y.1:Int) y.2)=true then some (Rat.divInt (y.1:Int) y.2) else none
def CX:Option Rat→VT
 | some q => cv q
 | none => dy 0 0
theorem vH {a b:Int} : (Rat.divInt a b).num.natAbs≤a.natAbs:=by
 rw [Rat.num_divInt]
 by_cases hb:b=0
 ·subst hb;simp
 ·have h1:b.sign*a=a∨b.sign*a = -a:=by
   rcases Int.lt_trichotomy b 0 with h | h | h
   ·right;rw [Int.sign_eq_neg_one_of_neg h]; omega
   ·exact absurd h hb
   ·left;rw [Int.sign_eq_one_of_pos h]; omega
  have h2:=Int.natAbs_ediv_le_natAbs (b.sign*a) ((b.gcd a:Nat):Int)
  rcases h1 with h | h <;> rw [h] at h2 ⊢ <;> omega
theorem zG {a b:Int} (hb:b≠0):(Rat.divInt a b).den≤b.natAbs:=by
 rw [Rat.den_divInt,if_neg hb]; exact Nat.div_le_self _ _
theorem ey {x:Int} {n:Nat} (h:x.natAbs≤2^n) (hn:n<2048):bm x:=dt (Nat.lt_of_le_of_lt h (Nat.pow_lt_pow_right (a:=2) (m:=n) (n:=2048) S hn))
theorem Dx {a:Int} {m s:Nat} {f:Rat} : (decide (cU (f.num.natAbs:Int) (s:Int)≤0) == true && (decide (cU (f.den:Int) (s:Int)≤0) == true && (decide (cU ((Nat.gcd f.den m:Nat):Int) 1=0) == true && decide (c8 ((f.num - a*(f.den:Int)) % (m:Int))=0) == true)))=jd a m s f:=by
 unfold jd
 have h1 : ∀ x y:Int,cU x y≤0↔x≤y:=fun x y=>by unfold cU;split <;> (try split) <;> omega
 have h2 : ∀ x y:Int,cU x y=0↔x=y:=fun x y=>by unfold cU;split <;> (try split) <;> omega
 have h3 : ∀ x:Int,c8 x=0↔x=0:=fun x=>by unfold c8;split <;> (try split) <;> omega
 simp only [h1,h2,h3,beq_true]
 congr 1
 ·congr 1;simp
 ·congr 1
  ·congr 1;simp
  ·congr 1;congr 1;simp;omega
theorem CY {x y:Nat} (h:x≤2^800) (h':y≤2^800):x*y≤2^1600:=by
 have h2:=Cs 800 1600 Y
 exact Nat.le_trans (Nat.mul_le_mul h h') (Nat.le_of_eq h2.symm)
theorem Bp {b:Nat} {T:TypeId} {φ ψ φ' ψ':VT} (h:VT.le φ φ') (h':VT.le ψ ψ'):Own.le (aR b T 4 [(0, .agg 2, φ),(2, .agg 2, ψ)]) (aR b T 4 [(0, .agg 2, φ'),(2, .agg 2, ψ')]):=qo (fun q hq=>by
 rcases List.mem_cons.1 hq with rfl | hq
 ·exact ⟨_,List.mem_cons_self,h⟩
 ·rcases List.mem_cons.1 hq with rfl | hq
  ·exact ⟨_,List.mem_cons_of_mem _ List.mem_cons_self,h'⟩
  ·cases hq)
instance:QuadOf Go.Proofs.Tryz.prog 140 4:=QuadOf.by_info X X X
attribute [local irreducible] Tor.J Tor.PJ Tor.aK Tor.one Tor.slT Tor.bO Tor.bC Tor.bv Tor.exT Tor.cd Tor.eP Tor.aR Tor.aI Tor.slV Tor.VT.le Tor.Ret Tor.bJ
set_option maxHeartbeats 8000000 in
theorem s8 (a:Int) (m s:Nat) (hm:2≤m) (hm8:m≤2^800) (ha:a.natAbs≤2^800) (hs1:s*s≤(m - 1) / 2) (hs2:(m - 1) / 2<(s+1)*(s+1)) :
  Ok Tryz.prog 60 [aL a,aL (m:Int)] (bv [CX (uu a m s),one (.int .i64 (if (uu a m s).isSome then 0 else 41))]):=by
 have h1:=jn 1 S S
 have h2:=jn 2 S S
 have hcm:=gq (m:Int) 2
 have hc : ¬ cU (m:Int) 2<0:=by unfold cU;split <;> (try split) <;> omega
 have sma:bm a:=ey ha S
 have smm:bm (m:Int):=ey (n:=800) hm8 S
 have sm1:bm 1:=dt U
 have sm2:bm 2:=dt U
 have hsu:=lL (m:Int) 1 smm sm1
 rw [show (m:Int) - 1=((m - 1:Nat):Int) by omega] at hsu
 have hd1:=dk ((m - 1:Nat):Int) 2 S (cO smm Z) sm2
 rw [show ((m - 1:Nat):Int) / 2=(((m - 1) / 2:Nat):Int) from (Int.natCast_ediv _ _).symm,show ((m - 1:Nat):Int) % 2=(((m - 1) % 2:Nat):Int) from (Int.natCast_emod _ _).symm] at hd1
 have hro:Ok Tryz.prog 101 [aL (((m - 1) / 2:Nat):Int)] (bv [aL (s:Int),one (.int .i64 0)]):=by
  by_cases h0:(m - 1) / 2=0
  ·have:s=0:=by
    rcases Nat.eq_zero_or_pos s with h | h
    ·exact h
    ·have:=Nat.mul_le_mul h h;omega
   rw [h0,this]; exact sB
  ·exact vm _ s (Nat.lt_of_lt_of_le (show (m - 1) / 2<m by omega) hm8) h0 hs1 hs2
 have hd2:=dk a (m:Int) Z sma smm
 have hr0:=Int.emod_nonneg a (show (m:Int)≠0 by omega)
 have hr1:=Int.emod_lt_of_pos a (show 0<(m:Int) by omega)
 refine Ok.enter Tryz.func60 Y Tryz.ntmps60 Y (fun w O => ?_)
 unfold uu
 dsimp only
 obtain ⟨r,hr⟩ : ∃ r,r=(a % (m:Int)).toNat:=⟨_,rfl⟩
 have hre:a % (m:Int)=(r:Int):=by omega
 have hd2':=hd2
 rw [hre] at hd2'
 rw [← hr]
 have hE:=EucR.start (m:=m) (s:=s) (r:=r) Z
 generalize kO s (m+1) (m,0) (r,1)=R at *
 refine ae (ai ?_)
 refine aS Y Y (ltN Y) (fun b2 => ?_)
 refine aS Y Y (ltN Y) (fun b3 => ?_)
 refine bq (T:=58) Y Y Y (fun b4 => ?_)
 refine st (ah Y) Y (Run.nil (aa (ae (ai ?_))))
 refine st (am (h1) Y ⟨VT.le_refl _,trivial⟩) Y ?_
 refine st (am (h2) Y ⟨VT.le_refl _,trivial⟩) Y ?_
 refine aG (T:=37) Y (ltN Y) (fun b6 => ?_)
 refine aG (T:=37) Y (ltN Y) (fun b7 => ?_)
 refine aA 1 Y Y Y Y Y (leN Y) Y (aA 0 Y Y Y Y Y (leN Y) Y (Run.nil (aa (ae (ae (ai (st (aO 3 Y Y) Y (st (ak 0 Y Y Y) Y ?_))))))))
 refine st (am (hcm) Y ⟨VT.le_refl _,VT.le_refl _,trivial⟩) Y ?_
 refine st (sF (by assumption) (a7 Y Y)) Y (Run.nil (aa (aB Y (az (aa (ae ?_))))))
 refine dN aZ X X ?_
 refine ux (fun B=>aO 3 Y Y) Y Y ?_
 refine ux (fun B=>ak 1 Y Y Y) Y Y ?_
 refine uxk (hsu) Y ⟨VT.le_refl _,VT.le_refl _,trivial⟩ Y ?_
 refine ux (fun B=>ak 0 Y Y Y) Y Y ?_
 refine uxk (hd1) Y ⟨VT.le_refl _,VT.le_refl _,trivial⟩ Y ?_
 refine ux (fun B=>ab Y) Y Y ?_
 refine ux (fun B=>aq Y Y) Y Y ?_
 refine ux (fun B=>aq Y Y) Y Y ?_
 refine ux (fun B=>aq Y Y) Y Y ?_
 refine ua Y (ua Y (us Y (us Y ?_)))
 refine ux (fun B=>ah Y) Y Y ?_
 refine RunU.nil (fun γ => ?_)
 refine cH (M' := [_,_,_,_,_,_,_]) Y (aa (ae (ai (st (ak 1 Y Y Y) Y ?_))))
 refine st (am (hro) Y ⟨VT.le_refl _,trivial⟩) Y ?_
 refine st (ab Y) Y (st (aq Y Y) Y (st (aq Y Y) Y ?_))
 refine aG (T:=37) Y (ltN Y) (fun b11 => ?_)
 refine aA 0 Y Y Y Y Y (leN Y) Y (st (ah Y) Y (Run.nil (aa (ae (ai (st (aO 7 Y Y) Y (st (aO 6 Y Y) Y ?_)))))))
 refine st (am (hd2') Y ⟨VT.le_refl _,VT.le_refl _,trivial⟩) Y ?_
 refine st (ab Y) Y (st (aq Y Y) Y (st (aq Y Y) Y (st (aq Y Y) Y ?_)))
 refine aG (T:=37) Y (ltN Y) (fun b13 => ?_)
 refine aG (T:=37) Y (ltN Y) (fun b14 => ?_)
 refine aA 1 Y Y Y Y Y (leN Y) Y (aA 0 Y Y Y Y Y (leN Y) Y (st (ah Y) Y (Run.nil (aa (ae ?_)))))
 refine dN aZ X X ?_
 refine ux (fun B=>aO 8 Y Y) Y Y ?_
 refine uB Y Y Y (BuildK.nil (uB Y Y Y (BuildK.cons Y Y Y (BuildK.cons Y Y Y (BuildK.nil ?_)))))
 refine ux (fun B=>ak 0 Y Y Y) Y Y ?_
 refine ux (fun B=>ak 6 Y Y Y) Y Y ?_
 refine uB Y Y Y (BuildK.cons Y Y Y (BuildK.cons Y Y Y (BuildK.nil (ua Y (ua Y (us Y (us Y ?_)))))))
 refine RunU.nil (fun γ => ?_)
 refine cH (M' := [_,_,_,_,_,_,_,_,_,_,_,_]) Y (f6 (dG.refl _) (.keep gH (.keep gH (SubM.refl _))) (aa (ae (au (cn (Γ' := [(2,_),(3,_),(4,_),(5,_),(6,_),(11,_),(16,_),(17,_)]) DQ (SubM.refl _) ?_)))))
 refine bB (σ:=(Nat × Int) × (Nat × Int)) (Γk := [(2,_),(3,_),(4,_),(5,_),(6,_),(11,_),(16,_),(17,_)]) DQ (fun p => []) (fun p M0=>((M0.set 0 (aR (γ 17) 137 4 [(0, .agg 2,aL (p.2.1:Nat)),(2, .agg 2,aL p.2.2)])).set 1 (aR (γ 16) 137 4 [(0, .agg 2,aL (p.1.1:Nat)),(2, .agg 2,aL p.1.2)]))) (fun p=>EucR m s R p.1 p.2) (fun p=>p.2.1) (((m,0),(r,1))) (hE) DR (.keep DU (.keep (Bp H iK) (.keep DU (.keep DU (.keep DU (.keep DU (.keep DU (.keep DU (.keep DU (.keep DU (.keep DU (.keep DU (.nil))))))))))))) (fun p hp => ?_)
 refine bQ (Γ' := [(2,_),(3,_),(4,_),(5,_),(6,_),(11,_),(16,_),(17,_)]) (M' := [_,_,_,_,_,_,_,_,_,_,_,_]) Y Y ?_
 obtain ⟨x,y⟩:=p
 dsimp only at hp ⊢
 have hcy:=gq (y.1:Int) (s:Int)
 have q1:=hp.lt
 have q2:=hp.le
 have q3:=hp.u
 have q4:=hp.v
 by_cases hys:s<y.1
 ·have hcc:0<cU (y.1:Int) (s:Int):=by unfold cU;rw [if_neg Z,if_pos Z]; decide
  obtain ⟨n1,n2⟩:=hp.step hys
  have q5:=Nat.div_le_self x.1 y.1
  have hnx:=AZ (x.1:Int) x.2 (y.1:Int) y.2 Z (cO smm Z) (cO smm Z) (cO smm Z) (cO smm Z) (cO smm (by rw [← Int.natCast_ediv,Int.natAbs_natCast,Int.natAbs_natCast]; exact Nat.le_trans q5 q2)) (cO smm (by rw [← Int.natCast_ediv,Int.natAbs_natCast]; exact n2))
  rw [← Int.natCast_ediv, ← Int.natCast_emod] at hnx
  refine ae (ae (ai (st (aj Y) Y (st (ak 0 Y Y Y) Y (st (ak 4 Y Y Y) Y ?_)))))
  refine st (am (hcy) Y ⟨VT.le_refl _,VT.le_refl _,trivial⟩) Y ?_
  refine st (sT (by assumption) (c7 Y Y)) Y (Run.nil (aa (aH Y (az (aa (au (fd 4 aZ X S (st (aO 0 Y Y) Y (st (aO 1 Y Y) Y ?_)))))))))
  refine st (aO 0 Y Y) Y ?_
  refine st (am (hnx) Y ⟨VT.le_refl _,VT.le_refl _,trivial⟩) Y ?_
  refine Run.nil (a4 1 Y Y Y Y (a4 0 Y Y Y Y (Run.nil (aD ?_))))
  refine aQ ((y,(x.1 % y.1,x.2 - ((x.1 / y.1:Nat):Int)*y.2))) (n1) (Nat.mod_lt _ Z) DR (.keep DU (.keep DU (.keep DU (.keep DU (.keep DU (.keep DU (.keep DU (.keep DU (.keep DU (.keep DU (.keep DU (.keep DU (.nil)))))))))))))
 ·have hcc : ¬ 0<cU (y.1:Int) (s:Int):=by unfold cU;split <;> (try split) <;> omega
  have hyR:=hp.fin hys
  subst hyR
  by_cases hy0:y.2=0
  ·rw [if_pos hy0]
   have hq:=AY (y.1:Int)
   rw [hy0]
   unfold dy at hq
   unfold CX dy
   refine ae (ae (ai (st (aj Y) Y (st (ak 0 Y Y Y) Y (st (ak 4 Y Y Y) Y ?_)))))
   refine st (am (hcy) Y ⟨VT.le_refl _,VT.le_refl _,trivial⟩) Y ?_
   refine st (sF (by assumption) (c7 Y Y)) Y (Run.nil (aa (aB Y (aX (av (av (aF (aa (ae ?_)))))))))
   refine ai (st (aj Y) Y (st (ak 0 Y Y Y) Y (st (aj Y) Y (st (ak 0 Y Y Y) Y ?_))))
   refine st (am (hq) Y ⟨VT.le_refl _,VT.le_refl _,trivial⟩) Y ?_
   refine st (ab Y) Y (st (aq Y Y) Y (st (aq Y Y) Y ?_))
   refine bq (T:=58) Y Y Y (fun b18 => ?_)
   refine a4 0 Y Y Y Y (st (ah Y) Y (Run.nil (aa (ae (ae (ai (st (ab Y) Y (st (sT Z (di Y Y)) Y (Run.nil ?_)))))))))
   refine aa (aH Y (ae (ai (stB Y Y Y (BuildK.nil (a4 10 Y Y Y Y (st (ah Y) Y (Run.nil (aa ?_)))))))))
   refine aE (aW ?_)
   refine cV Tryz.results60 (.cellW 10 Y Y (tU)) (.tmp Y H)
  ·rw [if_neg hy0]
   have smy1:bm (y.1:Int):=cO smm Z
   have smy2:bm y.2:=cO smm Z
   have hq:=Ct (y.1:Int) y.2 hy0 smy1 smy2
   have hnl:=vH (a:=(y.1:Int)) (b:=y.2)
   have hdl:=zG (a:=(y.1:Int)) hy0
   have hden0:=(Rat.divInt (y.1:Int) y.2).den_nz
   generalize Rat.divInt (y.1:Int) y.2=f at *
   unfold cv dy at hq
   have smn:bm f.num:=cO smm Z
   have smd:bm (f.den:Int):=cO smm Z
   have hp1:(a*(f.den:Int)).natAbs≤2^1600:=by
    rw [Int.natAbs_mul]
    exact CY ha Z
   have hmu:=eR a (f.den:Int) sma smd
   have smp:=ey (n:=1600) hp1 S
   have hsb:=lL f.num (a*(f.den:Int)) smn smp
   have smq:bm (f.num - a*(f.den:Int)):=ey (n:=1601) (by
    have e:2^1601=2^1600+2^1600:=yD 1600 1601 Y
    have e2:2^800≤2^1600:=Nat.pow_le_pow_right (n:=2) (i:=800) (j:=1600) S S
    rw [e]
    generalize 2^1600=z at *
    generalize 2^800=z2 at *
    generalize a*(f.den:Int)=q at *
    omega) S
   have hdm:=dk (f.num - a*(f.den:Int)) (m:Int) Z smq smm
   have hab:=AD f.num smn
   have hc1:=gq (f.num.natAbs:Int) (s:Int)
   have hc2:=gq (f.den:Int) (s:Int)
   have hgc:=yC (f.den:Int) (m:Int) smd smm
   rw [Int.natAbs_natCast,Int.natAbs_natCast] at hgc
   have hc3:=gq (Nat.gcd f.den m:Nat) 1
   have hsi:=db ((f.num - a*(f.den:Int)) % (m:Int))
   refine ae (ae (ai (st (aj Y) Y (st (ak 0 Y Y Y) Y (st (ak 4 Y Y Y) Y ?_)))))
   refine st (am (hcy) Y ⟨VT.le_refl _,VT.le_refl _,trivial⟩) Y ?_
   refine st (sF (by assumption) (c7 Y Y)) Y (Run.nil (aa (aB Y (aX (av (av (aF (aa (ae ?_)))))))))
   refine ai (st (aj Y) Y (st (ak 0 Y Y Y) Y (st (aj Y) Y (st (ak 0 Y Y Y) Y ?_))))
   refine st (am (hq) Y ⟨VT.le_refl _,VT.le_refl _,trivial⟩) Y ?_
   refine st (ab Y) Y (st (aq Y Y) Y (st (aq Y Y) Y ?_))
   refine bq (T:=58) Y Y Y (fun b18 => ?_)
   refine a4 0 Y Y Y Y (st (ah Y) Y (Run.nil (aa (ae (ae (ai (st (ab Y) Y (st (sF Z (di Y Y)) Y (Run.nil ?_)))))))))
   refine aa (aB Y (az (aa (ae ?_))))
   refine dN aZ X X ?_
   refine ux (fun B=>aj Y) Y Y ?_
   refine ux (fun B=>ak 0 Y Y Y) Y Y ?_
   refine ux (fun B=>aO 12 Y Y) Y Y ?_
   refine ux (fun B=>aj Y) Y Y ?_
   refine ux (fun B=>ak 0 Y Y Y) Y Y ?_
   refine uxk (hmu) Y ⟨VT.le_refl _,VT.le_refl _,trivial⟩ Y ?_
   refine uxk (hsb) Y ⟨VT.le_refl _,VT.le_refl _,trivial⟩ Y ?_
   refine ux (fun B=>aO 11 Y Y) Y Y ?_
   refine uxk (hdm) Y ⟨VT.le_refl _,VT.le_refl _,trivial⟩ Y ?_
   refine ux (fun B=>ab Y) Y Y ?_
   refine ux (fun B=>aq Y Y) Y Y ?_
   refine ux (fun B=>aq Y Y) Y Y ?_
   refine ux (fun B=>aq Y Y) Y Y ?_
   refine ua Y (ua Y (us Y (us Y ?_)))
   refine ux (fun B=>ah Y) Y Y ?_
   refine RunU.nil (fun γ => ?_)
   refine cH (M' := [_,_,_,_,_,_,_,_,_,_,_,_,_,_,_]) Y (aa (ae ?_))
   refine dN aZ X X ?_
   refine ux (fun B=>aj Y) Y Y ?_
   refine ux (fun B=>ak 2 Y Y Y) Y Y ?_
   refine uxk (hab) Y ⟨VT.le_refl _,trivial⟩ Y ?_
   refine ux (fun B=>ak 7 Y Y Y) Y Y ?_
   refine uxk (hc1) Y ⟨VT.le_refl _,VT.le_refl _,trivial⟩ Y ?_
   refine ux (fun B=>rB Y Y) Y Y ?_
   refine ux (fun B=>aj Y) Y Y ?_
   refine ux (fun B=>ak 2 Y Y Y) Y Y ?_
   refine ux (fun B=>ak 7 Y Y Y) Y Y ?_
   refine uxk (hc2) Y ⟨VT.le_refl _,VT.le_refl _,trivial⟩ Y ?_
   refine ux (fun B=>rB Y Y) Y Y ?_
   refine ux (fun B=>aj Y) Y Y ?_
   refine ux (fun B=>ak 2 Y Y Y) Y Y ?_
   refine ux (fun B=>aO 13 Y Y) Y Y ?_
   refine uxk (hgc) Y ⟨VT.le_refl _,VT.le_refl _,trivial⟩ Y ?_
   refine ux (fun B=>ak 11 Y Y Y) Y Y ?_
   refine uxk (hc3) Y ⟨VT.le_refl _,VT.le_refl _,trivial⟩ Y ?_
   refine ux (fun B=>ci Y Y) Y Y ?_
   refine ux (fun B=>ak 0 Y Y Y) Y Y ?_
   refine uxk (hsi) Y ⟨VT.le_refl _,trivial⟩ Y ?_
   refine ux (fun B=>ci Y Y) Y Y ?_
   refine uB Y Y Y (BuildK.cons Y Y Y (BuildK.cons Y Y Y (BuildK.cons Y Y Y (BuildK.cons Y Y Y (BuildK.nil (ua Y (us Y ?_)))))))
   refine RunU.nil (fun γ => ?_)
   refine cH (M' := [_,_,_,_,_,_,_,_,_,_,_,_,_,_,_,_]) Y (f6 (dG.refl _) (.keep gH (SubM.refl _)) (aa (ae (ae (ai (st (aO 0 Y Y) Y (stB Y Y Y (BuildK.cons Y Y Y (BuildK.cons Y Y Y ?_)))))))))
   refine BuildK.cons Y Y Y (BuildK.cons Y Y Y (BuildK.nil (st (Di Y Y) Y (Run.nil (aa (nB (t:=115) (ψ:=one (.bool (!jd a m s f))) Y (ar (by rw [Dx])) ?_))))))
   unfold CX cv dy
   cases hrc:jd a m s f
   ·rw [if_neg S]
    refine aH Y (ae (ai (stB Y Y Y (BuildK.nil (a4 13 Y Y Y Y (st (ah Y) Y (Run.nil (aa (aE ?_)))))))))
    refine aW ?_
    refine cV Tryz.results60 (.cellW 13 Y Y (tU)) (.tmp Y H)
   ·rw [if_pos Y]
    refine aB Y (az (aa (ae (ai (st (aO 3 Y Y) Y (a4 13 Y Y Y Y (st (ah Y) Y (Run.nil (aa ?_)))))))))
    refine aE ?_
    refine cV Tryz.results60 (.cellW 13 Y Y H) (.tmp Y H)
end Tor
end
section
namespace Tor
open Go Go.RowKit Go.Proofs
def mD (r c:Nat) (F:Nat→Nat→Int) (t:Nat):Nat:=(dF r (fun i=>(eK c (F i):Int)) t).toNat
theorem s9 {r c:Nat} {F:Nat→Nat→Int} {t:Nat} (ht:t<r) : ∃ i,i<r∧dF r (fun i=>(eK c (F i):Int)) t=(eK c (F i):Int):=by
 have h1:dF r (fun i=>(eK c (F i):Int)) t∈lst r (dF r (fun i=>(eK c (F i):Int))):=by
  unfold lst;exact List.mem_map.2 ⟨t,List.mem_range.2 ht,rfl⟩
 have h2:=(eW (fun i=>(eK c (F i):Int)) (Nat.le_refl r)).mem_iff.1 h1
 unfold lst at h2
 obtain ⟨i,hi,e⟩:=List.mem_map.1 h2
 exact ⟨i,List.mem_range.1 hi,e.symm⟩
theorem qc {r c:Nat} {F:Nat→Nat→Int} {t:Nat} (ht:t<r):((mD r c F t:Nat):Int)=dF r (fun i=>(eK c (F i):Int)) t:=by
 obtain ⟨i,hi,e⟩:=s9 (c:=c) (F:=F) ht
 unfold mD;rw [e]; exact Int.toNat_of_nonneg (Int.natCast_nonneg _)
theorem vI {r c B:Nat} {F:Nat→Nat→Int} (hl : ∀ i,i<r→eK c (F i)≤B) {t:Nat} (ht:t<r):mD r c F t≤B:=by
 obtain ⟨i,hi,e⟩:=s9 (c:=c) (F:=F) ht
 have:=hl i hi
 unfold mD;rw [e]; omega
attribute [local irreducible] Tor.J Tor.PJ Tor.aK Tor.one Tor.slT Tor.bO Tor.bC Tor.bv Tor.exT Tor.cd Tor.eP Tor.aR Tor.aI Tor.slV Tor.VT.le Tor.Ret Tor.bJ
attribute [local irreducible] aL
end Tor
end
section
namespace Tor
open Go Go.RowKit Go.Proofs
theorem zH {sv:Option Nat} {T:TypeId} {cap n j:Nat} {g:Nat→Int} : Own.le (aI sv T (.agg 2) cap n (upd (upd (fun q=>aL (g q)) (j+1) (aL (g j))) j (aL (g (j+1))))) (aI sv T (.agg 2) cap n (fun q=>aL (iG j g q))):=be fun q _=>by
 unfold upd iG
 by_cases h:q=j
 ·rw [if_pos h,if_pos h]
 ·rw [if_neg h,if_neg h]
  by_cases h2:q=j+1
  ·rw [if_pos h2,if_pos h2]
  ·rw [if_neg h2,if_neg h2]
def InL (n:Nat) (g h:Nat→Int):Prop := ∀ q,q<n → ∃ i,i<n∧h q=g i
theorem InL.sort {n i:Nat} {g:Nat→Int} (hi:i≤n):InL n g (dF i g):=fun q hq=>by
 have h1:dF i g q∈lst n (dF i g):=by unfold lst;exact List.mem_map.2 ⟨q,List.mem_range.2 hq,rfl⟩
 have h2:=(eW g hi).mem_iff.1 h1
 unfold lst at h2
 obtain ⟨k,hk,e⟩:=List.mem_map.1 h2
 exact ⟨k,List.mem_range.1 hk,e.symm⟩
theorem InL.swp {n j:Nat} {g h:Nat→Int} (DP:InL n g h) (hj:j+1<n):InL n g (iG j h):=fun q hq=>by
 unfold iG
 split
 ·exact DP _ hj
 ·split
  ·exact DP _ Z
  ·exact DP q hq
attribute [local irreducible] Tor.J Tor.PJ Tor.aK Tor.one Tor.slT Tor.bO Tor.bC Tor.bv Tor.exT Tor.cd Tor.eP Tor.aR Tor.aI Tor.slV Tor.VT.le Tor.Ret Tor.bJ
attribute [local irreducible] aL
set_option maxHeartbeats 4000000 in
theorem rm (sv:Option Nat) (cap n:Nat) (g:Nat→Int) (cl:VT) (hn:n≤1048576) (hC : ∀ x y,(∃ i,i<n∧x=g i)→(∃ i,i<n∧y=g i)→fe Tryz.prog cl [aL x,aL y] (one (.int .i64 (cU y x)))) :
  OkI Tryz.prog 169 [one (slV sv n cap),one (.int .i64 0),one (.int .i64 (n:Nat)),cl] [aI sv 37 (.agg 2) cap n (fun q=>aL (g q))]
   (fun _:Unit=>bv []) (fun _ => [aI sv 37 (.agg 2) cap n (fun q=>aL (dF n g q))]):=by
 refine OkI.enter Tryz.func169 Y Tryz.ntmps169 Y (fun w O => ?_)
 refine nh (i:=0) (F:=sv=none→n=0) Y (fun g h hp he=>iR hp he) (fun hsv => ?_)
 refine ae (ai (st (ab Y) Y (st (cp Y Y (aP Z Z)) Y (st (ah Y) Y (Run.nil (aa (au (cn (Γ' := [(0,_),(1,_),(2,_),(3,_),(8,_)]) DQ (SubM.refl _) ?_))))))))
 refine bB (σ:=Nat) (Γk := [(0,_),(1,_),(2,_),(3,_)]) DQ (fun t => [(8,one (.int .i64 ((t+1:Nat):Int)))]) (fun t M0=>(M0.set 0 (aI sv 37 (.agg 2) cap n (fun q=>aL (dF (t+1) g q))))) (fun t=>t+1≤n∨t=0) (fun t=>n - t) (0) (.inr Y) DR (.keep DU (.nil)) (fun t ht => ?_)
 refine bQ (Γ' := [(8,_),(0,_),(1,_),(2,_),(3,_)]) (M' := [_]) Y Y ?_
 by_cases hlt:t+1<n
 ·obtain ⟨bs,rfl⟩:=gv hsv Z
  refine ae (ae (ai (st (ab Y) Y (st (ab Y) Y (st (sT Z (a7 Y Y)) Y (Run.nil (aa (aH Y (az ?_)))))))))
  refine aa (ae (au (ae (ai (st (ab Y) Y (st (ah Y) Y (Run.nil (aa (au ?_)))))))))
  refine cn (Γ' := [(0,_),(1,_),(2,_),(3,_),(8,_),(9,_)]) DQ (SubM.refl _) ?_
  refine bB (σ:=Nat × (Nat→Int)) (Γk := [(0,_),(1,_),(2,_),(3,_),(8,_)]) DQ (fun s => [(9,one (.int .i64 (s.1:Nat)))]) (fun s M0=>(M0.set 0 (aI (some bs) 37 (.agg 2) cap n (fun q=>aL (s.2 q))))) (fun s=>s.1≤t+1∧InL n g s.2∧pg s.1 s.2=dF (t+2) g) (fun s=>s.1) ((t+1,dF (t+1) g)) (⟨Nat.le_refl _,InL.sort Z,rfl⟩) DR (.keep DU (.nil)) (fun s hs => ?_)
  refine bQ (Γ' := [(9,_),(0,_),(1,_),(2,_),(3,_),(8,_)]) (M' := [_]) Y Y ?_
  obtain ⟨j,h⟩:=s
  obtain ⟨hj,hin,hI⟩:=hs
  dsimp only at hj hin hI ⊢
  cases j with
  | zero =>
   have hI:h=dF (t+2) g:=hI
   subst hI
   refine ae (ae (a6 17 aZ X S (st (ab Y) Y (st (ab Y) Y (st (sF Z (c7 Y Y)) Y (st (ab Y) Y (sn0 Y Y Y Y Y (sn0 Y Y Y Y Y (sn0 Y Y Y Y Y ?_)))))))))
   refine sn0 Y Y Y Y Y (sn0 Y Y Y Y Y (sn0 Y Y Y Y Y (sn0 Y Y Y Y Y (sn0 Y Y Y Y Y (sn0 Y Y Y Y Y (sn0 Y Y Y Y Y (sn0 Y Y Y Y Y (sn0 Y Y Y Y Y (st (bF Y Y) Y ?_)))))))))
   refine Run.nil (Run.nil (aa (aB Y (aX (av (av (aF (aD (aa ?_)))))))))
   refine ai (st (ab Y) Y (st (bI _ 1 Y Y Z) Y (st (ah Y) Y (Run.nil ?_))))
   refine aQ (t+1) Z Z DR (.keep DU (.nil))
  | succ j =>
   have hx:=hin (j+1) Z
   have hy:=hin j Z
   have hcl:=hC (h (j+1)) (h j) hx hy
   have hI:(if h j<h (j+1) then pg j (iG j h) else h)=dF (t+2) g:=hI
   by_cases hlt2:h j<h (j+1)
   ·rw [if_pos hlt2] at hI
    have hcc:cU (h j) (h (j+1))<0:=by unfold cU;split <;> (try split) <;> omega
    generalize cU (h j) (h (j+1))=cc at *
    refine ae (ae (a6 17 aZ X S (st (ab Y) Y (st (ab Y) Y (st (sT Z (c7 Y Y)) Y (st (ab Y) Y (sg1 Y Y (ab Y) Y (sg1 Y Y (ab Y) Y (sg1 Y Y (ab Y) Y ?_)))))))))
    refine sg1 Y Y (ao Y Y Z) Y (sg1 Y Y (bh 0 Y Y Z) Y (sg1 Y Y (ab Y) Y (sg1 Y Y (ab Y) Y (sg1 Y Y (cg _ 1 Y Y Z Z) Y (sg1 Y Y (ao Y Y Z) Y (sg1 Y Y (bh 0 Y Y Z) Y ?_))))))
    refine sg1 Y Y (ld hcl Y Y ⟨VT.le_refl _,VT.le_refl _,trivial⟩) Y ?_
    refine sg1 Y Y (sT (by assumption) (a7 Y Y)) Y (st (bj Y Y) Y (Run.nil (Run.nil (aa (aH Y (az (aa (ae (au ?_)))))))))
    apply iE (Γ1 := [(9,_),(0,_),(1,_),(2,_),(3,_),(8,_)]) (M1 := [_]) 15 6 [2,3,4] [] aZ X S
    ·refine st (ab Y) Y (st (ab Y) Y (st (ab Y) Y (st (ab Y) Y (st (cg _ 1 Y Y Z Z) Y (st (ab Y) Y (st (ab Y) Y (st (cg _ 1 Y Y Z Z) Y (st (ao Y Y Z) Y (st (bh 0 Y Y Z) Y ?_)))))))))
     refine st (ab Y) Y (st (ab Y) Y (st (ao Y Y Z) Y (st (bh 0 Y Y Z) Y (st (ao Y Y Z) Y (Run.nil ?_)))))
     refine Cf (Γa := [(9,_),(0,_),(1,_),(2,_),(3,_),(8,_),(51,_),(46,_),(50,_)]) (Γb := [(9,_),(0,_),(1,_),(2,_),(3,_),(8,_),(51,_),(46,_),(50,_),(41,_)]) (Γc := [(9,_),(0,_),(1,_),(2,_),(3,_),(8,_),(51,_),(46,_),(50,_),(40,_)]) (Γd := [(9,_),(0,_),(1,_),(2,_),(3,_),(8,_),(51,_),(46,_),(50,_),(40,_),(41,_)]) (Γe := [(9,_),(0,_),(1,_),(2,_),(3,_),(8,_),(51,_),(46,_),(50,_),(39,_)]) (Γf := [(9,_),(0,_),(1,_),(2,_),(3,_),(8,_),(51,_),(46,_),(50,_),(39,_),(41,_)]) (Γg := [(9,_),(0,_),(1,_),(2,_),(3,_),(8,_),(51,_),(46,_),(50,_),(39,_),(40,_)]) (Γh := [(9,_),(0,_),(1,_),(2,_),(3,_),(8,_),(51,_),(46,_),(50,_),(39,_),(40,_),(41,_)]) (rem := [15,16,17]) Y DT Y DT Y DT Y DT Y DT Y DT Y DT Y DT Y ?_ ?_ ?_ ?_ ?_ ?_ ?_ ?_
     ·refine et (r1 := [3,4,15,16,17]) (r2 := [2,4,15,16,17]) (r3 := [2,3,4,16,17]) (i:=2) (j:=3) (k:=15) X Y Y Y Y Y Y ?_ ?_ ?_ iD.nil
      refine st (ab Y) Y (Run.nil ?_)
      refine ⟨rfl,?_⟩
      refine bK (rem' := [4,15,16,17]) (rem'' := [3,4,16,17]) (i:=3) (j:=15) X Y Y Y Y ?_ ?_ iD.nil
      refine st (ab Y) Y (Run.nil ?_)
      refine ⟨rfl,?_⟩
      refine bK (rem' := [15,16,17]) (rem'' := [4,16,17]) (i:=4) (j:=15) X Y Y Y Y ?_ ?_ iD.nil
      refine st (cg _ 1 Y Y Z Z) Y (Run.nil ?_)
      refine ⟨rfl,?_⟩
      refine an (rem' := [16,17]) (i:=15) X Y Y ?_ iD.nil
      (refine aw 0 Y Y Y ?_ Y ?_;omega)
      refine Run.nil ?_
      refine ⟨rfl,?_⟩
      refine an (rem' := [17]) (i:=16) X Y Y ?_ iD.nil
      refine st (ao Y Y Z) Y (Run.nil ?_)
      refine ⟨rfl,?_⟩
      refine an (rem' := []) (i:=17) X Y Y ?_ iD.nil
      (refine aw 0 Y Y Y ?_ Y ?_;omega)
      refine Run.nil ?_
      refine ⟨rfl,?_⟩
      refine aV DT (SubM.refl _) iD.nil
      (refine aw 0 Y Y Y ?_ Y ?_;omega)
      refine Run.nil ?_
      refine ⟨rfl,?_⟩
      refine an (rem' := [16,17]) (i:=4) X Y Y ?_ iD.nil
      refine st (cg _ 1 Y Y Z Z) Y (Run.nil ?_)
      refine ⟨rfl,?_⟩
      refine an (rem' := [17]) (i:=16) X Y Y ?_ iD.nil
      refine st (ao Y Y Z) Y (Run.nil ?_)
      refine ⟨rfl,?_⟩
      refine an (rem' := []) (i:=17) X Y Y ?_ iD.nil
      (refine aw 0 Y Y Y ?_ Y ?_;omega)
      refine Run.nil ?_
      refine ⟨rfl,?_⟩
      refine aV DT (SubM.refl _) iD.nil
      (refine aw 0 Y Y Y ?_ Y ?_;omega)
      refine Run.nil ?_
      refine ⟨rfl,?_⟩
      refine an (rem' := [4,16,17]) (i:=3) X Y Y ?_ iD.nil
      refine st (ab Y) Y (Run.nil ?_)
      refine ⟨rfl,?_⟩
      refine an (rem' := [16,17]) (i:=4) X Y Y ?_ iD.nil
      refine st (cg _ 1 Y Y Z Z) Y (Run.nil ?_)
      refine ⟨rfl,?_⟩
      refine an (rem' := [17]) (i:=16) X Y Y ?_ iD.nil
      refine st (ao Y Y Z) Y (Run.nil ?_)
      refine ⟨rfl,?_⟩
      refine an (rem' := []) (i:=17) X Y Y ?_ iD.nil
      (refine aw 0 Y Y Y ?_ Y ?_;omega)
      refine Run.nil ?_
      refine ⟨rfl,?_⟩
      refine aV DT (SubM.refl _) iD.nil
      refine st (ab Y) Y (Run.nil ?_)
      refine ⟨rfl,?_⟩
      refine et (r1 := [4,15,16,17]) (r2 := [2,15,16,17]) (r3 := [2,4,16,17]) (i:=2) (j:=4) (k:=15) X Y Y Y Y Y Y ?_ ?_ ?_ iD.nil
      refine st (ab Y) Y (Run.nil ?_)
      refine ⟨rfl,?_⟩
      refine bK (rem' := [15,16,17]) (rem'' := [4,16,17]) (i:=4) (j:=15) X Y Y Y Y ?_ ?_ iD.nil
      refine st (cg _ 1 Y Y Z Z) Y (Run.nil ?_)
      refine ⟨rfl,?_⟩
      refine an (rem' := [16,17]) (i:=15) X Y Y ?_ iD.nil
      (refine aw 0 Y Y Y ?_ Y ?_;omega)
      refine Run.nil ?_
      refine ⟨rfl,?_⟩
      refine an (rem' := [17]) (i:=16) X Y Y ?_ iD.nil
      refine st (ao Y Y Z) Y (Run.nil ?_)
      refine ⟨rfl,?_⟩
      refine an (rem' := []) (i:=17) X Y Y ?_ iD.nil
      (refine aw 0 Y Y Y ?_ Y ?_;omega)
      refine Run.nil ?_
      refine ⟨rfl,?_⟩
      refine aV DT (SubM.refl _) iD.nil
      (refine aw 0 Y Y Y ?_ Y ?_;omega)
      refine Run.nil ?_
      refine ⟨rfl,?_⟩
      refine an (rem' := [16,17]) (i:=4) X Y Y ?_ iD.nil
      refine st (cg _ 1 Y Y Z Z) Y (Run.nil ?_)
      refine ⟨rfl,?_⟩
      refine an (rem' := [17]) (i:=16) X Y Y ?_ iD.nil
      refine st (ao Y Y Z) Y (Run.nil ?_)
      refine ⟨rfl,?_⟩
      refine an (rem' := []) (i:=17) X Y Y ?_ iD.nil
      (refine aw 0 Y Y Y ?_ Y ?_;omega)
      refine Run.nil ?_
      refine ⟨rfl,?_⟩
      refine aV DT (SubM.refl _) iD.nil
      refine st (cg _ 1 Y Y Z Z) Y (Run.nil ?_)
      refine ⟨rfl,?_⟩
      refine bK (rem' := [15,16,17]) (rem'' := [2,16,17]) (i:=2) (j:=15) X Y Y Y Y ?_ ?_ iD.nil
      refine st (ab Y) Y (Run.nil ?_)
      refine ⟨rfl,?_⟩
      refine an (rem' := [16,17]) (i:=15) X Y Y ?_ iD.nil
      (refine aw 0 Y Y Y ?_ Y ?_;omega)
      refine Run.nil ?_
      refine ⟨rfl,?_⟩
      refine an (rem' := [17]) (i:=16) X Y Y ?_ iD.nil
      refine st (ao Y Y Z) Y (Run.nil ?_)
      refine ⟨rfl,?_⟩
      refine an (rem' := []) (i:=17) X Y Y ?_ iD.nil
      (refine aw 0 Y Y Y ?_ Y ?_;omega)
      refine Run.nil ?_
      refine ⟨rfl,?_⟩
      refine aV DT (SubM.refl _) iD.nil
      (refine aw 0 Y Y Y ?_ Y ?_;omega)
      refine Run.nil ?_
      refine ⟨rfl,?_⟩
      refine an (rem' := [16,17]) (i:=2) X Y Y ?_ iD.nil
      refine st (ab Y) Y (Run.nil ?_)
      refine ⟨rfl,?_⟩
      refine an (rem' := [17]) (i:=16) X Y Y ?_ iD.nil
      refine st (ao Y Y Z) Y (Run.nil ?_)
      refine ⟨rfl,?_⟩
      refine an (rem' := []) (i:=17) X Y Y ?_ iD.nil
      (refine aw 0 Y Y Y ?_ Y ?_;omega)
      refine Run.nil ?_
      refine ⟨rfl,?_⟩
      refine aV DT (SubM.refl _) iD.nil
      (refine aw 0 Y Y Y ?_ Y ?_;omega)
      refine Run.nil ?_
      refine ⟨rfl,?_⟩
      refine bK (rem' := [4,16,17]) (rem'' := [2,16,17]) (i:=2) (j:=4) X Y Y Y Y ?_ ?_ iD.nil
      refine st (ab Y) Y (Run.nil ?_)
      refine ⟨rfl,?_⟩
      refine an (rem' := [16,17]) (i:=4) X Y Y ?_ iD.nil
      refine st (cg _ 1 Y Y Z Z) Y (Run.nil ?_)
      refine ⟨rfl,?_⟩
      refine an (rem' := [17]) (i:=16) X Y Y ?_ iD.nil
      refine st (ao Y Y Z) Y (Run.nil ?_)
      refine ⟨rfl,?_⟩
      refine an (rem' := []) (i:=17) X Y Y ?_ iD.nil
      (refine aw 0 Y Y Y ?_ Y ?_;omega)
      refine Run.nil ?_
      refine ⟨rfl,?_⟩
      refine aV DT (SubM.refl _) iD.nil
      refine st (cg _ 1 Y Y Z Z) Y (Run.nil ?_)
      refine ⟨rfl,?_⟩
      refine an (rem' := [16,17]) (i:=2) X Y Y ?_ iD.nil
      refine st (ab Y) Y (Run.nil ?_)
      refine ⟨rfl,?_⟩
      refine an (rem' := [17]) (i:=16) X Y Y ?_ iD.nil
      refine st (ao Y Y Z) Y (Run.nil ?_)
      refine ⟨rfl,?_⟩
      refine an (rem' := []) (i:=17) X Y Y ?_ iD.nil
      (refine aw 0 Y Y Y ?_ Y ?_;omega)
      refine Run.nil ?_
      refine ⟨rfl,?_⟩
      refine aV DT (SubM.refl _) iD.nil
      (refine aw 0 Y Y Y ?_ Y ?_;omega)
      refine Run.nil ?_
      refine ⟨rfl,?_⟩
      refine bK (rem' := [3,4,16,17]) (rem'' := [2,4,16,17]) (i:=2) (j:=3) X Y Y Y Y ?_ ?_ iD.nil
      refine st (ab Y) Y (Run.nil ?_)
      refine ⟨rfl,?_⟩
      refine an (rem' := [4,16,17]) (i:=3) X Y Y ?_ iD.nil
      refine st (ab Y) Y (Run.nil ?_)
      refine ⟨rfl,?_⟩
      refine an (rem' := [16,17]) (i:=4) X Y Y ?_ iD.nil
      refine st (cg _ 1 Y Y Z Z) Y (Run.nil ?_)
      refine ⟨rfl,?_⟩
      refine an (rem' := [17]) (i:=16) X Y Y ?_ iD.nil
      refine st (ao Y Y Z) Y (Run.nil ?_)
      refine ⟨rfl,?_⟩
      refine an (rem' := []) (i:=17) X Y Y ?_ iD.nil
      (refine aw 0 Y Y Y ?_ Y ?_;omega)
      refine Run.nil ?_
      refine ⟨rfl,?_⟩
      refine aV DT (SubM.refl _) iD.nil
      refine st (ab Y) Y (Run.nil ?_)
      refine ⟨rfl,?_⟩
      refine bK (rem' := [4,16,17]) (rem'' := [2,16,17]) (i:=2) (j:=4) X Y Y Y Y ?_ ?_ iD.nil
      refine st (ab Y) Y (Run.nil ?_)
      refine ⟨rfl,?_⟩
      refine an (rem' := [16,17]) (i:=4) X Y Y ?_ iD.nil
      refine st (cg _ 1 Y Y Z Z) Y (Run.nil ?_)
      refine ⟨rfl,?_⟩
      refine an (rem' := [17]) (i:=16) X Y Y ?_ iD.nil
      refine st (ao Y Y Z) Y (Run.nil ?_)
      refine ⟨rfl,?_⟩
      refine an (rem' := []) (i:=17) X Y Y ?_ iD.nil
      (refine aw 0 Y Y Y ?_ Y ?_;omega)
      refine Run.nil ?_
      refine ⟨rfl,?_⟩
      refine aV DT (SubM.refl _) iD.nil
      refine st (cg _ 1 Y Y Z Z) Y (Run.nil ?_)
      refine ⟨rfl,?_⟩
      refine an (rem' := [16,17]) (i:=2) X Y Y ?_ iD.nil
      refine st (ab Y) Y (Run.nil ?_)
      refine ⟨rfl,?_⟩
      refine an (rem' := [17]) (i:=16) X Y Y ?_ iD.nil
      refine st (ao Y Y Z) Y (Run.nil ?_)
      refine ⟨rfl,?_⟩
      refine an (rem' := []) (i:=17) X Y Y ?_ iD.nil
      (refine aw 0 Y Y Y ?_ Y ?_;omega)
      refine Run.nil ?_
      refine ⟨rfl,?_⟩
      refine aV DT (SubM.refl _) iD.nil
     ·refine et (r1 := [3,15,16,17]) (r2 := [2,15,16,17]) (r3 := [2,3,16,17]) (i:=2) (j:=3) (k:=15) X Y Y Y Y Y Y ?_ ?_ ?_ iD.nil
      refine st (ab Y) Y (Run.nil ?_)
      refine ⟨rfl,?_⟩
      refine bK (rem' := [15,16,17]) (rem'' := [3,16,17]) (i:=3) (j:=15) X Y Y Y Y ?_ ?_ iD.nil
      refine st (ab Y) Y (Run.nil ?_)
      refine ⟨rfl,?_⟩
      refine an (rem' := [16,17]) (i:=15) X Y Y ?_ iD.nil
      (refine aw 0 Y Y Y ?_ Y ?_;omega)
      refine Run.nil ?_
      refine ⟨rfl,?_⟩
      refine an (rem' := [17]) (i:=16) X Y Y ?_ iD.nil
      refine st (ao Y Y Z) Y (Run.nil ?_)
      refine ⟨rfl,?_⟩
      refine an (rem' := []) (i:=17) X Y Y ?_ iD.nil
      (refine aw 0 Y Y Y ?_ Y ?_;omega)
      refine Run.nil ?_
      refine ⟨rfl,?_⟩
      refine aV DT (SubM.refl _) iD.nil
      (refine aw 0 Y Y Y ?_ Y ?_;omega)
      refine Run.nil ?_
      refine ⟨rfl,?_⟩
      refine an (rem' := [16,17]) (i:=3) X Y Y ?_ iD.nil
      refine st (ab Y) Y (Run.nil ?_)
      refine ⟨rfl,?_⟩
      refine an (rem' := [17]) (i:=16) X Y Y ?_ iD.nil
      refine st (ao Y Y Z) Y (Run.nil ?_)
      refine ⟨rfl,?_⟩
      refine an (rem' := []) (i:=17) X Y Y ?_ iD.nil
      (refine aw 0 Y Y Y ?_ Y ?_;omega)
      refine Run.nil ?_
      refine ⟨rfl,?_⟩
      refine aV DT (SubM.refl _) iD.nil
      refine st (ab Y) Y (Run.nil ?_)
      refine ⟨rfl,?_⟩
      refine bK (rem' := [15,16,17]) (rem'' := [2,16,17]) (i:=2) (j:=15) X Y Y Y Y ?_ ?_ iD.nil
      refine st (ab Y) Y (Run.nil ?_)
      refine ⟨rfl,?_⟩
      refine an (rem' := [16,17]) (i:=15) X Y Y ?_ iD.nil
      (refine aw 0 Y Y Y ?_ Y ?_;omega)
      refine Run.nil ?_
      refine ⟨rfl,?_⟩
      refine an (rem' := [17]) (i:=16) X Y Y ?_ iD.nil
      refine st (ao Y Y Z) Y (Run.nil ?_)
      refine ⟨rfl,?_⟩
      refine an (rem' := []) (i:=17) X Y Y ?_ iD.nil
      (refine aw 0 Y Y Y ?_ Y ?_;omega)
      refine Run.nil ?_
      refine ⟨rfl,?_⟩
      refine aV DT (SubM.refl _) iD.nil
      (refine aw 0 Y Y Y ?_ Y ?_;omega)
      refine Run.nil ?_
      refine ⟨rfl,?_⟩
      refine an (rem' := [16,17]) (i:=2) X Y Y ?_ iD.nil
      refine st (ab Y) Y (Run.nil ?_)
      refine ⟨rfl,?_⟩
      refine an (rem' := [17]) (i:=16) X Y Y ?_ iD.nil
      refine st (ao Y Y Z) Y (Run.nil ?_)
      refine ⟨rfl,?_⟩
      refine an (rem' := []) (i:=17) X Y Y ?_ iD.nil
      (refine aw 0 Y Y Y ?_ Y ?_;omega)
      refine Run.nil ?_
      refine ⟨rfl,?_⟩
      refine aV DT (SubM.refl _) iD.nil
      (refine aw 0 Y Y Y ?_ Y ?_;omega)
      refine Run.nil ?_
      refine ⟨rfl,?_⟩
      refine bK (rem' := [3,16,17]) (rem'' := [2,16,17]) (i:=2) (j:=3) X Y Y Y Y ?_ ?_ iD.nil
      refine st (ab Y) Y (Run.nil ?_)
      refine ⟨rfl,?_⟩
      refine an (rem' := [16,17]) (i:=3) X Y Y ?_ iD.nil
      refine st (ab Y) Y (Run.nil ?_)
      refine ⟨rfl,?_⟩
      refine an (rem' := [17]) (i:=16) X Y Y ?_ iD.nil
      refine st (ao Y Y Z) Y (Run.nil ?_)
      refine ⟨rfl,?_⟩
      refine an (rem' := []) (i:=17) X Y Y ?_ iD.nil
      (refine aw 0 Y Y Y ?_ Y ?_;omega)
      refine Run.nil ?_
      refine ⟨rfl,?_⟩
      refine aV DT (SubM.refl _) iD.nil
      refine st (ab Y) Y (Run.nil ?_)
      refine ⟨rfl,?_⟩
      refine an (rem' := [16,17]) (i:=2) X Y Y ?_ iD.nil
      refine st (ab Y) Y (Run.nil ?_)
      refine ⟨rfl,?_⟩
      refine an (rem' := [17]) (i:=16) X Y Y ?_ iD.nil
      refine st (ao Y Y Z) Y (Run.nil ?_)
      refine ⟨rfl,?_⟩
      refine an (rem' := []) (i:=17) X Y Y ?_ iD.nil
      (refine aw 0 Y Y Y ?_ Y ?_;omega)
      refine Run.nil ?_
      refine ⟨rfl,?_⟩
      refine aV DT (SubM.refl _) iD.nil
     ·refine et (r1 := [4,15,16,17]) (r2 := [2,15,16,17]) (r3 := [2,4,16,17]) (i:=2) (j:=4) (k:=15) X Y Y Y Y Y Y ?_ ?_ ?_ iD.nil
      refine st (ab Y) Y (Run.nil ?_)
      refine ⟨rfl,?_⟩
      refine bK (rem' := [15,16,17]) (rem'' := [4,16,17]) (i:=4) (j:=15) X Y Y Y Y ?_ ?_ iD.nil
      refine st (cg _ 1 Y Y Z Z) Y (Run.nil ?_)
      refine ⟨rfl,?_⟩
      refine an (rem' := [16,17]) (i:=15) X Y Y ?_ iD.nil
      (refine aw 0 Y Y Y ?_ Y ?_;omega)
      refine Run.nil ?_
      refine ⟨rfl,?_⟩
      refine an (rem' := [17]) (i:=16) X Y Y ?_ iD.nil
      refine st (ao Y Y Z) Y (Run.nil ?_)
      refine ⟨rfl,?_⟩
      refine an (rem' := []) (i:=17) X Y Y ?_ iD.nil
      (refine aw 0 Y Y Y ?_ Y ?_;omega)
      refine Run.nil ?_
      refine ⟨rfl,?_⟩
      refine aV DT (SubM.refl _) iD.nil
      (refine aw 0 Y Y Y ?_ Y ?_;omega)
      refine Run.nil ?_
      refine ⟨rfl,?_⟩
      refine an (rem' := [16,17]) (i:=4) X Y Y ?_ iD.nil
      refine st (cg _ 1 Y Y Z Z) Y (Run.nil ?_)
      refine ⟨rfl,?_⟩
      refine an (rem' := [17]) (i:=16) X Y Y ?_ iD.nil
      refine st (ao Y Y Z) Y (Run.nil ?_)
      refine ⟨rfl,?_⟩
      refine an (rem' := []) (i:=17) X Y Y ?_ iD.nil
      (refine aw 0 Y Y Y ?_ Y ?_;omega)
      refine Run.nil ?_
      refine ⟨rfl,?_⟩
      refine aV DT (SubM.refl _) iD.nil
      refine st (cg _ 1 Y Y Z Z) Y (Run.nil ?_)
      refine ⟨rfl,?_⟩
      refine bK (rem' := [15,16,17]) (rem'' := [2,16,17]) (i:=2) (j:=15) X Y Y Y Y ?_ ?_ iD.nil
      refine st (ab Y) Y (Run.nil ?_)
      refine ⟨rfl,?_⟩
      refine an (rem' := [16,17]) (i:=15) X Y Y ?_ iD.nil
      (refine aw 0 Y Y Y ?_ Y ?_;omega)
      refine Run.nil ?_
      refine ⟨rfl,?_⟩
      refine an (rem' := [17]) (i:=16) X Y Y ?_ iD.nil
      refine st (ao Y Y Z) Y (Run.nil ?_)
      refine ⟨rfl,?_⟩
      refine an (rem' := []) (i:=17) X Y Y ?_ iD.nil
      (refine aw 0 Y Y Y ?_ Y ?_;omega)
      refine Run.nil ?_
      refine ⟨rfl,?_⟩
      refine aV DT (SubM.refl _) iD.nil
      (refine aw 0 Y Y Y ?_ Y ?_;omega)
      refine Run.nil ?_
      refine ⟨rfl,?_⟩
      refine an (rem' := [16,17]) (i:=2) X Y Y ?_ iD.nil
      refine st (ab Y) Y (Run.nil ?_)
      refine ⟨rfl,?_⟩
      refine an (rem' := [17]) (i:=16) X Y Y ?_ iD.nil
      refine st (ao Y Y Z) Y (Run.nil ?_)
      refine ⟨rfl,?_⟩
      refine an (rem' := []) (i:=17) X Y Y ?_ iD.nil
      (refine aw 0 Y Y Y ?_ Y ?_;omega)
      refine Run.nil ?_
      refine ⟨rfl,?_⟩
      refine aV DT (SubM.refl _) iD.nil
      (refine aw 0 Y Y Y ?_ Y ?_;omega)
      refine Run.nil ?_
      refine ⟨rfl,?_⟩
      refine bK (rem' := [4,16,17]) (rem'' := [2,16,17]) (i:=2) (j:=4) X Y Y Y Y ?_ ?_ iD.nil
      refine st (ab Y) Y (Run.nil ?_)
      refine ⟨rfl,?_⟩
      refine an (rem' := [16,17]) (i:=4) X Y Y ?_ iD.nil
      refine st (cg _ 1 Y Y Z Z) Y (Run.nil ?_)
      refine ⟨rfl,?_⟩
      refine an (rem' := [17]) (i:=16) X Y Y ?_ iD.nil
      refine st (ao Y Y Z) Y (Run.nil ?_)
      refine ⟨rfl,?_⟩
      refine an (rem' := []) (i:=17) X Y Y ?_ iD.nil
      (refine aw 0 Y Y Y ?_ Y ?_;omega)
      refine Run.nil ?_
      refine ⟨rfl,?_⟩
      refine aV DT (SubM.refl _) iD.nil
      refine st (cg _ 1 Y Y Z Z) Y (Run.nil ?_)
      refine ⟨rfl,?_⟩
      refine an (rem' := [16,17]) (i:=2) X Y Y ?_ iD.nil
      refine st (ab Y) Y (Run.nil ?_)
      refine ⟨rfl,?_⟩
      refine an (rem' := [17]) (i:=16) X Y Y ?_ iD.nil
      refine st (ao Y Y Z) Y (Run.nil ?_)
      refine ⟨rfl,?_⟩
      refine an (rem' := []) (i:=17) X Y Y ?_ iD.nil
      (refine aw 0 Y Y Y ?_ Y ?_;omega)
      refine Run.nil ?_
      refine ⟨rfl,?_⟩
      refine aV DT (SubM.refl _) iD.nil
     ·refine bK (rem' := [15,16,17]) (rem'' := [2,16,17]) (i:=2) (j:=15) X Y Y Y Y ?_ ?_ iD.nil
      refine st (ab Y) Y (Run.nil ?_)
      refine ⟨rfl,?_⟩
      refine an (rem' := [16,17]) (i:=15) X Y Y ?_ iD.nil
      (refine aw 0 Y Y Y ?_ Y ?_;omega)
      refine Run.nil ?_
      refine ⟨rfl,?_⟩
      refine an (rem' := [17]) (i:=16) X Y Y ?_ iD.nil
      refine st (ao Y Y Z) Y (Run.nil ?_)
      refine ⟨rfl,?_⟩
      refine an (rem' := []) (i:=17) X Y Y ?_ iD.nil
      (refine aw 0 Y Y Y ?_ Y ?_;omega)
      refine Run.nil ?_
      refine ⟨rfl,?_⟩
      refine aV DT (SubM.refl _) iD.nil
      (refine aw 0 Y Y Y ?_ Y ?_;omega)
      refine Run.nil ?_
      refine ⟨rfl,?_⟩
      refine an (rem' := [16,17]) (i:=2) X Y Y ?_ iD.nil
      refine st (ab Y) Y (Run.nil ?_)
      refine ⟨rfl,?_⟩
      refine an (rem' := [17]) (i:=16) X Y Y ?_ iD.nil
      refine st (ao Y Y Z) Y (Run.nil ?_)
      refine ⟨rfl,?_⟩
      refine an (rem' := []) (i:=17) X Y Y ?_ iD.nil
      (refine aw 0 Y Y Y ?_ Y ?_;omega)
      refine Run.nil ?_
      refine ⟨rfl,?_⟩
      refine aV DT (SubM.refl _) iD.nil
     ·refine bK (rem' := [4,15,16,17]) (rem'' := [3,4,16,17]) (i:=3) (j:=15) X Y Y Y Y ?_ ?_ iD.nil
      refine st (ab Y) Y (Run.nil ?_)
      refine ⟨rfl,?_⟩
      refine bK (rem' := [15,16,17]) (rem'' := [4,16,17]) (i:=4) (j:=15) X Y Y Y Y ?_ ?_ iD.nil
      refine st (cg _ 1 Y Y Z Z) Y (Run.nil ?_)
      refine ⟨rfl,?_⟩
      refine an (rem' := [16,17]) (i:=15) X Y Y ?_ iD.nil
      (refine aw 0 Y Y Y ?_ Y ?_;omega)
      refine Run.nil ?_
      refine ⟨rfl,?_⟩
      refine an (rem' := [17]) (i:=16) X Y Y ?_ iD.nil
      refine st (ao Y Y Z) Y (Run.nil ?_)
      refine ⟨rfl,?_⟩
      refine an (rem' := []) (i:=17) X Y Y ?_ iD.nil
      (refine aw 0 Y Y Y ?_ Y ?_;omega)
      refine Run.nil ?_
      refine ⟨rfl,?_⟩
      refine aV DT (SubM.refl _) iD.nil
      (refine aw 0 Y Y Y ?_ Y ?_;omega)
      refine Run.nil ?_
      refine ⟨rfl,?_⟩
      refine an (rem' := [16,17]) (i:=4) X Y Y ?_ iD.nil
      refine st (cg _ 1 Y Y Z Z) Y (Run.nil ?_)
      refine ⟨rfl,?_⟩
      refine an (rem' := [17]) (i:=16) X Y Y ?_ iD.nil
      refine st (ao Y Y Z) Y (Run.nil ?_)
      refine ⟨rfl,?_⟩
      refine an (rem' := []) (i:=17) X Y Y ?_ iD.nil
      (refine aw 0 Y Y Y ?_ Y ?_;omega)
      refine Run.nil ?_
      refine ⟨rfl,?_⟩
      refine aV DT (SubM.refl _) iD.nil
      (refine aw 0 Y Y Y ?_ Y ?_;omega)
      refine Run.nil ?_
      refine ⟨rfl,?_⟩
      refine an (rem' := [4,16,17]) (i:=3) X Y Y ?_ iD.nil
      refine st (ab Y) Y (Run.nil ?_)
      refine ⟨rfl,?_⟩
      refine an (rem' := [16,17]) (i:=4) X Y Y ?_ iD.nil
      refine st (cg _ 1 Y Y Z Z) Y (Run.nil ?_)
      refine ⟨rfl,?_⟩
      refine an (rem' := [17]) (i:=16) X Y Y ?_ iD.nil
      refine st (ao Y Y Z) Y (Run.nil ?_)
      refine ⟨rfl,?_⟩
      refine an (rem' := []) (i:=17) X Y Y ?_ iD.nil
      (refine aw 0 Y Y Y ?_ Y ?_;omega)
      refine Run.nil ?_
      refine ⟨rfl,?_⟩
      refine aV DT (SubM.refl _) iD.nil
     ·refine bK (rem' := [15,16,17]) (rem'' := [3,16,17]) (i:=3) (j:=15) X Y Y Y Y ?_ ?_ iD.nil
      refine st (ab Y) Y (Run.nil ?_)
      refine ⟨rfl,?_⟩
      refine an (rem' := [16,17]) (i:=15) X Y Y ?_ iD.nil
      (refine aw 0 Y Y Y ?_ Y ?_;omega)
      refine Run.nil ?_
      refine ⟨rfl,?_⟩
      refine an (rem' := [17]) (i:=16) X Y Y ?_ iD.nil
      refine st (ao Y Y Z) Y (Run.nil ?_)
      refine ⟨rfl,?_⟩
      refine an (rem' := []) (i:=17) X Y Y ?_ iD.nil
      (refine aw 0 Y Y Y ?_ Y ?_;omega)
      refine Run.nil ?_
      refine ⟨rfl,?_⟩
      refine aV DT (SubM.refl _) iD.nil
      (refine aw 0 Y Y Y ?_ Y ?_;omega)
      refine Run.nil ?_
      refine ⟨rfl,?_⟩
      refine an (rem' := [16,17]) (i:=3) X Y Y ?_ iD.nil
      refine st (ab Y) Y (Run.nil ?_)
      refine ⟨rfl,?_⟩
      refine an (rem' := [17]) (i:=16) X Y Y ?_ iD.nil
      refine st (ao Y Y Z) Y (Run.nil ?_)
      refine ⟨rfl,?_⟩
      refine an (rem' := []) (i:=17) X Y Y ?_ iD.nil
      (refine aw 0 Y Y Y ?_ Y ?_;omega)
      refine Run.nil ?_
      refine ⟨rfl,?_⟩
      refine aV DT (SubM.refl _) iD.nil
     ·refine bK (rem' := [15,16,17]) (rem'' := [4,16,17]) (i:=4) (j:=15) X Y Y Y Y ?_ ?_ iD.nil
      refine st (cg _ 1 Y Y Z Z) Y (Run.nil ?_)
      refine ⟨rfl,?_⟩
      refine an (rem' := [16,17]) (i:=15) X Y Y ?_ iD.nil
      (refine aw 0 Y Y Y ?_ Y ?_;omega)
      refine Run.nil ?_
      refine ⟨rfl,?_⟩
      refine an (rem' := [17]) (i:=16) X Y Y ?_ iD.nil
      refine st (ao Y Y Z) Y (Run.nil ?_)
      refine ⟨rfl,?_⟩
      refine an (rem' := []) (i:=17) X Y Y ?_ iD.nil
      (refine aw 0 Y Y Y ?_ Y ?_;omega)
      refine Run.nil ?_
      refine ⟨rfl,?_⟩
      refine aV DT (SubM.refl _) iD.nil
      (refine aw 0 Y Y Y ?_ Y ?_;omega)
      refine Run.nil ?_
      refine ⟨rfl,?_⟩
      refine an (rem' := [16,17]) (i:=4) X Y Y ?_ iD.nil
      refine st (cg _ 1 Y Y Z Z) Y (Run.nil ?_)
      refine ⟨rfl,?_⟩
      refine an (rem' := [17]) (i:=16) X Y Y ?_ iD.nil
      refine st (ao Y Y Z) Y (Run.nil ?_)
      refine ⟨rfl,?_⟩
      refine an (rem' := []) (i:=17) X Y Y ?_ iD.nil
      (refine aw 0 Y Y Y ?_ Y ?_;omega)
      refine Run.nil ?_
      refine ⟨rfl,?_⟩
      refine aV DT (SubM.refl _) iD.nil
     ·refine an (rem' := [16,17]) (i:=15) X Y Y ?_ iD.nil
      (refine aw 0 Y Y Y ?_ Y ?_;omega)
      refine Run.nil ?_
      refine ⟨rfl,?_⟩
      refine an (rem' := [17]) (i:=16) X Y Y ?_ iD.nil
      refine st (ao Y Y Z) Y (Run.nil ?_)
      refine ⟨rfl,?_⟩
      refine an (rem' := []) (i:=17) X Y Y ?_ iD.nil
      (refine aw 0 Y Y Y ?_ Y ?_;omega)
      refine Run.nil ?_
      refine ⟨rfl,?_⟩
      refine aV DT (SubM.refl _) iD.nil
    ·refine aD (aa (ai (st (ab Y) Y (st (cg _ 1 Y Y Z Z) Y (st (ah Y) Y (Run.nil ?_))))))
     refine aQ ((j,iG j h)) (⟨by omega,hin.swp Z,hI⟩) Z DR (.keep (zH) (.nil))
   ·rw [if_neg hlt2] at hI
    have hcc : ¬ cU (h j) (h (j+1))<0:=by unfold cU;split <;> (try split) <;> omega
    generalize cU (h j) (h (j+1))=cc at *
    subst hI
    refine ae (ae (a6 17 aZ X S (st (ab Y) Y (st (ab Y) Y (st (sT Z (c7 Y Y)) Y (st (ab Y) Y (sg1 Y Y (ab Y) Y (sg1 Y Y (ab Y) Y (sg1 Y Y (ab Y) Y ?_)))))))))
    refine sg1 Y Y (ao Y Y Z) Y (sg1 Y Y (bh 0 Y Y Z) Y (sg1 Y Y (ab Y) Y (sg1 Y Y (ab Y) Y (sg1 Y Y (cg _ 1 Y Y Z Z) Y (sg1 Y Y (ao Y Y Z) Y (sg1 Y Y (bh 0 Y Y Z) Y ?_))))))
    refine sg1 Y Y (ld hcl Y Y ⟨VT.le_refl _,VT.le_refl _,trivial⟩) Y ?_
    refine sg1 Y Y (sF (by assumption) (a7 Y Y)) Y (st (bj Y Y) Y (Run.nil (Run.nil (aa (aB Y (aX (av (av (aF ?_)))))))))
    refine aD (aa (ai (st (ab Y) Y (st (bI _ 1 Y Y Z) Y (st (ah Y) Y (Run.nil ?_))))))
    refine aQ (t+1) Z Z DR (.keep DU (.nil))
 ·refine ae (ae (ai (st (ab Y) Y (st (ab Y) Y (st (sF Z (a7 Y Y)) Y (Run.nil (aa (aB Y (aX ?_)))))))))
  refine av (av (aF (i6 ?_)))
  exact lk (σ:=Unit) (ψ:=fun _=>bv []) () Tryz.results169 H (.keep (be fun q hq=>by rw [show t+1=n by omega]) .nil)
end Tor
end
section
namespace Tor
open Go Go.RowKit Go.Proofs
theorem Bq:VT.le (one (.slice none 0 0)) (one (slV none 0 0)):=VT.le_refl _
attribute [local irreducible] Tor.J Tor.PJ Tor.aK Tor.one Tor.slT Tor.bO Tor.bC Tor.bv Tor.exT Tor.cd Tor.eP Tor.aR Tor.aI Tor.slV Tor.VT.le Tor.Ret Tor.bJ
attribute [local irreducible] aL
set_option maxHeartbeats 4000000 in
theorem xd (x:Nat) (hx:x<256):Ok Tryz.prog 177 [one (.int .u64 (x:Nat))] (one (.int .i64 (fV x))):=by
 have k2:fV x≤8:=j7 (n:=8) Z S
 refine Ok.enter Tryz.func177 Y Tryz.ntmps177 Y (fun w O => ?_)
 refine ae (ai (st (ah Y) Y (Run.nil (aa (ae (ae (ai (st (ab Y) Y (st (sF Z (fx Y Y)) Y ?_)))))))))
 refine Run.nil (aa (aB Y (az (aa (ae (ae (ai (st (ab Y) Y (st (sF Z (fx Y Y)) Y ?_)))))))))
 refine Run.nil (aa (aB Y (az (aa (ae (ae (ai (st (ab Y) Y (st (sF Z (fx Y Y)) Y ?_)))))))))
 refine Run.nil (aa (aB Y (az (aa (ae (ai (st (ab Y) Y (st (ab Y) Y (st (li Y Z Z) Y ?_)))))))))
 refine st (gI X Y Y (oe U Z)) Y (st (ed Y Z Z) Y (st (cp Y Y (aP Z Z)) Y (st (ah Y) Y (Run.nil (aa (aE ?_))))))
 refine aT Tryz.results177 (.tmp Y (ar (by congr 1;omega)))
set_option maxHeartbeats 4000000 in
theorem Br (x:Nat) (hx:x<256):Ok Tryz.prog 155 [one (.int .u64 (x:Nat))] (one (.int .i64 (fV x))):=by
 have h:=xd x hx
 refine Ok.enter Tryz.func155 Y Tryz.ntmps155 Y (fun w O => ?_)
 refine ae (ai (st (ah Y) Y (Run.nil (aa (ae (aB Y (az (aa (ae ?_)))))))))
 refine ai (st (ab Y) Y ?_)
 refine st (am (h) Y ⟨VT.le_refl _,trivial⟩) Y ?_
 refine st (ah Y) Y (Run.nil (aa (aE ?_)))
 refine aT Tryz.results155 (.tmp Y H)
set_option maxHeartbeats 4000000 in
theorem CZ (sv:Option Nat) (cap n:Nat) (lim:Int) (g:Nat→Int) (cl:VT) (hn:n≤12) (hC : ∀ x y,(∃ i,i<n∧x=g i)→(∃ i,i<n∧y=g i)→fe Tryz.prog cl [aL x,aL y] (one (.int .i64 (cU y x)))) :
  OkI Tryz.prog 154 [one (slV sv n cap),one (.int .i64 0),one (.int .i64 (n:Nat)),one (.int .i64 lim),cl] [aI sv 37 (.agg 2) cap n (fun q=>aL (g q))]
   (fun _:Unit=>bv []) (fun _ => [aI sv 37 (.agg 2) cap n (fun q=>aL (dF n g q))]):=by
 have hi:=rm sv cap n g cl Z hC
 refine OkI.enter Tryz.func154 Y Tryz.ntmps154 Y (fun w O => ?_)
 refine ae (ai (st (ah Y) Y (Run.nil (aa (ae (ai (st (ah Y) Y (Run.nil (aa ?_)))))))))
 refine au ?_
 refine xU 0 ?_
 refine au (ae (ai (st (ab Y) Y (st (ab Y) Y (st (cg _ 0 Y Y Z Z) Y (st (ah Y) Y (Run.nil (aa (ae ?_)))))))))
 refine ae (ai (st (ab Y) Y (st (sT Z (rB Y Y)) Y (Run.nil (aa (aH Y (ae (ai (st (ab Y) Y ?_)))))))))
 refine st (ab Y) Y (st (ab Y) Y (st (ab Y) Y ?_))
 refine gn (Kp := []) hi Y ⟨VT.le_refl _,VT.le_refl _,VT.le_refl _,VT.le_refl _,trivial⟩ (List.Perm.refl _) Y Y (fun _ => ?_)
 refine Run.nil (aa (aE (aW (bN (aW (bN ?_))))))
 exact lk (σ:=Unit) (ψ:=fun _=>bv []) () Tryz.results154 H (SubM.refl _)
set_option maxHeartbeats 4000000 in
theorem tb (sv:Option Nat) (cap n:Nat) (g:Nat→Int) (cl:VT) (hn:n≤12) (hC : ∀ x y,(∃ i,i<n∧x=g i)→(∃ i,i<n∧y=g i)→fe Tryz.prog cl [aL x,aL y] (one (.int .i64 (cU y x)))) :
  OkI Tryz.prog 131 [one (slV sv n cap),cl] [aI sv 37 (.agg 2) cap n (fun q=>aL (g q))]
   (fun _:Unit=>bv []) (fun _ => [aI sv 37 (.agg 2) cap n (fun q=>aL (dF n g q))]):=by
 have hp:=fun lim=>CZ sv cap n lim g cl hn hC
 have hL:=Br n Z
 refine OkI.enter Tryz.func131 Y Tryz.ntmps131 Y (fun w O => ?_)
 refine ae (ai (st (ab Y) Y (st (cx Y) Y (st (ah Y) Y (Run.nil (aa (ai (st (ab Y) Y (st (ab Y) Y ?_)))))))))
 refine st (ab Y) Y (st (bT Y Z) Y ?_)
 refine st (am (hL) Y ⟨VT.le_refl _,trivial⟩) Y ?_
 refine st (ab Y) Y ?_
 refine gn (Kp := []) (hp _) Y ⟨VT.le_refl _,VT.le_refl _,VT.le_refl _,VT.le_refl _,VT.le_refl _,trivial⟩ (List.Perm.refl _) Y Y (fun _ => ?_)
 refine Run.nil (i6 ?_)
 exact lk (σ:=Unit) (ψ:=fun _=>bv []) () Tryz.results131 H (SubM.refl _)
set_option maxHeartbeats 4000000 in
theorem xe (x y:Int):Ok Tryz.prog 132 [aL x,aL y] (one (.int .i64 (cU y x))):=by
 have h:=gq y x
 refine Ok.enter Tryz.func132 Y Tryz.ntmps132 Y (fun w O => ?_)
 refine ae (ai ?_)
 refine gC Y Y (ltN Y) (fun b2 => ?_)
 refine gC Y Y (ltN Y) (fun b3 => ?_)
 refine st (ah Y) Y (Run.nil (aa (ae (ai (st (ak 0 Y Y Y) Y (st (ak 1 Y Y Y) Y ?_))))))
 refine st (am (h) Y ⟨VT.le_refl _,VT.le_refl _,trivial⟩) Y ?_
 refine st (ah Y) Y (Run.nil (aa (aE ?_)))
 refine aT Tryz.results132 (.tmp Y H)
theorem C0 {r c:Nat} {F:Nat→Nat→Int} : VT.le (slT (.agg 2) r (fun q=>aL (dF r (fun i=>(eK c (F i):Int)) q))) (slT (.agg 2) r (fun t=>aL (mD r c F t:Int))):=dX fun q hq=>gE (by rw [qc hq])
set_option maxHeartbeats 4000000 in
theorem uv (r c:Nat) (F:Nat→Nat→Int) (hr:r≤12) (hc:c≤1048576) (hF : ∀ i j,oc (F i j)):Ok Tryz.prog 85 [bR r c F] (slT (.agg 2) r (fun t=>aL (mD r c F t:Int))):=by
 have hd:=fun i=>CD c c (F i) (F i) hc hc (hF i) (hF i)
 have hd' : ∀ i,Ok Tryz.prog 130 [bD c (F i),bD c (F i)] (bv [aL (eK c (F i):Int),one (.int .i64 0)]):=fun i=>by
  have h:=hd i
  rw [if_pos Y,if_pos Y, ← vG] at h;exact h
 clear hd
 unfold bR bD at *
 refine Ok.enter Tryz.func85 Y Tryz.ntmps85 Y (fun w O => ?_)
 refine ae (ai ?_)
 refine aS Y Y (ltN Y) (fun b1 => ?_)
 refine st (ah Y) Y (Run.nil (aa (ae (ai (st (ah Y) Y (Run.nil (aa (ae (ae ?_)))))))))
 refine ai (st (aj Y) Y (st (ak 0 Y Y Y) Y (st (aU Y) Y (st (ab Y) Y (Run.nil (aa (au ?_)))))))
 refine f8 (ConvM.nilSl0 (T:=37) (L := .agg 2) (φ:=fun _=>bJ) _) ?_
 refine cn (Γ' := [(2,_),(3,_),(9,_),(10,_),(11,_)]) DQ (SubM.refl _) ?_
 refine bB (σ:=Nat × Option Nat × Nat) (Γk := [(2,_),(9,_),(10,_)]) DQ (fun s => [(11,one (.int .i64 (s.1:Nat))),(3,one (slV s.2.1 s.1 s.2.2))]) (fun s M0=>(M0.set 0 (aI s.2.1 37 (.agg 2) s.2.2 s.1 (fun q=>aL (eK c (F q):Int))))) (fun s=>s.1≤r) (fun s=>r - s.1) ((0,none,0)) (Nat.zero_le _) (by (repeat (first | exact dG.nil | refine dG.cons Y H ?_ | refine dG.cons Y Bq ?_))) (.keep (be (fun q hq=>absurd hq (Nat.not_lt_zero _))) (.keep DU (.nil))) (fun s hs => ?_)
 refine bQ (Γ' := [(11,_),(3,_),(2,_),(9,_),(10,_)]) (M' := [_,_]) Y Y ?_
 obtain ⟨i,sv,cap⟩:=s
 dsimp only at hs ⊢
 by_cases hi:i<r
 ·refine ae (ai (st (sT Z (a7 Y Y)) Y (Run.nil (aa (ae (aH Y (az (aa (ae ?_)))))))))
  refine au (ae (ai (st (aC Y Y Z) Y (st (aM Y) Y (st (ah Y) Y (Run.nil (aa (ae (ai ?_)))))))))
  refine st (ab Y) Y (st (ab Y) Y ?_)
  refine st (am (hd' _) Y ⟨VT.le_refl _,VT.le_refl _,trivial⟩) Y ?_
  refine st (ab Y) Y (st (aq Y Y) Y (st (aq Y Y) Y ?_))
  refine aG (T:=37) Y (ltN Y) (fun b6 => ?_)
  refine aA 0 Y Y Y Y Y (leN Y) Y (st (ah Y) Y (Run.nil (aa (ai (st (ab Y) Y (st (ak 0 Y Y Y) Y (fS Y Y Y Y ?_)))))))
  (refine cS 1 Y Y Y (leN Y) ?_ ?_ Y (ltN Y) (fun sv24 cap24 => ?_);omega;omega)
  refine st (ah Y) Y (Run.nil (aD (aa (ai (st (bI _ 1 Y Y Z) Y (st (ab Y) Y (Run.nil ?_)))))))
  refine aQ ((i+1,sv24,cap24)) (hi) Z DR (.drop (.keep (wV (h:=fun q=>(eK c (F q):Int)) Y) (.keep DU (.nil))))
 ·have he:i=r:=by omega
  subst he
  have hso:=tb sv cap i (fun q=>(eK c (F q):Int)) (one (.func (.func 132) #[] #[])) hr (fun x y _ _=>fe.fn (xe x y))
  refine ae (ai (st (sF Z (a7 Y Y)) Y (Run.nil (aa (ae (aB Y (aX (av (av ?_)))))))))
  refine aF (aa (ae (ai (st (ab Y) Y ?_))))
  refine gn (Kp := [_]) hso Y ⟨VT.le_refl _,VT.le_refl _,trivial⟩ (List.Perm.refl _) Y Y (fun _ => ?_)
  refine Run.nil (aa (ae (ai (st (ab Y) Y (st (ah Y) Y (Run.nil (aa (aE (cq (t:=2) (i:=0) Y Y ?_)))))))))
  refine aT Tryz.results85 (.tmp Y (C0))
set_option maxHeartbeats 4000000 in
theorem Bs (n:Nat) (g:Nat→Nat) (B:Nat) (hn:n≤1048576) (hB:1≤B) (hp:B^n<2^800) (hg : ∀ i,i<n→g i≤B):Ok Tryz.prog 84 [slT (.agg 2) n (fun t=>aL (g t:Int))] (aL (upN (prN n g):Int)):=by
 have h1:=jn 1 S S
 refine Ok.enter Tryz.func84 Y Tryz.ntmps84 Y (fun w O => ?_)
 refine ae (ai ?_)
 refine aG (T:=37) Y (ltN Y) (fun b2 => ?_)
 refine Run.nil (aa (ae (ai ?_)))
 refine st (am (h1) Y ⟨VT.le_refl _,trivial⟩) Y ?_
 refine aG (T:=37) Y (ltN Y) (fun b3 => ?_)
 refine aA 0 Y Y Y Y Y (leN Y) Y (Run.nil (aa (ae (ae (ai (st (ab Y) Y (st (aU Y) Y (st (ab Y) Y (Run.nil ?_)))))))))
 refine aa (au (cn (Γ' := [(2,_),(3,_),(9,_),(10,_),(11,_)]) DQ (SubM.refl _) ?_))
 refine bB (σ:=Nat) (Γk := [(2,_),(3,_),(9,_),(10,_)]) DQ (fun i => [(11,one (.int .i64 (i:Nat)))]) (fun i M0=>(M0.set 0 (aR b3 37 2 [(0, .agg 2,aL (prN i g:Int))]))) (fun i=>i≤n) (fun i=>n - i) (0) (Nat.zero_le _) DR (.keep DU (.keep DU (.nil))) (fun i hi => ?_)
 refine bQ (Γ' := [(11,_),(2,_),(3,_),(9,_),(10,_)]) (M' := [_,_]) Y Y ?_
 by_cases hi:i<n
 ·have hB8:=DF hB hp Z
  have hm:=eR (prN i g:Int) (g i:Int) (zq (zr (zt hB hp hg (Nat.le_of_lt hi)))) (zq (zr (Nat.lt_of_le_of_lt (hg i hi) hB8)))
  have hs:((prN (i+1) g:Nat):Int)=(prN i g:Int)*(g i:Int):=by rw [prN,Int.natCast_mul]
  refine ae (ai (st (sT Z (a7 Y Y)) Y (Run.nil (aa (ae (aH Y (az (aa (ae ?_)))))))))
  refine au (ae (ai (st (aC Y Y Z) Y (st (aM Y) Y ?_))))
  refine aG (T:=37) Y (ltN Y) (fun b5 => ?_)
  refine aA 0 Y Y Y Y Y (leN Y) Y (Run.nil (aa (ai (st (ak 1 Y Y Y) Y (st (ak 0 Y Y Y) Y ?_)))))
  refine st (am (hm) Y ⟨VT.le_refl _,VT.le_refl _,trivial⟩) Y ?_
  refine aA 1 Y Y Y Y Y (leN Y) Y (Run.nil (aD (aa (ai (st (bI _ 1 Y Y Z) Y (st (ab Y) Y (Run.nil ?_)))))))
  refine aQ (i+1) (hi) Z DR (.drop (.keep DU (.keep DU (.nil))))
 ·have he:i=n:=by omega
  subst he
  have ha:=zt hB hp hg (Nat.le_refl i)
  generalize prN i g=a at *
  have h2:=jO a
  have hs:=CS a
  have hro:Ok Tryz.prog 101 [aL (a:Int)] (bv [aL (isq a:Int),one (.int .i64 0)]):=by
   by_cases h0:a=0
   ·subst h0;exact sB
   ·exact vm a (isq a) ha h0 h2.1 h2.2
  have hsm:bm (isq a:Int):=zq (Nat.le_trans hs (zr ha))
  have hm:=eR (isq a:Int) (isq a:Int) hsm hsm
  have hq:(isq a:Int)*(isq a:Int)=((isq a*isq a:Nat):Int):=(Int.natCast_mul _ _).symm
  have hc:=gq ((isq a:Int)*(isq a:Int)) (a:Int)
  have had:=j6 (isq a:Int) 1 hsm iL
  unfold upN
  by_cases hlt:isq a*isq a<a
  ·have hcc:cU ((isq a:Int)*(isq a:Int)) (a:Int)<0:=by rw [hq]; unfold cU;rw [if_pos Z]; decide
   rw [if_pos hlt]
   generalize cU ((isq a:Int)*(isq a:Int)) (a:Int)=cc at *
   refine ae (ai (st (sF Z (a7 Y Y)) Y (Run.nil (aa (ae (aB Y (aX (av (av ?_)))))))))
   refine aF (aa (ae (ai (st (ak 0 Y Y Y) Y ?_))))
   refine st (am (hro) Y ⟨VT.le_refl _,trivial⟩) Y ?_
   refine st (ab Y) Y (st (aq Y Y) Y (st (aq Y Y) Y ?_))
   refine aG (T:=37) Y (ltN Y) (fun b6 => ?_)
   refine aA 0 Y Y Y Y Y (leN Y) Y (st (ah Y) Y (Run.nil (aa (ae (ae (a6 6 aZ X S (st (ak 0 Y Y Y) Y (st (ak 0 Y Y Y) Y ?_))))))))
   refine st (am (hm) Y ⟨VT.le_refl _,VT.le_refl _,trivial⟩) Y ?_
   refine st (ak 1 Y Y Y) Y ?_
   refine st (am (hc) Y ⟨VT.le_refl _,VT.le_refl _,trivial⟩) Y ?_
   refine st (sT (by assumption) (a7 Y Y)) Y (Run.nil (Run.nil (aa (aH Y (a6 2 aZ X S (st (ak 0 Y Y Y) Y ?_))))))
   refine st (am (h1) Y ⟨VT.le_refl _,trivial⟩) Y ?_
   refine Run.nil ?_
   refine st (am (had) Y ⟨VT.le_refl _,VT.le_refl _,trivial⟩) Y ?_
   refine aA 0 Y Y Y Y Y (leN Y) Y (Run.nil (aa (ae (ai (st (ak 0 Y Y Y) Y (aA 2 Y Y Y Y Y (leN Y) Y (Run.nil (aa (aE ?_)))))))))
   refine aT Tryz.results84 (.cellB 2 Y Y Y (wZ Z))
  ·have hcc : ¬ cU ((isq a:Int)*(isq a:Int)) (a:Int)<0:=by
    rw [hq]; unfold cU;rw [if_neg Z]; split <;> decide
   rw [if_neg hlt]
   generalize cU ((isq a:Int)*(isq a:Int)) (a:Int)=cc at *
   refine ae (ai (st (sF Z (a7 Y Y)) Y (Run.nil (aa (ae (aB Y (aX (av (av ?_)))))))))
   refine aF (aa (ae (ai (st (ak 0 Y Y Y) Y ?_))))
   refine st (am (hro) Y ⟨VT.le_refl _,trivial⟩) Y ?_
   refine st (ab Y) Y (st (aq Y Y) Y (st (aq Y Y) Y ?_))
   refine aG (T:=37) Y (ltN Y) (fun b6 => ?_)
   refine aA 0 Y Y Y Y Y (leN Y) Y (st (ah Y) Y (Run.nil (aa (ae (ae (a6 6 aZ X S (st (ak 0 Y Y Y) Y (st (ak 0 Y Y Y) Y ?_))))))))
   refine st (am (hm) Y ⟨VT.le_refl _,VT.le_refl _,trivial⟩) Y ?_
   refine st (ak 1 Y Y Y) Y ?_
   refine st (am (hc) Y ⟨VT.le_refl _,VT.le_refl _,trivial⟩) Y ?_
   refine st (sF (by assumption) (a7 Y Y)) Y (Run.nil (Run.nil (aa (aB Y (az (aa (ae (ai (st (ak 0 Y Y Y) Y ?_)))))))))
   refine aA 2 Y Y Y Y Y (leN Y) Y (Run.nil (aa (aE ?_)))
   refine aT Tryz.results84 (.cellB 2 Y Y Y H)
end Tor
end
section
namespace Tor
open Go Go.RowKit Go.Proofs
attribute [local irreducible] Tor.J Tor.PJ Tor.aK Tor.one Tor.slT Tor.bO Tor.bC Tor.bv Tor.exT Tor.cd Tor.eP Tor.aR Tor.aI Tor.slV Tor.VT.le Tor.Ret Tor.bJ
attribute [local irreducible] aL
set_option maxHeartbeats 4000000 in
theorem xf (r c:Nat) (F:Nat→Nat→Int) (k:Int) (hk:k≤0):Ok Tryz.prog 53 [bR r c F,one (.int .i64 k)] (aL 1):=by
 have h0:=jn 1 S S
 unfold bR
 refine Ok.enter Tryz.func53 Y Tryz.ntmps53 Y (fun w O => ?_)
 refine ae (ai ?_)
 refine aS Y Y (ltN Y) (fun b2 => ?_)
 refine aG (T:=37) Y (ltN Y) (fun b4 => ?_)
 refine Run.nil (aa (ae (au (ae (ai (st (ab Y) Y (st (sT (by assumption) (rB Y Y)) Y (st (ah Y) Y (Run.nil ?_)))))))))
 refine aa (aH Y (ae (ai ?_)))
 refine st (am (h0) Y ⟨VT.le_refl _,trivial⟩) Y ?_
 refine aA 0 Y Y Y Y Y (leN Y) Y (Run.nil (aa (aE (bN (aW ?_)))))
 refine aT Tryz.results53 (.cellB 0 Y Y Y H)
set_option maxHeartbeats 4000000 in
theorem zI (r c:Nat) (F:Nat→Nat→Int) (k B:Nat) (hr:r≤12) (hc:c≤1048576) (hk0:0<k) (hk:k≤r) (hF : ∀ i j,oc (F i j)) (hB:1≤B) (hn:B^r<2^800) (hl : ∀ i,i<r→eK c (F i)≤B) :
  Ok Tryz.prog 53 [bR r c F,one (.int .i64 (k:Nat))] (aL (upN (prN k (mD r c F)):Int)):=by
 have hle:=uv r c F hr hc hF
 have hro:=Bs k (mD r c F) B Z hB (Nat.lt_of_le_of_lt (Nat.pow_le_pow_right hB hk) hn) (fun i hi=>vI hl Z)
 unfold bR at *
 refine Ok.enter Tryz.func53 Y Tryz.ntmps53 Y (fun w O => ?_)
 refine ae (ai ?_)
 refine aS Y Y (ltN Y) (fun b2 => ?_)
 refine aG (T:=37) Y (ltN Y) (fun b4 => ?_)
 refine Run.nil (aa (ae (au (ae (ai (st (ab Y) Y (st (sF Z (rB Y Y)) Y (st (ah Y) Y (Run.nil ?_)))))))))
 refine aa (aB Y (ae (ai (st (ab Y) Y (st (aj Y) Y (st (ak 1 Y Y Y) Y (st (aU Y) Y (st (sF Z (c7 Y Y)) Y (st (ah Y) Y ?_)))))))))
 refine Run.nil (aa (aB Y (az (aD (aa (ae (ai (st (aO 1 Y Y) Y ?_))))))))
 refine st (am (hle) Y ⟨VT.le_refl _,trivial⟩) Y ?_
 refine st (ab Y) Y ?_
 refine st (gi Y Y Y Y (fun _=>rfl) Z Z Z Z) Y ?_
 refine kJ (t:=19) (ψ:=slT (.agg 2) k (fun t=>aL (mD r c F t:Int))) Y (cE Z (fun q hq=>by rw [show Int.toNat 0+q=q by simp])) ?_
 refine st (am (hro) Y ⟨VT.le_refl _,trivial⟩) Y ?_
 refine aA 0 Y Y Y Y Y (leN Y) Y (Run.nil (aa (aE ?_)))
 refine aT Tryz.results53 (.cellB 0 Y Y Y H)
end Tor
end
