/-
  Theorems that the proofs of laws of this seat rest on.
  No condition.
-/
import Derived.Test.YtbgloceimmbliaaGreatED8
import Derived.ScopeJumps
set_option maxHeartbeats 20000000
set_option linter.unusedVariables false
set_option linter.unusedSimpArgs false
section
namespace Tor
open Go Go.RowKit Go.Proofs
abbrev U64:=Fin 18446744073709551616
def C9 (x:U64):Value := .int .u64 (x.val:Nat)
def dnL (c k:Nat):List U64:=(List.range k).map fun i=>⟨(c - 1 - i) % 18446744073709551616,Nat.mod_lt _ S⟩
theorem jN {c k:Nat} : dnL c (k+1)=dnL c k ++ [⟨(c - 1 - k) % 18446744073709551616,Nat.mod_lt _ S⟩]:=by simp [dnL,List.range_succ]
theorem Bn {c k:Nat} : (dnL c k).length=k:=by simp [dnL]
theorem oC {p:Nat→Bool} {c:Nat} (hc:c<18446744073709551616) : ∀ k,k≤c→(∀ y∈dnL c k,p y.val=false)→mw p c=mw p (c - k)
 | 0, _, _ => rfl
 | k + 1, hk, h => by
  rw [oC hc k X (fun y hy=>h y (by rw [jN]; exact List.mem_append.2 (.inl hy)))]
  have h1:=h ⟨(c - 1 - k) % 18446744073709551616,Nat.mod_lt _ S⟩ (by rw [jN]; exact List.mem_append.2 (.inr (List.mem_singleton.2 Y)))
  have h1:p ((c - 1 - k) % 18446744073709551616)=false:=h1
  rw [Nat.mod_eq_of_lt X] at h1
  rw [show c - k=(c - 1 - k)+1 by omega,mw,if_neg (by rw [h1]; simp),show c - (k+1)=c - 1 - k by omega]
attribute [local irreducible] J PJ aJ one slT bQ bC bv exT bZ eP aP aI slV VT.le Ret bJ
theorem zy (n:Nat) (hn:n<18446744073709551616):OkY Tryz.prog 157 [bQ .one (one (.int .u64 (n:Nat)))] C9 (fun xs=>xs=dnL (min n 2147483648) (min n 2147483648)) (fun pre => ∃ k,k<min n 2147483648∧pre=dnL (min n 2147483648) (k+1)) (min n 2147483648):=by
 refine OkY.enter Tryz.func157 Y Tryz.ntmps157 Y (fun w0 l J Jx B hA hAx hY h0 => ?_)
 refine ae (ai (El (aM Y) (El (xJ Y Y) (En Y (Ep (aa (au ?_)))))))
 obtain ⟨c,hc⟩ : ∃ c:Nat,c=min n 2147483648:=⟨_,rfl⟩
 have hcl:c<18446744073709551616:=by omega
 have hci:(min (n:Int) 2147483648)=(c:Int):=by omega
 rw [hci]
 rw [← hc] at hY ⊢
 refine DD [(0,one (.func (.yield l) #[] #[])),(3,one (.int .u64 (c:Nat)))] (.cons Y H (.cons Y H .nil)) (.cons (.cons .nil)) (fun w1 hw1 => ?_)
 refine cw (σ:=Nat × World) (fun s => [(0,one (.func (.yield l) #[] #[])),(3,one (.int .u64 ((c - s.1:Nat):Int)))]) (fun s => [yO s.2]) (fun s=>s.1≤c∧SameW w1 s.2∧J (dnL c s.1) s.2) (fun s=>c - s.1) (0,w1)
  ⟨Nat.zero_le _,SameW.refl _,pz hA h0 hw1⟩ (dJ.refl _) (SubM.refl _) (fun s hs => ?_)
 obtain ⟨k,W⟩:=s
 obtain ⟨hk,hsw,hJ⟩:=hs
 dsimp only at hk hsw hJ ⊢
 by_cases hlt:k<c
 ·have hv:one (.int .u64 ((c - k - 1:Nat):Int))=one (C9 ⟨(c - 1 - k) % 18446744073709551616,Nat.mod_lt _ S⟩):=by
   have e:(c - 1 - k) % 18446744073709551616=c - k - 1:=by omega
   show _=one (.int .u64 (((c - 1 - k) % 18446744073709551616:Nat):Int))
   rw [e]
  refine ae (ae (ai ?_))
  refine Em Y (El (sT X (db Y Y)) (Ep ?_))
  refine aa (aH Y (az (aa (ae (au (ae ?_))))))
  refine Cs (m:=3) ⟨(c - 1 - k) % 18446744073709551616,Nat.mod_lt _ S⟩ [(0,one (.func (.yield l) #[] #[])),(3,one (.int .u64 ((c - k:Nat):Int)))] hY hA hsw hJ (by rw [Bn]; exact hlt) Y Y (.cons (.cons .nil)) ?_ (fun W' hJ' hw' => ?_) (fun W' hx' => ?_)
  ·refine Em Y (Em Y (El (kD 1 Y Y X X) (Ep ?_)))
   exact ⟨rfl,rfl,rfl,congrArg some hv, .cons Y H (.cons Y H .nil)⟩
  ·rw [← jN] at hJ'
   refine El (cR Y) (Ep (aa (aB Y (az (aD (aa (ai (Em Y (El (kD 1 Y Y X X) ?_)))))))))
   refine En Y (Ep ?_)
   refine aR (k+1,W') ?_ ?_ ?_ (SubM.refl _)
   ·exact ⟨hlt,hw',hJ'⟩
   ·show c - (k+1)<c - k;omega
   ·exact .cons Y H (.cons Y (aq (by rw [Nat.sub_sub])) .nil)
  ·rw [← jN] at hx'
   refine El (cR Y) (Ep (aa (aH Y (aF (bK (aU (aU (bK ?_))))))))
   exact yc Y hAx hx' ⟨k,hlt,rfl⟩ (SameW.refl _)
 ·obtain rfl:k=c:=by omega
  refine ae (ae (ai (Em Y (El (sF X (db Y Y)) (Ep (aa (aB Y (aX (av ?_)))))))))
  refine av (aE ?_)
  exact yb Y hA hJ Y hsw
theorem zA (n:Nat) (hn:n<18446744073709551616):Ok Tryz.prog 133 [iZ 157 [bQ .one (one (.int .u64 (n:Nat)))]] (one (.int .u64 (bf cC n:Nat))):=by
 refine Ok.enterR Tryz.func133 Y Tryz.ntmps133 Y (fun w O => ?_)
 refine ae (ai ?_)
 refine aG (T:=44) Y (ltN Y) (fun b2 => ?_)
 refine Ep (aa (ae (ae (ai (Em Y (Ep (aa (au ?_))))))))
 refine Av (α:=U64) (σ:=Nat) (zy n hn) (fun v => [aP b2 44 1 [(0, .one,one (.int .u64 (v:Nat)))]]) (fun pre v=>v=0 ∧ ∀ x∈pre,cC x.val=false)
  (fun e pre v=>e=none ∧ ∃ init x,pre=init ++ [x]∧v=x.val∧cC x.val=true ∧ ∀ y∈init,cC y.val=false) 0 Y Y ⟨rfl,fun x h=>by cases h⟩ (SubM.refl _) Y Y (by simp [f8,gl])
  (fun l W pre x v hv hlen => ?_) (fun xs v D hxs hv => ?_) (fun pre v D hpre hv => ?_) (fun id pre v D hpre hv=>absurd hv.1 (by simp))
 ·obtain ⟨rfl,hv⟩:=hv
  have hx:=x.isLt
  unfold C9
  cases hp:cC x.val with
  | true =>
   refine au (ae (ai (Em Y ?_)))
   refine El (sBt (by assumption) (am (j9 _ (by assumption)) Y ⟨H,Er⟩)) ?_
   refine Ep (aa (aH Y (ae (ai (Em Y (aA 0 Y Y Y Y Y (leN Y) Y (Ep (aa (aF ?_)))))))))
   refine bK ?_
   exact Aw (x.val:Nat) ⟨rfl,pre,x,rfl,rfl,hp,hv⟩ (SubM.refl _)
  | false =>
   refine au (ae (ai (Em Y ?_)))
   refine El (sBf (by assumption) (am (j9 _ (by assumption)) Y ⟨H,Er⟩)) ?_
   refine Ep (aa (aB Y (az (aD ?_))))
   exact nS 0 ⟨rfl,fun y hy=>by rcases List.mem_append.1 hy with h | h;exact hv y h;rw [List.mem_singleton.1 h]; exact hp⟩ (SubM.refl _)
 ·have hz:bf cC n=0:=by
   have:=oC (p:=cC) (c:=min n 2147483648) X (min n 2147483648) (Nat.le_refl _) (fun y hy=>hv.2 y (hxs▸hy))
   rw [Nat.sub_self] at this
   exact this
  refine aD (aa (ae (ai (aA 1 Y Y Y Y Y (leN Y) Y (Ep (aa (aF ?_)))))))
  rw [hz]
  refine nn ?_
  refine aV Tryz.results133 (.cellB 0 Y Y Y H)
 ·obtain ⟨k,hk,hpre⟩:=hpre
  obtain ⟨_,init,x,h1,rfl,h3,h4⟩:=hv
  have hz:bf cC n=x.val:=by
   rw [hpre,jN] at h1
   obtain ⟨e1,e2⟩:=List.append_inj' h1 Y
   have e2:(⟨(min n 2147483648 - 1 - k) % 18446744073709551616,Nat.mod_lt _ S⟩:U64)=x:=by simpa using e2
   have hb:=oC (p:=cC) (c:=min n 2147483648) X k X (fun y hy=>h4 y (e1▸hy))
   have e3:x.val=min n 2147483648 - 1 - k:=by rw [← e2]; show (min n 2147483648 - 1 - k) % 18446744073709551616=_;omega
   show mw cC (min n 2147483648)=_
   rw [hb,show min n 2147483648 - k=(min n 2147483648 - 1 - k)+1 by omega,mw,if_pos (by rw [← e3]; exact h3),e3]
  refine bK (aU ?_)
  rw [hz]
  refine nn ?_
  refine aV Tryz.results133 (.cellB 0 Y Y Y H)
theorem sW (n:Nat) (hn:n<18446744073709551616):Ok Tryz.prog 134 [one (.int .u64 (n:Nat))] (iZ 157 [bQ .one (one (.int .u64 (n:Nat)))]):=by
 refine Ok.enter Tryz.func134 Y Tryz.ntmps134 Y (fun w O => ?_)
 refine ae (ai ?_)
 refine gL Y Y (ltN Y) (fun b1 => ?_)
 refine En Y (Ep (aa (ae (ai (El (kx Y) (En Y (Ep (aa (aF ?_)))))))))
 refine fV [aP b1 44 1 [(0, .one,one (.int .u64 (n:Nat)))]] (Kp := []) (Kp' := []) (List.Perm.refl _) (EntM.refl []) (we.set (t:=2) Y (Ent.clo1 (Ent.ptr List.mem_cons_self List.mem_cons_self))) ?_
 refine aV Tryz.results134 (.tmp Y H)
theorem mG (n:Nat) (hn:n<18446744073709551616):Ok Tryz.prog 89 [one (.int .u64 (n:Nat))] (one (.int .u64 (bf cC n:Nat))):=by
 refine Ok.enter Tryz.func89 Y Tryz.ntmps89 Y (fun w O => ?_)
 have h1:=sW n hn
 have h2:=zA n hn
 refine ae (ai (En Y (Ep (aa (ae (ai (Em Y ?_)))))))
 refine El (am (h1) Y ⟨H,Er⟩) ?_
 refine El (am (h2) Y ⟨H,Er⟩) ?_
 refine En Y (Ep (aa (aF ?_)))
 refine aV Tryz.results89 (.tmp Y H)
end Tor
end
section
namespace Tor
open Go Go.RowKit Go.Proofs
def rh (p n:Nat) (F:Nat→Nat→Int) (R:Nat→Nat→Nat):Prop:=(∀ i j,i<n→j<n→R i j<p) ∧ ∀ i j,i<n→j<n→(p:Int)∣bh n (fun t=>(R i t:Int)*F t j) - (if i=j then 1 else 0)
def D3 (p n:Nat) (F:Nat→Nat→Int):VT:=exT fun R:Nat→Nat→Nat=>bZ (rh p n F R) (slT .one n (fun i=>jb n (R i)))
theorem zB {p n:Nat} {F:Nat→Nat→Int} (hp:1<p):EchI p n F 0 (na p (fC n F)):=by
 refine EchI.start X (fun i j hi hj => ?_) (fun i t hi ht => ?_) hp
 ·unfold na fC
  rw [if_pos hj,Int.toNat_of_nonneg (Int.emod_nonneg _ X)]
 ·unfold na fC
  rw [if_neg X,show n+t - n=t by omega]
  by_cases e:i=t
  ·rw [if_pos e,if_pos e,Int.emod_eq_of_lt S X]; rfl
  ·rw [if_neg e,if_neg e]; simp
theorem zC {p n:Nat} {F:Nat→Nat→Int} {W:Nat→Nat→Nat} (h:EchI p n F n W):rh p n F (fun i j=>W i (n+j)) :=
 ⟨fun i j hi hj=>h.lt i (n+j) hi X,h.done⟩
def eG (p n:Nat) (R:Nat→Nat→Nat) (r:Nat→Int):Nat→Nat→Nat
 | 0, _ => 0
 | i + 1, j => (eG p n R r i j + (r i % (p : Int)).toNat * R i j % p) % p
theorem jc {p n:Nat} {R:Nat→Nat→Nat} {r:Nat→Int} (hp:2≤p) : ∀ i j,eG p n R r i j<p
 | 0, _ => by show 0 < p; omega
 | i + 1, j => Nat.mod_lt _ X
theorem zD {bz n i:Nat} {W:Nat→Nat→Nat} : Own.le (aI (some bz) 173 .one n n (upd (fun q=>if q<i then jb n (fun j=>W q (n+j)) else bJ) i (slT .one (((n+n:Nat):Int) - (n:Int)).toNat (fun j=>one (.int .u64 (W i (Int.toNat (n:Int)+j):Nat)))))) (aI (some bz) 173 .one n n (fun q=>if q<i+1 then jb n (fun j=>W q (n+j)) else bJ)):=bg fun q _=>by
 unfold upd
 by_cases h:q=i
 ·subst h;rw [if_pos Y,if_pos (Nat.lt_succ_self q),show (((n+n:Nat):Int) - (n:Int)).toNat=n by omega,show Int.toNat (n:Int)=n from rfl]
 ·rw [if_neg h]
  dsimp only
  by_cases h2:q<i
  ·rw [if_pos h2,if_pos X]
  ·rw [if_neg h2,if_neg X]
theorem oD {sv:Option Nat} {T:TypeId} {L:Lay} {cap n t:Nat} {G:Nat→VT} : Own.le (aI sv T L cap n (upd (fun q=>if q<t then G q else bJ) t (G t))) (aI sv T L cap n (fun q=>if q<t+1 then G q else bJ)):=bg fun q _=>by
 unfold upd
 by_cases h:q=t
 ·subst h;rw [if_pos Y,if_pos (Nat.lt_succ_self q)]
 ·rw [if_neg h]
  dsimp only
  by_cases h2:q<t
  ·rw [if_pos h2,if_pos X]
  ·rw [if_neg h2,if_neg X]
attribute [local irreducible] J PJ aJ one slT bQ bC bv exT bZ eP aP aI slV VT.le Ret bJ
attribute [local irreducible] aL
theorem l4 (r c k:Nat) (F:Nat→Nat→Int) (f:Nat→Int):Ok Tryz.prog 49 [bP r c F,bA k f] (one (.bool (decide (r=c∧k=c)))):=by
 have hv:=fz r c F
 unfold bP bA at *
 refine Ok.enter Tryz.func49 Y Tryz.ntmps49 Y (fun w O => ?_)
 by_cases h1:r=c
 ·by_cases h2:k=c
  ·rw [decide_eq_true ⟨h1,h2⟩]
   refine ae (ai ?_)
   refine aS Y Y (ltN Y) (fun b2 => ?_)
   refine En Y (Ep (aa (ae (ai (El (aQ 0 Y Y) ?_)))))
   refine El (am (hv) Y ⟨H,Er⟩) ?_
   refine Em Y (Eo (aj Y) (Eo (ak 0 Y Y Y) (Eo (aj Y) (Eo (ak 0 Y Y Y) (Eo (sT X (cm Y Y)) (El (bp Y Y) (Em Y (Eo (ab Y) (Eo (aW Y) ?_)))))))))
   refine Eo (aj Y) (Eo (ak 0 Y Y Y) (Eo (sT X (cm Y Y)) (El (bp Y Y) (En Y (Ep (aa (aF ?_)))))))
   refine aV Tryz.results49 (.tmp Y H)
  ·rw [decide_eq_false (fun h=>h2 h.2)]
   refine ae (ai ?_)
   refine aS Y Y (ltN Y) (fun b2 => ?_)
   refine En Y (Ep (aa (ae (ai (El (aQ 0 Y Y) ?_)))))
   refine El (am (hv) Y ⟨H,Er⟩) ?_
   refine Em Y (Eo (aj Y) (Eo (ak 0 Y Y Y) (Eo (aj Y) (Eo (ak 0 Y Y Y) (Eo (sT X (cm Y Y)) (El (bp Y Y) (Em Y (Eo (ab Y) (Eo (aW Y) ?_)))))))))
   refine Eo (aj Y) (Eo (ak 0 Y Y Y) (Eo (sF X (cm Y Y)) (El (bp Y Y) (En Y (Ep (aa (aF ?_)))))))
   refine aV Tryz.results49 (.tmp Y H)
 ·rw [decide_eq_false (fun h=>h1 h.1)]
  refine ae (ai ?_)
  refine aS Y Y (ltN Y) (fun b2 => ?_)
  refine En Y (Ep (aa (ae (ai (El (aQ 0 Y Y) ?_)))))
  refine El (am (hv) Y ⟨H,Er⟩) ?_
  refine Em Y (Eo (aj Y) (Eo (ak 0 Y Y Y) (Eo (aj Y) (Eo (ak 0 Y Y Y) (Eo (sF X (cm Y Y)) (El (bp Y Y) (Em Y (sn0 Y Y Y Y Y (sn0 Y Y Y Y Y ?_)))))))))
  refine sn0 Y Y Y Y Y (sn0 Y Y Y Y Y (sn0 Y Y Y Y Y (El (bE Y Y) (En Y (Ep (aa (aF ?_)))))))
  refine aV Tryz.results49 (.tmp Y H)
theorem uv (p n:Nat) (F:Nat→Nat→Int) (hpb:cC p=true) (hp2:2≤p) (hp:p<2147483648) (hinv:ul p) (hF:um p n F) (hn:n≤1024) (hs : ∀ i j,bm (F i j)) :
  Ok Tryz.prog 92 [bP n n F,one (.int .u64 (p:Nat))] (D3 p n F):=by
 have hid:=sK n X
 have hbe:Ok Tryz.prog 136 [bP n n F,bP n n (fun i j=>if i=j then 1 else 0)] (bv [bP n (n+n) (fC n F),one (.int .i64 0)]):=by
  have h:=wN n n F n n (fun i j=>if i=j then 1 else 0) X X X hs (fun i j=>by split;exact mr;exact kO)
  rw [decide_eq_true Y] at h
  unfold jI at h
  rw [if_pos Y,if_pos Y,if_pos Y] at h
  exact h
 have hre:=sO p n (n+n) (fC n F) hpb X hp X X (fun i j=>by
  unfold fC;split
  ·exact hs _ _
  ·split
   ·exact mr
   ·exact kO)
 have hrr:=(Be p n F (na p (fC n F)) hpb hp2 hp hinv hF hn (zB X)).toM
 unfold bP at *
 refine Ok.enter Tryz.func92 Y Tryz.ntmps92 Y (fun w O => ?_)
 refine ae (ai ?_)
 refine aS Y Y (ltN Y) (fun b2 => ?_)
 refine En Y (Ep (aa (ae (ai (El (aj Y) (El (ak 0 Y Y Y) (En Y (Ep (aa ?_)))))))))
 refine ae ?_
 refine ep a4 Z Z ?_
 refine ux (fun B=>aQ 0 Y Y) Y Y ?_
 refine ux (fun B=>ab Y) Y Y ?_
 refine uxk (hid) Y ⟨H,Er⟩ Y ?_
 refine uxk (hbe) Y ⟨H,H,Er⟩ Y ?_
 refine ux (fun B=>ab Y) Y Y ?_
 refine ux (fun B=>ar Y Y) Y Y ?_
 refine ux (fun B=>ar Y Y) Y Y ?_
 refine ua Y (us Y ?_)
 refine ux (fun B=>ah Y) Y Y ?_
 refine RunU.nil (fun γ => ?_)
 refine cK (M' := [_,_]) Y (gI (dJ.refl _) (.keep iJ (SubM.refl _)) (aa (ae (ai (Em Y (El (aQ 0 Y Y) ?_))))))
 refine El (am (hre) Y ⟨H,H,Er⟩) ?_
 refine fU (hrr) Y ⟨H,Er⟩ Y Y (fun s25 => ?_)
 refine Em Y (El (ar Y Y) (El (ar Y Y) ?_))
 refine bj (T:=169) Y Y Y (fun b8 => ?_)
 refine aY 0 Y Y Y Y (En Y (Ep (aa (ae (ai (Em Y ?_))))))
 refine bV n n Y Y Y Y (Nat.le_refl _) Y Y X Y Y (fun bz => ?_)
 refine En Y (Ep (aa (ae (ae (ai (Em Y (El (cv Y) (Em Y (Ep ?_)))))))))
 refine aa (au ?_)
 obtain ⟨W,hI⟩:=s25
 dsimp only
 refine cp (Γ' := [(4,_),(5,_),(8,_),(10,_),(31,_),(32,_)]) Eg (SubM.refl _) ?_
 refine bD (σ:=Nat) (Γk := [(4,_),(5,_),(8,_),(10,_),(31,_)]) Eg (fun i => [(32,one (.int .i64 (i:Nat)))]) (fun i M0=>(M0.set 0 (aI (some bz) 173 .one n n (fun q=>if q<i then jb n (fun j=>W q (n+j)) else bJ)))) (fun i=>i≤n) (fun i=>n - i) (0) (Nat.zero_le _) Eh (.keep (ee fun q hq=>by rw [if_neg (Nat.not_lt_zero q)]; exact jE _) (.keep Ek (.keep Ek (.keep Ek (.nil))))) (fun i hi => ?_)
 refine bU (Γ' := [(32,_),(4,_),(5,_),(8,_),(10,_),(31,_)]) (M' := [_,_,_,_]) Y Y ?_
 by_cases hi2:i<n
 ·refine ae (ai (El (sT X (a7 Y Y)) (Ep (aa (ae (aH Y (az (aa (ae ?_)))))))))
  refine au (ae (ai (Em Y (En Y (Ep (aa (ai (Em Y (Em Y ?_)))))))))
  refine El (aj Y) (El (ak 1 Y Y Y) (Em Y (El (aC Y Y X) (El (aM Y) (Em Y ?_)))))
  refine El (fT Y Y Y Y (fun h=>nomatch h) X X X X) ?_
  refine El (ao Y Y X) ?_
  (refine aw 0 Y Y Y ?_ Y ?_;omega)
  refine Ep (aD (aa (ai (El (bI _ 1 Y Y X) (Em Y (Ep ?_))))))
  refine aR (i+1) X X Eh (.keep (zD) (.keep Ek (.keep Ek (.keep Ek (.nil)))))
 ·have hin:i=n:=by omega
  subst hin
  refine ae (ai (El (sF X (a7 Y Y)) (Ep (aa (ae (aB Y (aX (av (av ?_)))))))))
  refine aE (aa (ae (ai (Em Y (En Y (Ep (aa (aF ?_))))))))
  refine gI (dJ.refl _) (.keep (bg (ψ:=fun q=>jb i (fun j=>W q (i+j))) (fun q hq=>by rw [if_pos hq])) (SubM.refl _)) ?_
  refine cq (t:=4) (i:=0) Y Y ?_
  refine aV Tryz.results92 (.tmp Y (nI (fun a b=>W a (i+b)) (lc (zC hI) H)))
theorem uw (p n:Nat) (R:Nat→Nat→Nat) (r:Nat→Int) (hp2:2≤p) (hp:p<2147483648) (hR : ∀ i j,i<n→j<n→R i j<p) (hn:n≤1024) (hs : ∀ i,bm (r i)) :
  Ok Tryz.prog 93 [bA n r,slT .one n (fun i=>jb n (R i)),one (.int .u64 (p:Nat))] (bA n (fun j=>(eG p n R r n j:Int))):=by
 unfold bA
 refine Ok.enter Tryz.func93 Y Tryz.ntmps93 Y (fun w O => ?_)
 refine ae (ai (En Y (Ep (aa (ae (ai (Em Y (El (aW Y) ?_))))))))
 refine bV n n Y Y Y Y (Nat.le_refl _) Y Y X Y Y (fun bs => ?_)
 refine En Y (Ep (aa (ae (ae (ai (Em Y (El (aW Y) (Em Y (Ep ?_)))))))))
 refine aa (au (cp (Γ' := [(0,_),(1,_),(2,_),(6,_),(7,_),(19,_),(20,_),(21,_)]) Eg (SubM.refl _) ?_))
 refine bD (σ:=Nat) (Γk := [(0,_),(1,_),(2,_),(6,_),(7,_),(19,_),(20,_)]) Eg (fun i => [(21,one (.int .i64 (i:Nat)))]) (fun i M0=>(M0.set 0 (aI (some bs) 44 .one n n (fun j=>one (.int .u64 (eG p n R r i j:Nat)))))) (fun i=>i≤n) (fun i=>n - i) (0) (Nat.zero_le _) Eh (.keep Ek (.nil)) (fun i hi => ?_)
 refine bU (Γ' := [(21,_),(0,_),(1,_),(2,_),(6,_),(7,_),(19,_),(20,_)]) (M' := [_]) Y Y ?_
 by_cases hi2:i<n
 ·have hre:=ia p (r i) X X (hs i)
  have hk:(r i % (p:Int)).toNat<p:=by
   have:=Int.emod_nonneg (r i) (show (p:Int)≠0 by omega)
   have:=Int.emod_lt_of_pos (r i) (show 0<(p:Int) by omega)
   omega
  generalize hkk:(r i % (p:Int)).toNat=k at *
  refine ae (ai (El (sT X (a7 Y Y)) (Ep (aa (ae (aH Y (az (aa (ae ?_)))))))))
  refine au (ae (ai (Em Y (El (aC Y Y X) (El (aM Y) ?_)))))
  refine aG (T:=37) Y (ltN Y) (fun b9 => ?_)
  refine En Y (aA 0 Y Y Y Y Y (leN Y) Y (Ep (aa (ae (ai (Em Y (El (ak 0 Y Y Y) ?_)))))))
  refine El (am (hre) Y ⟨H,H,Er⟩) ?_
  refine En Y (Ep (aa (ae (ai (Em Y (Em Y (El (aC Y Y X) (El (aM Y) (El (aW Y) ?_)))))))))
  refine Em Y (Ep (aa (au (cp (Γ' := [(0,_),(1,_),(2,_),(6,_),(7,_),(10,_),(19,_),(20,_),(21,_),(32,_),(33,_),(34,_)]) Eg (SubM.refl _) ?_))))
  refine bD (σ:=Nat) (Γk := [(0,_),(1,_),(2,_),(6,_),(7,_),(10,_),(19,_),(20,_),(21,_),(32,_),(33,_)]) Eg (fun j => [(34,one (.int .i64 (j:Nat)))]) (fun j M0=>(M0.set 1 (aI (some bs) 44 .one n n (fun q=>one (.int .u64 ((if q<j then (eG p n R r i q+k*R i q % p) % p else eG p n R r i q:Nat))))))) (fun j=>j≤n) (fun j=>n - j) (0) (Nat.zero_le _) Eh (.keep Ek (.keep Ek (.nil))) (fun j hj => ?_)
  refine bU (Γ' := [(34,_),(0,_),(1,_),(2,_),(6,_),(7,_),(10,_),(19,_),(20,_),(21,_),(32,_),(33,_)]) (M' := [_,_]) Y Y ?_
  by_cases hjn:j<n
  ·have h1:=hR i j hi2 hjn
   have h2:eG p n R r i j<p:=jc hp2 i j
   have h3:k*R i j % p<p:=Nat.mod_lt _ X
   have hm:=it p k (R i j) X X X X
   have ha:=vC p (eG p n R r i j) (k*R i j % p) X X X X
   refine ae (ai (El (sT X (a7 Y Y)) (Ep (aa (ae (aH Y (az (aa (ae ?_)))))))))
   refine au (ae (ai (Em Y (El (aC Y Y X) (El (aM Y) (En Y (En Y (Ep (aa ?_)))))))))
   refine a8 12 a4 Z S (Em Y (Em Y (Em Y (Em Y (Em Y (El (ao Y Y X) (El (be 1 Y Y X) (Em Y (Em Y ?_)))))))))
   refine Em Y ?_
   refine El (am (hm) Y ⟨H,H,H,Er⟩) ?_
   refine El (am (ha) Y ⟨H,(aq (by rw [if_neg (Nat.lt_irrefl j)])),H,Er⟩) ?_
   refine Ep (El (ao Y Y X) ?_)
   (refine aw 1 Y Y Y ?_ Y ?_;omega)
   refine Ep (aD (aa (ai (El (bI _ 1 Y Y X) (Em Y (Ep ?_))))))
   refine aR (j+1) X X Eh (.keep Ek (.keep (mB (G:=fun q=>(eG p n R r i q+k*R i q % p) % p) (Ef:=fun q=>eG p n R r i q)) (.nil)))
  ·have hjn2:j=n:=by omega
   refine ae (ai (El (sF X (a7 Y Y)) (Ep (aa (ae (aB Y (aX (av (av ?_)))))))))
   refine aE (aD (aa (ai (El (bI _ 1 Y Y X) (Em Y (Ep ?_))))))
   refine aR (i+1) X X Eh (.drop (.keep (bg (fun q hq=>by rw [if_pos X, ← hkk]; rfl)) (.nil)))
 ·have hin:i=n:=by omega
  subst hin
  refine ae (ai (El (sF X (a7 Y Y)) (Ep (aa (ae (aB Y (aX (av (av ?_)))))))))
  refine aE (aa (ae (ai (Em Y (El (aW Y) ?_)))))
  refine bV i i Y Y Y Y (Nat.le_refl _) Y Y X Y Y (fun bd => ?_)
  refine En Y (Ep (aa (ae (ae (ai (Em Y (El (cv Y) (Em Y (Ep ?_)))))))))
  refine aa (au (cp (Γ' := [(6,_),(13,_),(57,_),(58,_),(59,_)]) Eg (SubM.refl _) ?_))
  refine bD (σ:=Nat) (Γk := [(6,_),(13,_),(57,_),(58,_)]) Eg (fun t => [(59,one (.int .i64 (t:Nat)))]) (fun t M0=>(M0.set 0 (aI (some bd) 37 (.agg 2) i i (fun q=>if q<t then aL (eG p i R r i q:Int) else bJ)))) (fun t=>t≤i) (fun t=>i - t) (0) (Nat.zero_le _) Eh (.keep (ee fun q hq=>by rw [if_neg (Nat.not_lt_zero q)]; exact jE _) (.keep Ek (.nil))) (fun t ht => ?_)
  refine bU (Γ' := [(59,_),(6,_),(13,_),(57,_),(58,_)]) (M' := [_,_]) Y Y ?_
  by_cases hti:t<i
  ·have h2:eG p i R r i t<p:=jc hp2 i t
   have ho:=jm (eG p i R r i t:Int) X X
   refine ae (ai (El (sT X (a7 Y Y)) (Ep (aa (ae (aH Y (az (aa (ae ?_)))))))))
   refine au (ae (ai (Em Y (El (ao Y Y X) (El (be 1 Y Y X) (En Y (En Y (Ep (aa ?_)))))))))
   refine ai (Em Y (Em Y (Em Y (El (dG Y X X) ?_))))
   refine El (am (ho) Y ⟨H,Er⟩) ?_
   refine El (ao Y Y X) ?_
   (refine aw 0 Y Y Y ?_ Y ?_;omega)
   refine Ep (aD (aa (ai (El (bI _ 1 Y Y X) (Em Y (Ep ?_))))))
   refine aR (t+1) X X Eh (.keep (oD (G:=fun q=>aL (eG p i R r i q:Int))) (.keep Ek (.nil)))
  ·refine ae (ai (El (sF X (a7 Y Y)) (Ep (aa (ae (aB Y (aX (av (av ?_)))))))))
   refine aE (aa (ae (ai (Em Y (En Y (Ep (aa (aF ?_))))))))
   refine gI (dJ.refl _) (.keep (bg (ψ:=fun q=>aL (eG p i R r i q:Int)) (fun q hq=>by rw [if_pos X])) (SubM.refl _)) ?_
   refine cq (t:=6) (i:=0) Y Y ?_
   refine aV Tryz.results93 (.tmp Y H)
theorem xb (d:Int) (p:Nat) (hd:bm d) (hp:bf cC 2147483648=p) (hp0:0<p) (hp':p<2147483648) (h:d % (p:Int)≠0):Ok Tryz.prog 56 [aL d] (one (.int .u64 (p:Nat))):=by
 have hb:=mG 2147483648 S
 rw [hp] at hb
 have hr:=ia p d hp0 X hd
 have hz:(d % (p:Int)).toNat≠0:=by
  have:=Int.emod_nonneg d (show (p:Int)≠0 by omega)
  omega
 generalize (d % (p:Int)).toNat=k at *
 refine Ok.enter Tryz.func56 Y Tryz.ntmps56 Y (fun w O => ?_)
 refine ae (ai ?_)
 refine gL Y Y (ltN Y) (fun b1 => ?_)
 refine En Y (Ep (aa (ij (ae (ai ?_)))))
 refine El (am (hb) Y ⟨H,Er⟩) ?_
 refine En Y (Ep (aa (ae (jU (aa (ae (ae (ai (Em Y ?_)))))))))
 refine El (ak 0 Y Y Y) ?_
 refine El (am (hr) Y ⟨H,H,Er⟩) ?_
 refine El (sF X (cm Y Y)) (Em Y (sn0 Y Y Y Y Y (sn0 Y Y Y Y Y (El (bE Y Y) (Ep (aa (aB Y (az (aa ?_)))))))))
 refine ae (ai (Em Y (En Y (Ep (aa (aF (eh ?_)))))))
 refine aV Tryz.results56 (.tmp Y H)
end Tor
end
section
namespace Tor
open Go Go.RowKit Go.Proofs
theorem ri (l:List Int) (n:Nat):(dig l n).natAbs≤9:=by
 unfold dig;rw [Int.natAbs_tmod]
 show (l.getD n 0).natAbs % 10≤9
 omega
theorem Da (l:List Int) (n:Nat):lz 1 (dig l n):=cF (k:=1) (by have:=ri l n;omega)
theorem l5 {B:Nat} {f:Nat→Int} (h : ∀ k,(f k).natAbs≤B) : ∀ n,(bh n f).natAbs≤n*B
 | 0 => Nat.zero_le _
 | n + 1 => by
  have h1:=l5 h n
  have h2:=h n
  rw [kd,Nat.succ_mul]
  omega
attribute [local irreducible] J PJ aJ one slT bQ bC bv exT bZ eP aP aI slV VT.le Ret bJ xO
attribute [local irreducible] aL bA
theorem uy (r c:Nat) (l:List Int):Ok Tryz.prog 9 [oz r c l] (bP (r % 5) (r % 5) (fun i j=>dig l (i*(r % 5)+j))):=by
 have h:=ot (r % 5) (r % 5) l X X
 have h5:=DO r
 have hr:r % 5<5:=Nat.mod_lt _ S
 unfold oz bP at *
 refine Ok.enter Tryz.func9 Y Tryz.ntmps9 Y (fun w O => ?_)
 refine ae (ai ?_)
 refine aS Y Y (ltN Y) (fun b1 => ?_)
 refine bj (T:=30) Y Y Y (fun b2 => ?_)
 refine Ep (aa (ae (ai (El (aj Y) (El (ak 1 Y Y Y) (El (eK 5 Y Y Y S) (El (dG Y X X) (El (aj Y) (El (ak 1 Y Y Y) ?_)))))))))
 refine El (eK 5 Y Y Y S) (El (dG Y X X) (El (aj Y) (El (ak 1 Y Y Y) ?_)))
 refine El (am (h) Y ⟨H,H,H,Er⟩) ?_
 refine aY 0 Y Y Y Y (Ep (aa (aF ?_)))
 refine aV Tryz.results9 (.cellW 0 Y Y H)
end Tor
end
section
namespace Tor
open Go Go.RowKit Go.Proofs
theorem Bo (n m:Nat) (f:Nat→Nat→Int):bh n (fun i=>bh m (fun j=>f i j))=bh m (fun j=>bh n (fun i=>f i j)):=by
 induction n with
 | zero => exact ((c7 (n := m) (f := fun _ => (0 : Int)) (g := fun _ => (0 : Int) * 0) (fun _ _ => rfl)).trans ((du m 0 _).trans (Int.zero_mul _))).symm
 | succ n ih => rw [bh, ih, ← f7]; rfl
abbrev dgs (p n:Nat) (R:Nat→Nat→Nat) (r:Nat→Int):Nat→Int:=fun j=>(eG p n R r n j:Int)
def stR (p n:Nat) (F:Nat→Nat→Int) (R:Nat→Nat→Nat) (b:Nat→Int):Nat→Nat→Int
 | 0 => b
 | k + 1 => fun i => (stR p n F R b k i - bh n (fun t => dgs p n R (stR p n F R b k) t * F t i)) / (p : Int)
theorem pY {p n:Nat} {R:Nat→Nat→Nat} {r:Nat→Int} (hp:0<p) : ∀ m j,(p:Int)∣(eG p n R r m j:Int) - bh m (fun i=>r i*(R i j:Int))
 | 0, j => ⟨0, by simp [eG, bh]⟩
 | m + 1, j => by
  have h1:=pY (n:=n) (R:=R) (r:=r) hp m j
  have h2:(p:Int)∣(eG p n R r (m+1) j:Int) - ((eG p n R r m j:Int)+(((r m % (p:Int)).toNat*R m j % p:Nat):Int)):=by
   have:=d7 (eG p n R r m j+(r m % (p:Int)).toNat*R m j % p) p
   rwa [Int.natCast_add] at this
  have h3:=d7 ((r m % (p:Int)).toNat*R m j) p
  have h4:(p:Int)∣(((r m % (p:Int)).toNat*R m j:Nat):Int) - r m*(R m j:Int):=by
   rw [Int.natCast_mul,Int.toNat_of_nonneg (Int.emod_nonneg _ X)]
   refine c8 _ ⟨-(r m / (p:Int)),?_⟩
   have:=Int.mul_ediv_add_emod (r m) (p:Int)
   rw [Int.mul_neg]; omega
  obtain ⟨a,ha⟩:=h1
  obtain ⟨c,hc⟩:=h2
  obtain ⟨d,hd⟩:=fA h3 h4
  refine ⟨a+c+d,?_⟩
  rw [bh,Int.mul_add,Int.mul_add]
  omega
theorem xc {p n:Nat} {F:Nat→Nat→Int} {R:Nat→Nat→Nat} {r:Nat→Int} (hp:0<p) (hR:rh p n F R) {i:Nat} (hi:i<n):(p:Int)∣r i - bh n (fun t=>dgs p n R r t*F t i):=by
 have h1:(p:Int)∣bh n (fun t=>dgs p n R r t*F t i) - bh n (fun t=>bh n (fun k=>r k*(R k t:Int))*F t i):=gk fun t _=>c8 _ (pY hp n t)
 have h2:bh n (fun t=>bh n (fun k=>r k*(R k t:Int))*F t i)=bh n (fun k=>r k*bh n (fun t=>(R k t:Int)*F t i)):=by
  have e1:(fun t=>bh n (fun k=>r k*(R k t:Int))*F t i)=fun t=>bh n (fun k=>r k*((R k t:Int)*F t i)):=by
   funext t
   rw [Int.mul_comm, ← du]
   exact congrArg (bh n) (funext fun k=>by rw [Int.mul_comm (F t i),Int.mul_assoc])
  have e2:(fun k=>r k*bh n (fun t=>(R k t:Int)*F t i))=fun k=>bh n (fun t=>r k*((R k t:Int)*F t i)):=by
   funext k
   rw [du]
  rw [e1,e2]
  exact Bo n n _
 have h3:(p:Int)∣bh n (fun k=>r k*bh n (fun t=>(R k t:Int)*F t i)) - bh n (fun k=>r k*(if k=i then 1 else 0)):=gk fun k hk=>by
  have:=c8 (r k) (hR.2 k i hk hi)
  rwa [Int.mul_comm _ (r k),Int.mul_comm _ (r k)] at this
 have h4:bh n (fun k=>r k*(if k=i then (1:Int) else 0))=r i:=by
  rw [ie hi fun k _ hne=>by rw [if_neg hne,Int.mul_zero],if_pos Y,Int.mul_one]
 rw [h4] at h3
 rw [h2] at h1
 exact fB (fA h1 h3)
theorem sX {p n:Nat} {F:Nat→Nat→Int} {R:Nat→Nat→Nat} {b:Nat→Int} (hp:0<p) (hR:rh p n F R) (k:Nat) {i:Nat} (hi:i<n) :
  stR p n F R b k i=bh n (fun t=>dgs p n R (stR p n F R b k) t*F t i)+(p:Int)*stR p n F R b (k+1) i:=by
 have h:=Int.mul_ediv_cancel' (xc (r:=stR p n F R b k) hp hR hi)
 show _=_+(p:Int)*((stR p n F R b k i - bh n (fun t=>dgs p n R (stR p n F R b k) t*F t i)) / (p:Int))
 rw [h]; omega
theorem zE {p n:Nat} {F:Nat→Nat→Int} {R:Nat→Nat→Nat} {b:Nat→Int} (hp:2≤p) (hn:n≤16) (hF : ∀ i j,(F i j).natAbs≤1099511627776) (hb : ∀ i,(b i).natAbs≤1152921504606846976) : ∀ k i,(stR p n F R b k i).natAbs≤2305843009213693952
 | 0, i => Nat.le_trans (hb i) S
 | k + 1, i => by
  have h1:=zE (R:=R) hp hn hF hb k i
  have h2:=l5 (B:=p*1099511627776) (f:=fun t=>dgs p n R (stR p n F R b k) t*F t i) (fun t=>by
   rw [Int.natAbs_mul]
   have h3:eG p n R (stR p n F R b k) n t<p:=jc hp n t
   exact Nat.mul_le_mul (by show (eG p n R (stR p n F R b k) n t:Int).natAbs≤p;omega) (hF t i)) n
  replace h2:=Nat.le_trans h2 (Nat.mul_le_mul_right (p*1099511627776) hn)
  show ((stR p n F R b k i - bh n (fun t=>dgs p n R (stR p n F R b k) t*F t i)) / (p:Int)).natAbs≤_
  generalize bh n (fun t=>dgs p n R (stR p n F R b k) t*F t i)=s at *
  generalize stR p n F R b k i=r at *
  have h4:=Int.mul_ediv_add_emod (r - s) (p:Int)
  have h5:=Int.emod_nonneg (r - s) (show (p:Int)≠0 by omega)
  have h6:=Int.emod_lt_of_pos (r - s) (show 0<(p:Int) by omega)
  generalize (r - s) / (p:Int)=q at *
  generalize (r - s) % (p:Int)=m at *
  by_cases hq:0≤q - 17592186044416
  ·have h7:2*(q - 17592186044416)≤(p:Int)*(q - 17592186044416):=Int.mul_le_mul_of_nonneg_right X hq
   rw [Int.mul_sub (p:Int)] at h7
   omega
  ·by_cases hq2:0 ≤ -(q+17592186044417)
   ·have h7:2*(-(q+17592186044417))≤(p:Int)*(-(q+17592186044417)):=Int.mul_le_mul_of_nonneg_right X hq2
    rw [Int.mul_neg (p:Int),Int.mul_add (p:Int)] at h7
    omega
   ·omega
def gr (p n:Nat) (F:Nat→Nat→Int) (b:Nat→Int) (pre:List (Nat→Int)):Prop := ∃ R,rh p n F R∧pre=(List.range pre.length).map fun k=>dgs p n R (stR p n F R b k)
def smL (p:Nat) (pre:List (Nat→Int)) (j:Nat):Int:=bh pre.length (fun i=>(p:Int)^i*pre.getD i (fun _=>0) j)
theorem Bp {p j:Nat} : smL p [] j=0:=rfl
theorem oE {p:Nat} {pre:List (Nat→Int)} {x:Nat→Int} {j:Nat} : smL p (pre ++ [x]) j=smL p pre j+(p:Int)^pre.length*x j:=by
 unfold smL
 rw [List.length_append,show pre.length + [x].length=pre.length+1 from rfl,bh]
 congr 1
 ·exact c7 fun i hi=>by rw [List.getD_eq_getElem?_getD,List.getElem?_append_left hi, ← List.getD_eq_getElem?_getD]
 ·rw [List.getD_eq_getElem?_getD,List.getElem?_append_right (Nat.le_refl _),Nat.sub_self]; rfl
theorem gr.snoc {p n:Nat} {F:Nat→Nat→Int} {b:Nat→Int} {R:Nat→Nat→Nat} (hR:rh p n F R) (k:Nat):gr p n F b ((List.range k).map fun k=>dgs p n R (stR p n F R b k)):=⟨R,hR,by rw [List.length_map,List.length_range]⟩
theorem fS {α:Type} {f:Nat→α} {k:Nat} : (List.range k).map f ++ [f k]=(List.range (k+1)).map f:=by rw [List.range_succ,List.map_append]; rfl
theorem gr.last {p n:Nat} {F:Nat→Nat→Int} {b:Nat→Int} {pre:List (Nat→Int)} {x:Nat→Int} (hp:2≤p) (h:gr p n F b (pre ++ [x])) : ∀ j,0≤x j∧x j<p:=by
 obtain ⟨R,hR,he⟩:=h
 rw [List.length_append,show pre.length + [x].length=pre.length+1 from rfl, ← fS] at he
 have:=List.append_inj_right' he Y
 cases this
 intro j
 have h3:eG p n R (stR p n F R b pre.length) n j<p:=jc hp n j
 exact ⟨by show 0≤(eG p n R (stR p n F R b pre.length) n j:Int);omega,by show (eG p n R (stR p n F R b pre.length) n j:Int)<p;omega⟩
theorem gr.sum {p n:Nat} {F:Nat→Nat→Int} {b:Nat→Int} {pre:List (Nat→Int)} (hp:0<p) (h:gr p n F b pre) : ∀ i,i<n→((p:Int)^pre.length)∣b i - bh n (fun t=>smL p pre t*F t i):=by
 obtain ⟨R,hR,he⟩:=h
 generalize pre.length=k at *
 subst he
 intro i hi
 refine ⟨stR p n F R b k i,?_⟩
 induction k with
 | zero => rw [c7 (g := fun _ => (0 : Int) * 0) (fun t _ => by rw [List.range_zero, List.map_nil, Bp, Int.zero_mul, Int.zero_mul]), du]; simp [stR]
 | succ k ih =>
  rw [← fS]
  have e:(fun t=>smL p ((List.range k).map (fun k=>dgs p n R (stR p n F R b k)) ++ [dgs p n R (stR p n F R b k)]) t*F t i)=fun t=>smL p ((List.range k).map fun k=>dgs p n R (stR p n F R b k)) t*F t i+(p:Int)^k*(dgs p n R (stR p n F R b k) t*F t i):=by
   funext t
   rw [oE,Int.add_mul,List.length_map,List.length_range,Int.mul_assoc]
  rw [e,f7,du, ← Int.sub_sub,ih,sX hp hR k hi,Int.pow_succ,Int.mul_add,Int.mul_assoc]
  omega
end Tor
end
section
set_option linter.unusedSectionVars false
namespace Tor
open Go Go.RowKit
structure KeepZ (Ec:List Nat) (W:World) (Z':List Nat) (W':World):Prop where
 os:W'.os=W.os
 tape:W'.tape=W.tape
 output:W'.output=W.output
 size:W.heap.size≤W'.heap.size
 block : ∀ b,b<W.heap.size→b ∉ Ec→W'.heap[b]? = W.heap[b]?
 own : ∀ b∈Z',b<W'.heap.size∧(b∈Ec∨W.heap.size≤b)
section
variable {P:Program} {E:Env} {D:List Deferred} {Γ:Ctx} {M:Mem} {Q:Exit→Act→World→Prop} {α σ:Type}
def rj (P:Program) (l:Nat) (Ψ:α→VT) (Good:List α→Prop) (J:List α × List Nat→World→Prop) (Jx:List α→World→Prop):Prop :=
 ∀ pre x v Ec W,J (pre,Ec) W→Good (pre ++ [x])→(Ψ x).p v (hid Ec (ck W))→YieldAt Fence.wide 7 P l #[v] W fun e W'=>(e = .returned (.bool true) ∧ ∃ Z',J (pre ++ [x],Z') W'∧KeepZ Ec W Z' W')∨(e = .returned (.bool false)∧Jx (pre ++ [x]) W')
def OkZ (P:Program) (gf:FuncId) (cs:List VT) (Ψ:α→VT) (Good:List α→Prop) (N:Nat):Prop :=
 ∀ (w:World) (O:List Nat) (ca:List Value),fe cs ca (hid O (ck w)) →
 ∀ (l:Nat) (J:List α × List Nat→World→Prop) (Jx:List α→World→Prop) (Ec:List Nat) (W:World),Ext w W→(∀ b∈Ec,b<W.heap.size∧(b∈O∨w.heap.size≤b))→AbidesFrom W.heap.size J→AbidesFrom W.heap.size Jx →
  (∀ s W1,J s W1→s.1.length<N)→rj P l Ψ Good J Jx→J ([],Ec) W →
  CallsIn Fence.wide 8 P gf (#[.func (.yield l) #[] #[]] ++ ca.toArray) W fun e W'=>(∃ v,e = .returned v) ∧ ∃ pre,Jx pre W'
def DQ (I:List α→List Nat→World→Prop) (Ix:Code→List α→World→Prop) (xs:List α) (Ec:List Nat) (W:World):Exit→Act→World→Prop
 | .normal, _, W' => KeepsOthers W W' ∧ ∃ Z', KeepZ Ec W Z' W' ∧ I xs Z' W'
 | .ret, _, W' => KeepsOthers W W' ∧ Ix .ret xs W'
 | .exit id, _, W' => KeepsOthers W W' ∧ Ix (.exit id) xs W'
 | _, _, _ => False
theorem Db {g:Operand} {ps:Array Tmp} {assign body:Code} {a:Act} {w:World} {gf:Nat} {ca:List Value} (hg:a.eval g = .func (.func gf) #[] ca.toArray) (eg : ∀ args w,(callFunc gf args).run P w = .ok (.enter gf args) w)
  {Ψ:α→VT} {Good:List α→Prop} {N:Nat} {cs:List VT} {O:List Nat} (hseq:OkZ P gf cs Ψ Good N) (hca:fe cs ca (hid O (ck w))) (hps:ps.size=1)
  (I:List α→List Nat→World→Prop) (Ix:Code→List α→World→Prop) (hI : ∀ Ec,OwnFrom w.heap.size (fun pre=>I pre Ec)) (hIx : ∀ c,OwnFrom w.heap.size (Ix c)) (hN : ∀ pre Ec W,I pre Ec W→pre.length<N)
  (hZ : ∀ b∈O,b<w.heap.size) (h0:I [] O w) (a1:Value→Act)
  (hassign : ∀ (l:Nat) (x:Value) (W:World) (K:Act→World→Prop),K (a1 x) W→assign.wpIn (Fence.wide.inRound l) 7 P (Exit.then K (fun _ _ _=>False)) { tmps:=(ps.zip #[x]).foldl (fun t (p,v)=>t.setIfInBounds p v) a.tmps,defers := [] } W)
  (hbody : ∀ (l:Nat) (pre:List α) (x:α) (v:Value) (Ec:List Nat) (W:World),I pre Ec W→Good (pre ++ [x])→(Ψ x).p v (hid Ec (ck W))→body.wpIn (Fence.wide.inRound l) 7 P (DQ I Ix (pre ++ [x]) Ec W) (a1 v) W)
  (hstop : ∀ (D:Nat) (c:Code) (pre:List α) (W:World),w.heap.size≤D→Ix c pre W→W.heap[D]? = some (.deferred (some []))→c.wpIn Fence.wide 9 P Q { a with defers := { target := .collected D,args := #[] } :: a.defers } W) :
  (Code.rangeFunc g ps assign body).wpIn Fence.wide 9 P Q a w:=by
 refine wpIn_rangeFunc fun fn hfn => ?_
 let B:=w.heap.size
 let rec0:LoopState→Option Code→Loop:=fun st pe => { state:=st,pending:=pe,fn,tmps:=a.tmps,params:=ps,assign,body,defers:=B }
 let cl:LoopState→Option Code→World→Prop:=fun st pe W=>W.heap[B+1]? = some (.loop (rec0 st pe))∧W.heap[B]? = some (.deferred (some []))
 let W1:=(w.alloc (.deferred (some []))).alloc (.loop (rec0 .ready none))
 have c1:cl .ready none W1 :=
  ⟨by have:=World.alloc_heap_new (w.alloc (.deferred (some []))) (.loop (rec0 .ready none));rwa [World.size_alloc] at this,(Below.heap_alloc _ _ _ (by simp [B])).trans (World.alloc_heap_new w _)⟩
 have hs1:W1.heap.size=B+2:=by show ((w.alloc _).alloc _).heap.size=_;rw [World.size_alloc,World.size_alloc]
 have hb1:Ext w W1:=⟨rfl,rfl,rfl,by rw [hs1]; exact Nat.le_add_right B 2,fun k hk=>(Below.heap_alloc _ _ _ (by rw [World.size_alloc]; omega)).trans (Below.heap_alloc _ _ _ hk)⟩
 have keepL : ∀ {st pe} {W W':World} {row:Option Nat},cl st pe W→W.grownBy W' row→(∀ r,row=some r → ∃ o:Obj,W.heap[r]? = some o∧o.isCells=false∧o.isWalk=true)→cl st pe W':=fun hc hg hr =>
  ⟨(grownBy_keeps hg (fun r e=>let ⟨o,h1,_,h3⟩:=hr r e;⟨o,h1,h3⟩) hc.1 Y).trans hc.1,(grownBy_keeps hg (fun r e=>let ⟨o,h1,_,h3⟩:=hr r e;⟨o,h1,h3⟩) hc.2 Y).trans hc.2⟩
 have rows : ∀ {W:World} {row:Option Nat},(∀ r,row=some r→W1.heap.size≤r ∧ ∃ o:Obj,W.heap[r]? = some o∧o.isWalk=true) →
   (∀ r,row=some r→w.heap.size≤r ∧ ∃ o:Obj,W.heap[r]? = some o∧o.isCells=false)∧(∀ r,row=some r → ∃ o:Obj,W.heap[r]? = some o∧o.isCells=false∧o.isWalk=true):=fun hr =>
  ⟨fun r e=>let ⟨h1,o,h2,h3⟩:=hr r e;⟨by rw [hs1] at h1;show B≤r;omega,o,h2,Obj.not_cells_of_walk h3⟩,fun r e=>let ⟨_,o,h2,h3⟩:=hr r e;⟨o,h2,Obj.not_cells_of_walk h3,h3⟩⟩
 refine ⟨B+1, [{ target := .collected B,args := #[] }],W1, { target := .fn (.func gf) ca.toArray,args := #[.func (.yield (B+1)) #[] #[]] },W1,gf, #[.func (.yield (B+1)) #[] #[]] ++ ca.toArray,W1,
  run_enterLoop_outer _ _ _ _ _,by simp only [resolve,hg]; simp [go_sem],fun f' hf'=>trivial,by simp [invoke,go_sem,eg],fun _=>by omega,?_⟩
 refine (hseq w O ca hca (B+1) (fun s W => ∃ Zc,s.2=(B+1) :: B :: Zc∧I s.1 Zc W∧cl .ready none W) (fun pre W => ∃ c,Ix c pre W∧cl .done (some c) W) ((B+1) :: B :: O) W1 hb1 (fun b hb => ?_)
  (fun s A A' row hs hg' hr=>let ⟨Zc,e,h1,h2⟩:=hs;⟨Zc,e,hI Zc s.1 A A' row h1 hg' (rows hr).1,keepL h2 hg' (rows hr).2⟩) (fun s A A' row hs hg' hr=>let ⟨c,h1,h2⟩:=hs;⟨c,hIx c s A A' row h1 hg' (rows hr).1,keepL h2 hg' (rows hr).2⟩)
  (fun s W hs=>let ⟨Zc,_,h1,_⟩:=hs;hN s.1 Zc W h1) ?_ ⟨O,rfl,(hI O).alloc _ ((hI O).alloc _ h0),c1⟩).mono ?_
 ·rw [hs1]
  rcases List.mem_cons.1 hb with rfl | hb
  ·exact ⟨by omega, .inr (by show B≤B+1;omega)⟩
  ·rcases List.mem_cons.1 hb with rfl | hb
   ·exact ⟨by omega, .inr (Nat.le_refl _)⟩
   ·have:=hZ b hb
    exact ⟨by show b<w.heap.size+2;omega, .inl hb⟩
 ·rintro pre x v Ec W ⟨Zc,rfl,hi,hl,hk⟩ hgo hx
  dsimp only at hi
  have hlt:B+1<W.heap.size:=(Array.getElem?_eq_some_iff.1 hl).1
  refine ⟨fn,_,assign,body,run_yield (P:=P) (args := #[v]) hl hps.symm,roundIn_of_wpIn hfn (hassign _ v W _ ⟨_,run_beginRound hl Y,?_⟩)⟩
  have hl2:(W.putObj (B+1) (.loop { rec0 .ready none with state := .busy })).heap[B+1]? = some (.loop { rec0 .ready none with state := .busy }):=World.putObj_heap_same hlt
  have hk2:(W.putObj (B+1) (.loop { rec0 .ready none with state := .busy })).heap[B]? = some (.deferred (some [])):=(World.putObj_heap_other X).trans hk
  have hx2:(Ψ x).p v (hid Zc (ck (W.putObj (B+1) (.loop { rec0 .ready none with state := .busy })))):=(Ψ x).mono (fun b y e=>by
   obtain ⟨h1,h2⟩:=di e
   refine eJ (fun h=>h1 (List.mem_cons_of_mem _ (List.mem_cons_of_mem _ h))) ?_
   rw [eV (World.putObj_heap_other (fun e=>h1 (by rw [e]; exact List.mem_cons_self)))]
   exact h2) hx
  refine wpIn_mono (hbody _ pre x v Zc _ ((hI Zc).putObj _ hi X hl Y) hgo hx2) ?_
  have fin : ∀ (jump:Option Code) (W3:World),KeepsOthers (W.putObj (B+1) (.loop { rec0 .ready none with state := .busy })) W3 →
    (Instr.endRound (B+1) jump).run P W3 = .ok (.bool jump.isNone) (W3.putObj (B+1) (.loop (rec0 (if jump.isNone then .ready else .done) jump))) ∧
    W3.heap[B+1]? = some (.loop { rec0 .ready none with state := .busy })∧cl (if jump.isNone then .ready else .done) jump (W3.putObj (B+1) (.loop (rec0 (if jump.isNone then .ready else .done) jump))):=fun jump W3 hk3=>by
   have hl3:=hk3.same _ _ hl2 Y
   exact ⟨run_endRound (P:=P) jump hl3,hl3,World.putObj_heap_same (Array.getElem?_eq_some_iff.1 hl3).1,(World.putObj_heap_other X).trans (hk3.same _ _ hk2 Y)⟩
  have leave : ∀ (c:Code) (W3:World),KeepsOthers (W.putObj (B+1) (.loop { rec0 .ready none with state := .busy })) W3→Ix c (pre ++ [x]) W3 → ∃ v W4,(Instr.endRound (B+1) (some c)).run P W3 = .ok v W4 ∧
    ((Ending.returned v = .returned (.bool true) ∧ ∃ Z',(∃ Zc,Z'=(B+1) :: B :: Zc∧I (pre ++ [x]) Zc W4∧cl .ready none W4)∧KeepZ ((B+1) :: B :: Zc) W Z' W4)∨(Ending.returned v = .returned (.bool false) ∧ ∃ c,Ix c (pre ++ [x]) W4∧cl .done (some c) W4)):=fun c W3 hk3 hi3=>by
   obtain ⟨hr,hl3,hc4⟩:=fin (some c) W3 hk3
   exact ⟨_,_,hr, .inr ⟨rfl,c,(hIx _).putObj _ hi3 X hl3 Y,hc4⟩⟩
  rintro e a3 W3 hp
  cases e with
  | normal =>
   obtain ⟨hk3,Z',kz,hi3⟩:=hp
   obtain ⟨hr,hl3,hc4⟩:=fin none W3 hk3
   refine ⟨_,_,hr, .inl ⟨rfl,(B+1) :: B :: Z',⟨Z',rfl,(hI Z').putObj _ hi3 X hl3 Y,hc4⟩,kz.os,kz.tape,kz.output,?_,fun b hb hn => ?_,fun b hb => ?_⟩⟩
   ·have:=kz.size;simp only [World.putObj_size] at this ⊢; exact this
   ·have h1:b≠B+1:=fun e=>hn (by rw [e]; exact List.mem_cons_self)
    exact (World.putObj_heap_other h1).trans ((kz.block b (by rw [World.putObj_size]; exact hb) fun h=>hn (List.mem_cons_of_mem _ (List.mem_cons_of_mem _ h))).trans (World.putObj_heap_other h1))
   ·have hlt3:=(Array.getElem?_eq_some_iff.1 hl3).1
    rw [World.putObj_size]
    rcases List.mem_cons.1 hb with rfl | hb
    ·exact ⟨hlt3, .inl List.mem_cons_self⟩
    ·rcases List.mem_cons.1 hb with rfl | hb
     ·exact ⟨by omega, .inl (List.mem_cons_of_mem _ List.mem_cons_self)⟩
     ·obtain ⟨h1,h2⟩:=kz.own b hb
      rw [World.putObj_size] at h2
      exact ⟨h1,h2.imp (fun h=>List.mem_cons_of_mem _ (List.mem_cons_of_mem _ h)) id⟩
  | ret => exact leave .ret W3 hp.1 hp.2
  | exit id => exact leave (.exit id) W3 hp.1 hp.2
  | goto t => exact hp.elim
  | panic ch => exact hp.elim
  | outgrown => exact hp.elim
 ·rintro e W2 ⟨⟨v,rfl⟩,pre,c,hi,hl,hk⟩
  exact ⟨some c,_,run_endLoop (P:=P) hl (by simp [rec0]),hstop _ c pre _ (Nat.le_refl _) ((hIx c).putObj _ hi X hl Y) ((World.putObj_heap_other X).trans hk)⟩
theorem sY {g:Operand} {p q id:Nat} {T:TypeId} {pos:String} {body:Code} {gf:FuncId} {cs:List VT} {Ψ:α→VT} {Good:List α→Prop} {N:Nat} [hF:Fn P gf]
  (hit:OkZ P gf cs Ψ Good N) (Ms:σ→Mem) [hc : ∀ s,CellM (Ms s)] (ok:List α→σ→Prop) (okx:Option Nat→List α→σ→Prop) (s0:σ) (hE:E.R=none) (hg:aN Γ g=some (iZ gf cs)) (hN : ∀ pre s,ok pre s→pre.length<N) (h0:ok [] s0) (hm:SubM M (Ms s0))
  (hp:Nat.ble (p+1) E.N=true) (hq:Nat.ble (q+1) E.N=true) (hnd:f8 body=true)
  (hround : ∀ (l:Nat) (W:World) (pre:List α) (x:α) (s:σ),ok pre s→Good (pre ++ [x]) →
   J P ⟨W,E.O,aZ (Ms s),E.N,some l⟩ [] ((q, Ψ x) :: (p, Ψ x) :: Γ) (Ms s) body (rR ⟨W,E.O,aZ (Ms s),E.N,some l⟩ Ms ok okx (pre ++ [x])))
  (hret : ∀ (pre:List α) (s:σ) (b:Nat),okx none pre s→PJ E [m8 b] Γ (dfO b :: Ms s) .ret Q)
  (hexit : ∀ (id:Nat) (pre:List α) (s:σ) (b:Nat),okx (some id) pre s→PJ E [m8 b] Γ (dfO b :: Ms s) (.exit id) Q) :
  J P E [] Γ M (.rangeFunc g #[p] (.region id #[⟨some q, .assign (.tmp p),T,pos, #[],none⟩] false) body) Q:=by
 intro a w hS _
 rw [hE]
 show Code.wpIn Fence.wide 9 P _ Q a w
 obtain ⟨ca,hg0,hca⟩:=cG hS hg
 have hp:=Nat.le_of_ble_eq_true hp
 have hq:=Nat.le_of_ble_eq_true hq
 let E1:Env:=⟨w,E.O,aZ M,E.N,none⟩
 have hS0:St E1 [] Γ M a w:=⟨⟨hS.base.mem,hS.base.nd,hS.base.dis,fun b hb => .inr hb,hS.base.ex,Fr.refl _ _⟩,hS.sz,hS.df,hS.tm⟩
 have own : ∀ (s:σ) (W W':World) (row:Option Nat),St E1 [] Γ (Ms s) a W→W.grownBy W' row→(∀ r,row=some r→w.heap.size≤r ∧ ∃ o:Obj,W.heap[r]? = some o∧o.isCells=false)→St E1 [] Γ (Ms s) a W':=fun s W W' row hs hgr hr=>St.grown (hc s) hs hgr (Nat.le_refl _) hr
 have fin : ∀ (s:σ) (b:Nat) (W:World),w.heap.size≤b→W.heap[b]? = some (.deferred (some []))→St E1 [] Γ (Ms s) a W→St E [m8 b] Γ (dfO b :: Ms s) { a with defers:=m8 b :: a.defers } W:=fun s b W hb hh hs =>
  St.mark (hc s) (hs.from_ hS.base) (Nat.le_trans hS.base.fr.size hb) (fun h=>by have:=hS.base.ex b (List.mem_append.2 (.inl h));omega) hh
 have hS1:St E1 [] Γ (Ms s0) a w:=hS0.sub (dJ.refl _) hm
 refine Db (O:=E.O ++ aZ M) hg0 (fun args w=>hF.run args w) hit hca Y
  (fun pre Ec W => ∃ s,(∀ b∈E.O ++ aZ (Ms s),b∈Ec)∧ok pre s∧St E1 [] Γ (Ms s) a W)
  (fun c pre W=>match c with
   | .ret => ∃ s, okx none pre s ∧ St E1 [] Γ (Ms s) a W
   | .exit id => ∃ s, okx (some id) pre s ∧ St E1 [] Γ (Ms s) a W
   | _ => False)
  (fun Ec pre W W' row hs hgr hr=>let ⟨s,h0,h1,h2⟩:=hs;⟨s,h0,h1,own s W W' row h2 hgr hr⟩) ?_ (fun pre Ec W hs=>let ⟨s,_,h1,_⟩:=hs;hN pre s h1) hS.base.ex ⟨s0,fun b hb => ?_,h0,hS1⟩
  (fun v=>({ tmps:=a.tmps.setIfInBounds p v,defers := [] } : Act).put (some q) v) ?_ ?_ ?_
 ·rintro c pre W W' row hs hgr hr
  cases c <;> first
   | exact hs.elim
   | (obtain ⟨s, h1, h2⟩ := hs; exact ⟨s, h1, own s W W' row h2 hgr hr⟩)
 ·rcases List.mem_append.1 hb with h | h
  ·exact List.mem_append.2 (.inl h)
  ·exact List.mem_append.2 (.inr ((hS1.base.lo b h).resolve_left fun h3=>by
    have:=hS1.base.ex b (List.mem_append.2 (.inr h))
    have h3:w.heap.size≤b:=h3
    omega))
 ·intro l x W K hK
  refine wpIn_region (F:=fen (some l)) (kY (r:=some l) (.inr (by simp [gl])) (fun ⟨_,_,h⟩=>h) _ _ _ ?_)
  have hv':(a.tmps.setIfInBounds p x).getD p undef=x:=by
   have:=hS.sz
   simp [Array.getD_eq_getD_getElem?,show p<a.tmps.size by omega]
  have e:List.range 1 = [0]:=rfl
  simp [wpOps,e,Oper.wp,Region.wanted,execOp,Act.eval,hv',Oper.upon,Exit.then]
  exact .inl hK
 ·rintro l pre x v Ec W ⟨s,hz,hs,hSs⟩ hgo hx
  have hx:(Ψ x).p v (hid (E.O ++ aZ (Ms s)) (ck W)):=(Ψ x).mono (kW hz) hx
  have hS1:St ⟨W,E.O,aZ (Ms s),E.N,some l⟩ [] Γ (Ms s) { tmps:=a.tmps,defers := [] } W :=
   ⟨⟨hSs.base.mem,hSs.base.nd,hSs.base.dis,fun b hb => .inr hb,hSs.base.ex,Fr.refl _ _⟩,hSs.sz,rfl,hSs.tm⟩
  have hS2:=(hS1.put (Ext.refl W) (d:=p) hp (ψ:=Ψ x) (v:=v) hx).put (Ext.refl W) (d:=q) hq (ψ:=Ψ x) (v:=v) hx
  refine wpIn_mono (nR (m:=7) (hround l W pre x s hs hgo _ W hS2 (.inr hnd))) ?_
  have keep : ∀ (s':σ) (a':Act) (W':World),St ⟨W,E.O,aZ (Ms s),E.N,some l⟩ [] [] (Ms s') a' W'→KeepsOthers W W'∧KeepZ Ec W (E.O ++ aZ (Ms s')) W'∧St E1 [] Γ (Ms s') a W':=by
   intro s' a' W' h'
   have hf:=h'.base.fr
   refine ⟨⟨hf.size,fun k o hk ho=>(hf.block k (Array.getElem?_eq_some_iff.1 hk).1 fun hm' => ?_).trans hk⟩,⟨hf.os,hf.tape,hf.output,hf.size,fun b hb hn=>hf.block b hb fun hm'=>hn (hz b (List.mem_append.2 (.inr hm'))),fun b hb=>⟨h'.base.ex b hb,?_⟩⟩,hSs.slots h'⟩
   ·obtain ⟨c,T,f,e⟩:=(hc s).get hSs.base hm'
    rw [hk] at e;cases e;cases ho
   ·rcases List.mem_append.1 hb with h | h
    ·exact .inl (hz b (List.mem_append.2 (.inl h)))
    ·rcases h'.base.lo b h with h3 | h3
     ·exact .inr h3
     ·exact .inl (hz b (List.mem_append.2 (.inr h3)))
  rintro e a' W' hp'
  cases e with
  | normal => obtain ⟨s', h1, h2⟩ := hp'; obtain ⟨k1, k2, k3⟩ := keep s' a' W' h2; exact ⟨k1, _, k2, s', fun b hb => hb, h1, k3⟩
  | ret => obtain ⟨s', h1, h2⟩ := hp'; obtain ⟨k1, k2, k3⟩ := keep s' a' W' h2; exact ⟨k1, s', h1, k3⟩
  | exit id => obtain ⟨s', h1, h2⟩ := hp'; obtain ⟨k1, k2, k3⟩ := keep s' a' W' h2; exact ⟨k1, s', h1, k3⟩
  | goto t => exact hp'.elim
  | panic ch => exact hp'.elim
  | outgrown => exact hp'.elim
 ·rintro b c pre W hb hx hh
  cases c <;> first
   | exact hx.elim
   | (obtain ⟨s, hs, hSs⟩ := hx; exact wpIn_ret (hret pre s b hs _ W (fin s b W hb hh hSs)))
   | (obtain ⟨s, hs, hSs⟩ := hx; exact wpIn_exit (hexit _ pre s b hs _ W (fin s b W hb hh hSs)))
/-! ### The function that yields -/
def RZ (Jx:List α→World→Prop) (e:Ending) (W:World):Prop:=(∃ v,e = .returned v) ∧ ∃ pre,Jx pre W
theorem OkZ.enter {Ψ:α→VT} {Good:List α→Prop} {f:FuncId} {fn:Func} {c:Code} {N Nr:Nat} {cs:List VT} (hf:P.funcs[f]? = some fn) (hb:fn.body=some c) (hN:fn.ntmps=N) (hle:Nat.ble (cs.length+1) N=true)
  (h : ∀ (W:World) (l:Nat) (J:List α × List Nat→World→Prop) (Jx:List α→World→Prop) (B:Nat) (Ec:List Nat),AbidesFrom B J→AbidesFrom B Jx→(∀ s W,J s W→s.1.length<Nr)→rj P l Ψ Good J Jx→J ([],Ec) W →
   Tor.J P ⟨W,Ec, [],N,none⟩ [] ((0,one (.func (.yield l) #[] #[])) :: fj 1 cs) [] c (bodyPost P fn (RZ Jx))):OkZ P f cs Ψ Good Nr:=by
 intro w O ca hca l J Jx Ec W hW hZ hA hAx hl hY h0
 have hv':fe (one (.func (.yield l) #[] #[]) :: cs) (.func (.yield l) #[] #[] :: ca) (hid Ec (ck W)) :=
  ⟨rfl,iG (fun b x e=>by
   obtain ⟨h1,h2⟩:=di e
   have:=eC h2
   exact eJ (fun h=>(hZ b h).2.elim h1 (fun h3=>by omega)) (Ext.view hW _ _ h2)) hca⟩
 have hc:=Tor.jj (R:=RZ Jx) hf hb hN (O:=Ec) (fun b hb=>(hZ b hb).1) hv' (Nat.le_of_ble_eq_true hle) (h W l J Jx _ Ec hA hAx hl hY h0)
 have he:(#[Value.func (.yield l) #[] #[]] ++ ca.toArray)=(Value.func (.yield l) #[] #[] :: ca).toArray:=by simp
 rw [he]
 exact callsIn_wide.2 hc
theorem Bq {ops:Array Oper} {Ψ:α→VT} {Good:List α→Prop} {J:List α × List Nat→World→Prop} {Jx:List α→World→Prop} {l id m d N:Nat} {t x:Operand} {ats:Array TypeId} {ty:TypeId} {pos:String} {af:Array Edge} {pre:List α} {B:Nat} {W:World} {Ec:List Nat} (v:α) (Γk:Ctx)
  (hY:rj P l Ψ Good J Jx) (hA:AbidesFrom B J) (hJ:J (pre,Ec) W) (hgo:Good (pre ++ [v]))
  (hm:ops[m]? = some ⟨some d, .call ⟨.value t, #[x],ats⟩,ty,pos,af,none⟩) (hd:Nat.ble (d+1) N=true)
  (h:Run P ⟨W,Ec, [],N,none⟩ ops false 0 [] Γ [] (ops.toList.take m) (fun D' Γ' M'=>D' = []∧M' = []∧aN Γ' t=some (one (.func (.yield l) #[] #[]))∧aN Γ' x=some (Ψ v)∧dJ Γ' Γk))
  (h1 : ∀ W' Z',J (pre ++ [v],Z') W'→Run P ⟨W',Z', [],N,none⟩ ops false (m+1) [] ((d,one (.bool true)) :: Γk) [] (ops.toList.drop (m+1)) (fun D' Γ' M'=>PJ ⟨W',Z', [],N,none⟩ D' Γ' M' .normal Q))
  (h2 : ∀ W',Jx (pre ++ [v]) W'→Run P ⟨W', [], [],N,none⟩ ops false (m+1) [] [(d,one (.bool false))] [] (ops.toList.drop (m+1)) (fun D' Γ' M'=>PJ ⟨W', [], [],N,none⟩ D' Γ' M' .normal Q)) :
  Tor.J P ⟨W,Ec, [],N,none⟩ [] Γ [] (.region id ops false) Q:=by
 intro a w hS _
 have hlt:m<ops.size:=(Array.getElem?_eq_some_iff.1 hm).1
 have hd:=Nat.le_of_ble_eq_true hd
 show Code.wpIn (fen none) 9 P _ Q a w
 refine wpIn_mono (wpIn_region ?_) qf
 have e:List.range ops.size=List.range' 0 (ops.toList.take m).length ++ (m :: List.range' (m+1) (ops.size - (m+1))):=by
  rw [List.range_eq_range',show (ops.toList.take m).length=m by simp;omega, ← List.range'_succ,show ops.size - (m+1)+1=ops.size - m by omega]
  have := @List.range'_append 0 m (ops.size - m) 1
  simp only [Nat.one_mul,Nat.zero_add] at this
  rw [this]; congr 1;omega
 rw [e]
 refine h.seqIn (.inl Y) (nrm Q) _ (fun j hj => ?_) jT (fun D' Γ' M' a w hK hS => ?_) a w hS
 ·have hj':j<m:=by simp at hj;omega
  simp [List.getElem?_take,hj']
 ·obtain ⟨rfl,rfl,ht,hx,hg⟩:=hK
  have e1:a.eval t = .func (.yield l) #[] #[]:=cG hS ht
  have e2:(Ψ v).p (a.eval x) (hid (Ec ++ aZ []) (ck w)):=cG hS hx
  rw [show Ec ++ aZ []=Ec from List.append_nil Ec] at e2
  obtain ⟨fn,tmps,assign,body,hy,hR⟩:=hY pre v _ Ec w (pz hA hJ hS.base.fr.toExt) hgo e2
  have tail : ∀ (E':Env) (b:Bool) (Γ':Ctx) (a':Act) (W':World),E'.N=N→St E' [] ((d,one (.bool b)) :: Γ') [] a' W' →
    Run P E' ops false (m+1) [] ((d,one (.bool b)) :: Γ') [] (ops.toList.drop (m+1)) (fun D' Γ' M'=>PJ E' D' Γ' M' .normal Q) →
    wpOpsIn (fen none) 9 P ops (nrm Q) (List.range' (m+1) (ops.size - (m+1))) a' W':=by
   intro E' b Γ' a' W' hE' hS' hr
   have:=hr.seqIn (n:=9) (.inl Y) (nrm Q) [] (fun j _=>by simp [List.getElem?_drop]) jT (fun D' Γ' M' a w hK hS=>by simpa [wpOpsIn] using hK a w hS) a' W' hS'
   simpa using this
  rw [wpOpsIn_cons]
  unfold wpOpIn
  simp only [hm,cP (o:=⟨some d, .call ⟨.value t, #[x],ats⟩,ty,pos,af,none⟩) Y,if_true]
  refine ⟨fun f _=>qe f,?_⟩
  have hr:(Oper.semAt (fen none).round a.eval ⟨some d, .call ⟨.value t, #[x],ats⟩,ty,pos,af,none⟩).run P w = .ok (.round l fn tmps assign body) w:=by
   rw [mb,Oper.semAt_none]
   simpa [execOp,resolve,Deferred.ofValue,invoke,e1] using hy
  rw [hr]
  refine ⟨fun h=>(by cases h),RoundIn.mono (n:=8) (F:=Fence.wide) ⟨hR.1,fun c cs _=>hR.2 c cs (room_wide _)⟩ ?_⟩
  rintro e W' (⟨rfl,Z',hJ',hk⟩ | ⟨rfl,hJx'⟩)
  ·have hS':St ⟨W',Z', [],N,none⟩ [] Γk [] a W':=by
    refine ⟨⟨fun o ho=>(by cases ho),List.nodup_nil,fun b hb=>(by cases hb),fun b hb=>(by cases hb),fun b hb=>(hk.own b (by simpa using hb)).1,Fr.refl _ _⟩,hS.sz,hS.df,fun t φ ht => ?_⟩
    obtain ⟨φ',h3,h4⟩:=hg t φ ht
    refine φ.mono (fun b y e => ?_) (h4 _ _ (hS.tm t φ' h3))
    obtain ⟨h5,h6⟩:=di e
    have h7:=eC h6
    have h8:b ∉ Ec:=fun h=>h5 (List.mem_append.2 (.inl h))
    refine eJ (fun h => ?_) (by rw [eV (hk.block b h7 h8)]; exact h6)
    rcases (hk.own b (by simpa using h)).2 with h9 | h9
    ·exact h8 h9
    ·omega
   exact tail _ true _ _ W' Y (hS'.put (Ext.refl _) (d:=d) (show d<N from hd) (ψ:=one (.bool true)) Y) (h1 W' Z' hJ')
  ·have hS':St ⟨W', [], [],N,none⟩ [] [] [] a W' :=
    ⟨⟨fun o ho=>(by cases ho),List.nodup_nil,fun b hb=>(by cases hb),fun b hb=>(by cases hb),fun b hb=>(by cases hb),Fr.refl _ _⟩,hS.sz,hS.df,fun t φ ht=>(by cases ht)⟩
   exact tail _ false _ _ W' Y (hS'.put (Ext.refl _) (d:=d) (show d<N from hd) (ψ:=one (.bool false)) Y) (h2 W' hJx')
theorem zF {fn:Func} {B N:Nat} {W:World} {Ec:List Nat} {Jx:List α→World→Prop} (hr:fn.results = #[]) (hA:AbidesFrom B Jx) {pre:List α} (hJ:Jx pre W):PJ ⟨W,Ec, [],N,none⟩ [] Γ [] .ret (bodyPost P fn (RZ Jx)):=by
 intro a w hSt
 exact ⟨hSt.df, .tuple #[],by simp [results,hr],⟨_,rfl⟩,pre,pz hA hJ hSt.base.fr.toExt⟩
theorem Br {c:Code} {N:Nat} {W0:World} {Z0:List Nat} (Ws:σ→World) (Zs:σ→List Nat) (G:σ→Ctx) (ok:σ→Prop) (μ:σ→Nat) (s0:σ) (hW:Ws s0=W0) (hZ:Zs s0=Z0) (h0:ok s0) (hg:dJ Γ (G s0))
  (round : ∀ s,ok s→Tor.J P ⟨Ws s,Zs s, [],N,none⟩ [] (G s) [] c (Exit.then (fun a w => ∃ s',ok s'∧μ s'<μ s∧St ⟨Ws s',Zs s', [],N,none⟩ [] (G s') [] a w) Q)):Tor.J P ⟨W0,Z0, [],N,none⟩ [] Γ [] (.loop c) Q:=by
 subst hW hZ
 intro a w hS hd b k cs hro hb hr
 have key : ∀ n s,ok s→μ s=n → ∀ a w,St ⟨Ws s,Zs s, [],N,none⟩ [] (G s) [] a w →
   ∃ e a' w',Q e a' w'∧ArrivesIn (Machine.fenced P (fen none)) P (lone (b.atR a (.code c :: .inLoop c :: k)) cs w) b k cs e a' w':=by
  intro n
  induction n using Nat.strongRecOn with
  | _ n ih =>
   intro s hs hn a w hS
   obtain ⟨e,a1,w1,hq,harr⟩:=round s hs a w hS (.inl Y) b (.inLoop c :: k) cs hro hb hr
   cases e with
   | normal =>
    obtain ⟨s',hs',hlt,hS'⟩:=hq
    obtain ⟨e2,a2,w2,hq2,harr2⟩:=ih (μ s') (hn▸hlt) s' hs' Y a1 w1 hS'
    exact ⟨e2,a2,w2,hq2, .of_steps (StepsIn.trans harr (.one (fenced_calm hb hr Y) stepR_inLoop)) harr2⟩
   | exit id => exact ⟨_, a1, w1, hq, .pass (x := .inLoop c) Y (fun _ _ => .inl (by simp)) harr⟩
   | goto l => exact ⟨_, a1, w1, hq, .pass (x := .inLoop c) Y (fun _ _ => .inl (by simp)) harr⟩
   | ret => exact ⟨_, a1, w1, hq, .pass (x := .inLoop c) Y (fun _ _ => .inl (by simp)) harr⟩
   | panic ch => exact ⟨_, a1, w1, hq, .pass (x := .inLoop c) Y (fun _ _ => .inl (by simp)) harr⟩
   | outgrown => exact ⟨_, a1, w1, hq, .pass (x := .inLoop c) Y (fun _ _ => .inl (by simp)) harr⟩
 obtain ⟨e,a',w',hq,harr⟩:=key _ s0 h0 Y a w (hS.sub hg (SubM.refl _))
 exact ⟨e,a',w',hq, .of_steps (.one (fenced_calm hb hr Y) stepR_loop) harr⟩
theorem xd {G:σ→Ctx} {ok:σ→Prop} {μ:σ→Nat} {N:Nat} {Ws:σ→World} {Zs:σ→List Nat} {s:σ} (s':σ) (h:ok s') (hμ:μ s'<μ s) (hg:dJ Γ (G s')) (hE:E=⟨Ws s',Zs s', [],N,none⟩) :
  PJ E [] Γ [] .normal (Exit.then (fun a w => ∃ s',ok s'∧μ s'<μ s∧St ⟨Ws s',Zs s', [],N,none⟩ [] (G s') [] a w) Q):=fun a w hS=>⟨s',h,hμ,hE▸hS.sub hg (SubM.refl _)⟩
end
end Tor
end
section
namespace Tor
open Go Go.RowKit Go.Proofs
theorem zG {p n:Nat} {F:Nat→Nat→Int} {R:Nat→Nat→Nat} {r:Nat→Int} (hp2:2≤p) (hp:p<2147483648) (hn:n≤16) (hF : ∀ i j,(F i j).natAbs≤1099511627776) (i:Nat):(bh n (fun t=>dgs p n R r t*F t i)).natAbs≤37778931862957161709568 :=
 Nat.le_trans (l5 (B:=2147483648*1099511627776) (fun t=>by
  rw [Int.natAbs_mul]
  have:eG p n R r n t<p:=jc hp2 n t
  exact Nat.mul_le_mul (by show (eG p n R r n t:Int).natAbs≤2147483648;omega) (hF t i)) n) (Nat.mul_le_mul_right (2147483648*1099511627776) hn)
theorem Ent.clo3 {Ms:Mem} {f:FuncId} {φ ψ φ' ψ' φ'' ψ'':VT} (h:Ent Ms φ ψ) (h':Ent Ms φ' ψ') (h'':Ent Ms φ'' ψ''):Ent Ms (iZ f [φ, φ', φ'']) (iZ f [ψ, ψ', ψ'']):=Ent.clo fun g h0 h1 vs ho hc=>by
 match vs,hc with
 | [v, v', v''], hc => exact ⟨h g h0 h1 v ho hc.1, h' g h0 h1 v' ho hc.2.1, h'' g h0 h1 v'' ho hc.2.2.1, trivial⟩
 | [], hc => exact hc.elim
 | [_], hc => exact hc.2.elim
 | [_, _], hc => exact hc.2.2.elim
 | _ :: _ :: _ :: _ :: _, hc => exact hc.2.2.2.elim
theorem qm.same {Ms:Mem} {cs:cn} : qm Ms cs cs:=fun q hq=>⟨q.2.2,hq,Ent.refl _⟩
abbrev DgZ:Type:=Nat × List Nat × World
attribute [local irreducible] J PJ aJ one slT bQ bC bv exT bZ eP aP aI slV VT.le Ret bJ
attribute [local irreducible] aL
theorem oF (p n:Nat) (F:Nat→Nat→Int) (b:Nat→Int) (N:Nat) (hpb:cC p=true) (hp2:2≤p) (hp:p<2147483648) (hinv:ul p) (hF:um p n F) (hn:n≤16) (hs' : ∀ i j,(F i j).natAbs≤1099511627776) (hb : ∀ i,(b i).natAbs≤1152921504606846976) :
  OkZ Tryz.prog 91 [bQ (.agg 3) (bP n n F),bQ .one (one (.int .u64 (p:Nat))),bQ .one (bA n b)] (bA n) (gr p n F b) N:=by
 have hiv:=uv p n F hpb hp2 hp hinv hF X (fun i j=>cA (hs' i j) U)
 unfold bP bA at *
 refine OkZ.enter Tryz.func91 Y Tryz.ntmps91 Y (fun W0 l J Jx B Ec hA hAx hN hY h0 => ?_)
 refine ae ?_
 refine ep a4 Z Z ?_
 refine ux (fun B=>aM Y) Y Y ?_
 refine ux (fun B=>aM Y) Y Y ?_
 refine uxk (hiv) Y ⟨H,H,Er⟩ Y ?_
 refine ux (fun B=>aM Y) Y Y ?_
 refine ux (fun B=>dG Y X X) Y Y ?_
 refine uxk (jm _ X X) Y ⟨H,Er⟩ Y ?_
 refine ua Y ?_
 refine ux (fun B=>ah Y) Y Y ?_
 refine us Y ?_
 refine RunU.nil (fun γ => ?_)
 refine cK (M' := [_]) Y (aa (ae (ai (El (aM Y) (En Y (Ep (aa (au ?_))))))))
 refine wb (t:=5) Y (fun R=>po (t:=5) Y (fun hR => ?_))
 refine Ci [_] (Kp := []) (Kp' := []) (List.Perm.refl _) (EntM.refl []) (we.set (t:=6) Y (Ent.ptr List.mem_cons_self List.mem_cons_self)) ?_
 refine Br (σ:=DgZ) (fun s=>s.2.2) (fun s=>s.2.1)
  (fun s => [(0,one (.func (.yield l) #[] #[])),(1,bQ (.agg 3) (bP n n F)),(2,bQ .one (one (.int .u64 (p:Nat)))),(5,slT .one n (fun i=>jb n (R i))),(6,bQ (.agg 2) (aL (p:Nat))),(7,bA n (stR p n F R b s.1))])
  (fun s=>J ((List.range s.1).map fun k=>dgs p n R (stR p n F R b k),s.2.1) s.2.2) (fun s=>N - s.1) (0,Ec,W0) Y Y h0 ?_ (fun s hs => ?_)
 ·exact .cons Y H (.cons Y H (.cons Y H (.cons Y H (.cons Y H (.cons Y H .nil)))))
 obtain ⟨k,Ec,W⟩:=s
 dsimp only at hs ⊢
 have hkN:=hN _ _ hs
 rw [List.length_map,List.length_range] at hkN
 have hst:=zE (R:=R) hp2 hn hs' hb k
 have hdg:=uw p n R (stR p n F R b k) hp2 hp hR.1 X (fun i=>cA (hst i) U)
 have htm:Ok Tryz.prog 94 [bA n (dgs p n R (stR p n F R b k)),bP n n F] (bv [bA n (fun j=>bh n (fun t=>dgs p n R (stR p n F R b k) t*F t j)),one (.int .i64 0)]):=by
  have h:=yU n (dgs p n R (stR p n F R b k)) n n F X X (fun j=>Nat.le_trans (show (eG p n R (stR p n F R b k) n j:Int).natAbs≤2147483648 by
   have:eG p n R (stR p n F R b k) n j<p:=jc hp2 n j
   omega) U) (fun i j=>Nat.le_trans (hs' i j) U)
  rw [decide_eq_true Y] at h
  exact h
 have hsl:=fun i=>Nat.le_trans (Nat.le_trans (Int.natAbs_sub_le (stR p n F R b k i) (bh n (fun t=>dgs p n R (stR p n F R b k) t*F t i))) (Nat.add_le_add (hst i) (zG hp2 hp hn hs' i))) (show 2305843009213693952+37778931862957161709568≤2^100 by decide)
 unfold bA bP at *
 refine au (ae (ai (Em Y (Em Y (El (aM Y) ?_)))))
 refine El (am (hdg) Y ⟨H,H,H,Er⟩) ?_
 refine En Y (Ep (aa (ae (ae ?_))))
 apply Bq (m:=2) (dgs p n R (stR p n F R b k)) [(0,_),(1,_),(2,_),(5,_),(6,_),(7,_),(8,_)] hY hA hs (by rw [fS]; exact gr.snoc hR (k+1)) Y Y
 ·refine Em Y (Em Y (Ep ?_))
  refine ⟨rfl,?_⟩
  refine ⟨rfl,?_⟩
  refine ⟨rfl,?_⟩
  refine ⟨rfl,?_⟩
  repeat (first | exact dJ.nil | refine dJ.cons Y H ?_)
 ·intro W' Z' hJ'
  rw [fS] at hJ'
  refine El (cR Y) (Ep (aa (aB Y (az (aa (ae (ai (Em Y (El (aM Y) ?_)))))))))
  refine El (am (htm) Y ⟨H,H,Er⟩) ?_
  refine Em Y (El (ar Y Y) (El (ar Y Y) (En Y (En Y (Ep (aa (ae (ai (Em Y ?_)))))))))
  refine El (aW Y) ?_
  refine bV n n Y Y Y Y (Nat.le_refl _) Y Y X Y Y (fun bd => ?_)
  refine En Y (Ep (aa (ae (ae (ai (Em Y (El (aW Y) (Em Y (Ep ?_)))))))))
  refine aa (au (cp (Γ' := [(0,_),(1,_),(2,_),(5,_),(6,_),(7,_),(9,_),(11,_),(38,_),(39,_),(40,_)]) Eg (SubM.refl _) ?_))
  refine bD (σ:=Nat) (Γk := [(0,_),(1,_),(2,_),(5,_),(6,_),(7,_),(9,_),(11,_),(38,_),(39,_)]) Eg (fun t => [(40,one (.int .i64 (t:Nat)))]) (fun t M0=>(M0.set 0 (aI (some bd) 37 (.agg 2) n n (fun q=>if q<t then aL (stR p n F R b (k+1) q) else bJ)))) (fun t=>t≤n) (fun t=>n - t) (0) (Nat.zero_le _) Eh (.keep (ee fun q hq=>by rw [if_neg (Nat.not_lt_zero q)]; exact jE _) (.nil)) (fun t ht => ?_)
  refine bU (Γ' := [(40,_),(0,_),(1,_),(2,_),(5,_),(6,_),(7,_),(9,_),(11,_),(38,_),(39,_)]) (M' := [_]) Y Y ?_
  by_cases hti:t<n
  ·have hsu:=lN (stR p n F R b k t) (bh n (fun q=>dgs p n R (stR p n F R b k) q*F q t)) (cA (hst t) U) (cA (zG hp2 hp hn hs' t) U)
   have hdm:=dt (stR p n F R b k t - bh n (fun q=>dgs p n R (stR p n F R b k) q*F q t)) (p:Int) X (cA (hsl t) U) (cA (n:=2147483648) X U)
   refine ae (ai (El (sT X (a7 Y Y)) (Ep (aa (ae (aH Y (az (aa (ae ?_)))))))))
   refine au (ae (ai (Em Y (El (aC Y Y X) (El (aM Y) ?_)))))
   refine aG (T:=37) Y (ltN Y) (fun b13 => ?_)
   refine En Y (aA 0 Y Y Y Y Y (leN Y) Y (Ep (aa ?_)))
   apply iC (Γ1 := [(0,_),(1,_),(2,_),(5,_),(6,_),(7,_),(9,_),(11,_),(38,_),(39,_),(40,_)]) (M1 := [_,_]) 14 3 [] [12,13] a4 Z S
   ·refine Em Y (Em Y (El (ak 0 Y Y Y) (Em Y (Em Y (El (aC Y Y X) (El (aM Y) ?_))))))
    refine El (am (hsu) Y ⟨H,H,Er⟩) ?_
    refine El (aM Y) ?_
    refine El (am (hdm) Y ⟨H,H,Er⟩) ?_
    refine Em Y (El (ar Y Y) (El (ar Y Y) (El (ar Y Y) (Ep ?_))))
    refine nT (Γe := [(0,_),(1,_),(2,_),(5,_),(6,_),(7,_),(9,_),(11,_),(38,_),(39,_),(40,_),(45,_),(46,_),(47,_),(56,_)]) (rem := [14,15]) Y Ej Y ?_
    refine an (rem' := [15]) (i:=14) Z Y Y ?_ (iB.cons Y (StepG.plain (ar Y Y) Y Y (ltN Y)) Y (iB.cons Y (StepG.plain (ar Y Y) Y Y (ltN Y)) Y iB.nil))
    refine El (ao Y Y X) (Ep ?_)
    refine ⟨rfl,?_⟩
    refine an (rem' := []) (i:=15) Z Y Y ?_ (iB.cons Y (StepG.plain (ar Y Y) Y Y (ltN Y)) Y (iB.cons Y (StepG.plain (ar Y Y) Y Y (ltN Y)) Y iB.nil))
    (refine aw 1 Y Y Y ?_ Y ?_;omega)
    refine Ep ?_
    refine ⟨rfl,?_⟩
    refine aT Ej (SubM.refl _) (iB.cons Y (StepG.plain (ar Y Y) Y Y (ltN Y)) Y (iB.cons Y (StepG.plain (ar Y Y) Y Y (ltN Y)) Y iB.nil))
   ·refine aD (aa (ai (El (bI _ 1 Y Y X) (Em Y (Ep ?_)))))
    refine aR (t+1) X X Eh (.drop (.keep (oD (G:=fun q=>aL (stR p n F R b (k+1) q))) (.nil)))
  ·have htn:t=n:=by omega
   subst htn
   refine ae (ai (El (sF X (a7 Y Y)) (Ep (aa (ae (aB Y (aX (av (av ?_)))))))))
   refine aE (aa (ai (Em Y (En Y (Ep (aD ?_))))))
   refine gI (dJ.refl _) (.keep (bg (ψ:=fun q=>aL (stR p t F R b (k+1) q)) (fun q hq=>by rw [if_pos X])) (SubM.refl _)) ?_
   refine cq (t:=7) (i:=0) Y Y ?_
   refine xd (s:=(k,Ec,W)) (μ:=fun s:DgZ=>N - s.1) (Ws:=fun s:DgZ=>s.2.2) (Zs:=fun s=>s.2.1) (ok:=fun s:DgZ=>J ((List.range s.1).map fun k=>dgs p _ R (stR p _ F R b k),s.2.1) s.2.2) ((k+1,Z',W'):DgZ) hJ' ?_ ?_ Y
   ·exact Nat.sub_lt_sub_left hkN (Nat.lt_succ_self k)
   ·repeat (first | exact dJ.nil | refine dJ.cons Y H ?_)
 ·intro W' hx'
  rw [fS] at hx'
  refine El (cR Y) (Ep (aa (aH Y (aF (aU (bK (aU (bK ?_))))))))
  exact zF Y hAx hx'
theorem pZ (p n:Nat) (F:Nat→Nat→Int) (b:Nat→Int):Ok Tryz.prog 57 [bP n n F,bA n b,one (.int .u64 (p:Nat))] (iZ 91 [bQ (.agg 3) (bP n n F),bQ .one (one (.int .u64 (p:Nat))),bQ .one (bA n b)]):=by
 refine Ok.enter Tryz.func57 Y Tryz.ntmps57 Y (fun w O => ?_)
 refine ae (ai ?_)
 refine aS Y Y (ltN Y) (fun b3 => ?_)
 refine gL Y Y (ltN Y) (fun b4 => ?_)
 refine gL Y Y (ltN Y) (fun b5 => ?_)
 refine En Y (Ep (aa (ae (ai (El (kx Y) (En Y (Ep (aa (aF ?_)))))))))
 refine fV [_,_,_] (Kp := []) (Kp' := []) (List.Perm.refl _) (EntM.refl []) (we.set (t:=6) Y (Ent.clo3 (Ent.ptrW (List.mem_cons_of_mem _ (List.mem_cons_of_mem _ List.mem_cons_self)) (qm.same)) (Ent.ptr List.mem_cons_self List.mem_cons_self) (Ent.ptr (List.mem_cons_of_mem _ List.mem_cons_self) List.mem_cons_self))) ?_
 unfold bP bA
 refine aV Tryz.results57 (.tmp Y H)
end Tor
end
section
set_option linter.unusedSectionVars false
namespace Tor
open Go Go.RowKit
section
variable {P:Program} {E:Env} {D:List Deferred} {Γ Γ1:Ctx} {M M1:Mem} {Q:Exit→Act→World→Prop}
theorem Dc {c rest:Code} {l:Nat} (hE:E.R=none) (hf:findLabel c l=some rest) (h:J P E D Γ M c (Exit.jump l (St E D Γ1 M1) Q)) (h1:J P E D Γ1 M1 rest (Exit.jump l (fun _ _=>False) Q)) :
  J P E D Γ M (.scope c) Q:=fun a w hS hd=>by
 rw [hE]
 refine wpIn_wide.2 (wp_scope_jumps l (St E D Γ1 M1) (fun _ _=>0) hf ((h a w hS).wp hE) fun a' w' hS'=>((h1 a' w' hS').mono ?_).wp hE)
 rintro e a2 w2 hq
 cases e <;> first
  | exact hq
  | exact hq.2.elim
theorem Bs {l:Nat} {Q:Exit→Act→World→Prop} (hg:dJ Γ Γ1) (hm:SubM M M1):PJ E D Γ M (.goto l) (Exit.jump l (St E D Γ1 M1) Q):=fun a w hS=>⟨rfl,hS.sub hg hm⟩
theorem Dd {l:Nat} (h:PJ E D Γ M (.goto l) Q):J P E D Γ M (.goto l) Q:=fun a w hS _=>wpIn_goto (h a w hS)
theorem Bt {id:Nat} {n:Act→World→Prop} (h:PJ E D Γ M (.goto id) Q):PJ E D Γ M (.goto id) (Exit.then n Q):=h
theorem Bu {l:Nat} {K:Act→World→Prop} (h:PJ E D Γ M .ret Q):PJ E D Γ M .ret (Exit.jump l K Q):=h
end
end Tor
end
section
namespace Tor
open Go Go.RowKit Go.Proofs
attribute [local irreducible] J PJ aJ one slT bQ bC bv exT bZ eP aP aI slV VT.le Ret bJ
theorem xe (d:Int) (p q:Nat) (hd:bm d) (hp:bf cC 2147483648=p) (hq:bf cC p=q) (hq0:2<q) (hp':p<2147483648) (hqp:q<p) (h:d % (p:Int)=0) (h2:d % (q:Int)≠0):Ok Tryz.prog 56 [aL d] (one (.int .u64 (q:Nat))):=by
 have hb:=mG 2147483648 S
 rw [hp] at hb
 have hc:=mG p X
 rw [hq] at hc
 have hr:=ia p d X X hd
 have hr2:=ia q d X X hd
 have hz:(d % (q:Int)).toNat≠0:=by
  have:=Int.emod_nonneg d (show (q:Int)≠0 by omega)
  omega
 rw [h] at hr
 generalize (d % (q:Int)).toNat=k at *
 refine Ok.enter Tryz.func56 Y Tryz.ntmps56 Y (fun w O => ?_)
 refine ae (ai ?_)
 refine aS Y Y (ltN Y) (fun b1 => ?_)
 refine En Y (Ep (aa ?_))
 refine Dc (l:=0) (Γ1 := [(3,one (.int .u64 (q:Nat))),(1,one (.pointer (some ⟨b1,0,none⟩)))]) (M1 := [aP b1 37 2 [(0, .one,one (.bool (decide (d<0)))),(1, .one,co (aK d.natAbs))]]) Y Y ?_ ?_
 ·refine ae (ai ?_)
  refine El (am (hb) Y ⟨H,Er⟩) ?_
  refine En Y (Ep (aa (ae (jU (aa (ae (ae (ai (Em Y ?_)))))))))
  refine El (aQ 0 Y Y) ?_
  refine El (am (hr) Y ⟨H,H,Er⟩) ?_
  refine El (sT X (cm Y Y)) (Em Y (Eo (ab Y) (Eo (sT X (db Y Y)) (El (bp Y Y) (Ep (aa (aH Y (ae (ai ?_)))))))))
  refine Em Y ?_
  refine El (am (hc) Y ⟨H,Er⟩) ?_
  refine En Y (Ep (aa (Dd ?_)))
  refine Bt (Bs ?_ ?_)
  ·exact .cons Y H (.cons Y H .nil)
  ·exact SubM.refl _
 ·refine ae (az (aa (ae (ae (ai (Em Y (El (aQ 0 Y Y) ?_)))))))
  refine El (am (hr2) Y ⟨H,H,Er⟩) ?_
  refine El (sF X (cm Y Y)) (Em Y (sn0 Y Y Y Y Y (sn0 Y Y Y Y Y (El (bE Y Y) (Ep (aa (aB Y (az (aa ?_)))))))))
  refine ae (ai (Em Y (En Y (Ep (aa (aF (Bu ?_)))))))
  refine aV Tryz.results56 (.tmp Y H)
end Tor
end
section
namespace Tor
open Go Go.RowKit Go.Proofs
theorem gr.init {p n:Nat} {F:Nat→Nat→Int} {b:Nat→Int} {pre:List (Nat→Int)} {x:Nat→Int} (h:gr p n F b (pre ++ [x])):gr p n F b pre:=by
 obtain ⟨R,hR,he⟩:=h
 rw [List.length_append,show pre.length + [x].length=pre.length+1 from rfl, ← fS] at he
 exact ⟨R,hR,List.append_inj_left' he Y⟩
abbrev z0:Nat→Int:=fun _=>0
def oG (n:Nat) (l:List (Nat→Int)):VT:=slT .one l.length (fun i=>bA n (l.getD i z0))
theorem xf {sv:Option Nat} {T:TypeId} {n cap:Nat} {x:Nat→Int} {l:List (Nat→Int)} : Own.le (aI sv T .one cap (l.length+1) (fun q=>if q<l.length then bA n (l.getD q z0) else bA n x)) (aI sv T .one cap (l ++ [x]).length (fun q=>bA n ((l ++ [x]).getD q z0))):=by
 refine gY (by simp) (fun q hq => ?_)
 by_cases h:q<l.length
 ·rw [if_pos h]; simp only [List.getD]; rw [List.getElem?_append_left h]
 ·have:q=l.length:=by omega
  subst this;rw [if_neg h]; simp [List.getD]
theorem zH {b:Nat} {T:TypeId} : Own.le (aP b T 1 [(0, .one,one (.slice none 0 0))]) (aP b T 1 [(0, .one,one (slV none 0 0))]):=Own.le_refl _
theorem xg {b:Nat} {T:TypeId} {φ:VT} {sv:Option Nat} {l l' cap:Nat} (h:l+1=l'):Own.le (aP b T 1 (kp [(0, .one, φ)] 0 (one (slV sv (l+1) cap)))) (aP b T 1 [(0, .one,one (slV sv l' cap))]):=by
 subst h;exact Own.le_refl _
theorem sZ {n:Nat} {l:List (Nat→Int)} (h:l = []):VT.le (one (.slice none 0 0)) (oG n l):=by subst h;exact eX
attribute [local irreducible] J PJ aJ one slT bQ bC bv exT bZ eP aP aI slV VT.le Ret bJ
attribute [local irreducible] aL
theorem uz (n:Nat) (F:Nat→Nat→Int) (b:Nat→Int) (k:Int) (h:k<0∨64<k):Ok Tryz.prog 15 [bP n n F,bA n b,one (.int .i64 k)] (bv [oG 0 [],one (.int .u64 0),one (.int .i64 1)]):=by
 have hf:=l4 n n n F b
 rw [decide_eq_true ⟨rfl,rfl⟩] at hf
 refine Ok.enterR Tryz.func15 Y Tryz.ntmps15 Y (fun w O => ?_)
 by_cases h1:k<0
 ·refine ae (ai ?_)
  refine aS Y Y (ltN Y) (fun b3 => ?_)
  refine gL Y Y (ltN Y) (fun b5 => ?_)
  refine En Y (En Y (En Y (Ep (aa (ae (ae (ai (El (aQ 1 Y Y) (Em Y ?_)))))))))
  refine El (am (hf) Y ⟨H,H,Er⟩) ?_
  refine El (cR Y) (Ep (aa (aB Y (az (aa (ae (ae (ai (El (ak 0 Y Y Y) ?_)))))))))
  refine El (sT (by assumption) (a7 Y Y)) (Em Y (sn0 Y Y Y Y Y (sn0 Y Y Y Y Y (El (bp Y Y) (Ep (aa (aH Y (ae (ai ?_)))))))))
  refine En Y (En Y (En Y (Ep (aa (aF (aU (jY ?_)))))))
  refine jk Tryz.results15 (.tmp Y (sZ Y)) (.tmp Y H) (.tmp Y H)
 ·have h2:64<k:=by omega
  refine ae (ai ?_)
  refine aS Y Y (ltN Y) (fun b3 => ?_)
  refine gL Y Y (ltN Y) (fun b5 => ?_)
  refine En Y (En Y (En Y (Ep (aa (ae (ae (ai (El (aQ 1 Y Y) (Em Y ?_)))))))))
  refine El (am (hf) Y ⟨H,H,Er⟩) ?_
  refine El (cR Y) (Ep (aa (aB Y (az (aa (ae (ae (ai (El (ak 0 Y Y Y) ?_)))))))))
  refine El (sF (by assumption) (a7 Y Y)) (Em Y (Eo (ak 0 Y Y Y) (Eo (sT (by assumption) (db Y Y)) (El (bE Y Y) (Ep (aa (aH Y (ae (ai ?_)))))))))
  refine En Y (En Y (En Y (Ep (aa (aF (aU (jY ?_)))))))
  refine jk Tryz.results15 (.tmp Y (sZ Y)) (.tmp Y H) (.tmp Y H)
theorem xh (p n k:Nat) (F:Nat→Nat→Int) (b:Nat→Int) (d:Int) (hpb:cC p=true) (hp2:2≤p) (hp:p<2147483648) (hinv:ul p) (hF:um p n F) (hn:n≤16) (hs : ∀ i j,(F i j).natAbs≤1099511627776) (hb : ∀ i,(b i).natAbs≤1152921504606846976)
  (hdet:Ok Tryz.prog 50 [bP n n F] (bv [aL d,one (.int .i64 0)])) (hd:d≠0) (hpr:Ok Tryz.prog 56 [aL d] (one (.int .u64 (p:Nat)))) (hk:k≤64) :
  Ok Tryz.prog 15 [bP n n F,bA n b,one (.int .i64 (k:Nat))] (exT fun pre:List (Nat→Int)=>bZ (gr p n F b pre∧pre.length=k) (bv [oG n pre,one (.int .u64 (p:Nat)),one (.int .i64 0)])):=by
 have hf:=l4 n n n F b
 rw [decide_eq_true ⟨rfl,rfl⟩] at hf
 have hdg:=pZ p n F b
 have hit:=oF p n F b (k+1) hpb hp2 hp hinv hF hn hs hb
 have hsz:=eF d
 have hsg:=dc d
 have hsz':c6 d≠0:=fun e=>hd (hsz.1 e)
 refine Ok.enterR Tryz.func15 Y Tryz.ntmps15 Y (fun w O => ?_)
 refine ae (ai ?_)
 refine aS Y Y (ltN Y) (fun b3 => ?_)
 refine gL Y Y (ltN Y) (fun b5 => ?_)
 refine En Y (En Y (En Y (Ep (aa (ae (ae (ai (El (aQ 1 Y Y) (Em Y ?_)))))))))
 refine El (am (hf) Y ⟨H,H,Er⟩) ?_
 refine El (cR Y) (Ep (aa (aB Y (az (aa (ae (ae (ai (El (ak 0 Y Y Y) ?_)))))))))
 refine El (sF X (a7 Y Y)) (Em Y (Eo (ak 0 Y Y Y) (Eo (sF X (db Y Y)) (El (bE Y Y) (Ep (aa (aB Y (az (aa ?_)))))))))
 refine ae (ai (El (aQ 1 Y Y) ?_))
 refine El (am (hdet) Y ⟨H,Er⟩) ?_
 refine Em Y (El (ar Y Y) (El (ar Y Y) ?_))
 refine aG (T:=37) Y (ltN Y) (fun b9 => ?_)
 refine aA 0 Y Y Y Y Y (leN Y) Y (En Y (Ep (aa (ae (ae (ai (El (ak 0 Y Y Y) ?_)))))))
 refine El (am (hsg) Y ⟨H,Er⟩) ?_
 refine El (sF (by assumption) (cm Y Y)) (Ep (aa (aB Y (az (aa (ae (ai (El (ak 0 Y Y Y) ?_))))))))
 refine El (am (hpr) Y ⟨H,Er⟩) ?_
 refine En Y (Ep (aa (ae (ai ?_))))
 refine aG (T:=43) Y (ltN Y) (fun b12 => ?_)
 refine Ep (aa (ae (ae (ai (El (aQ 3 Y Y) (Em Y (Em Y ?_)))))))
 refine El (am (hdg) Y ⟨H,H,H,Er⟩) ?_
 refine Ep (aa (au ?_))
 refine gn (ConvM.nilSl0 (T:=33) (L := .one) (φ:=fun q=>bA n (([]:List (Nat→Int)).getD q z0)) _) ?_
 refine sY (σ:=Option Nat × Nat × List (Nat→Int)) hit (fun s => [aI s.1 33 .one s.2.1 s.2.2.length (fun q=>bA n (s.2.2.getD q z0)),aP b12 43 1 [(0, .one,one (slV s.1 s.2.2.length s.2.1))],aP b5 3 1 [(0, .one,one (.int .i64 (k:Nat)))]])
  (fun pre s=>s.2.2=pre∧pre.length≤k) (fun e pre s=>e=some 0∧gr p n F b s.2.2∧s.2.2.length=k) (none,0, []) Y Y (fun pre s h=>Nat.lt_succ_of_le h.2) ⟨rfl,Nat.zero_le _⟩
  (.keep (bg (fun q hq=>absurd hq (Nat.not_lt_zero _))) (.keep zH (.drop (.keep Ek (SubM.nilR _))))) Y Y (by simp [f8,gl])
  (fun l W pre x s hs hgo => ?_) (fun pre s D hs=>absurd hs.1 (by simp)) (fun id pre s D hs => ?_)
 ·obtain ⟨sv,cap,m⟩:=s
  obtain ⟨hm,hl⟩:=hs
  dsimp only at hm hl ⊢
  subst hm
  by_cases he:m.length=k
  ·refine au (ae (ae (ai (El (ak 1 Y Y Y) (El (cv Y) (El (ak 2 Y Y Y) (El (sT X (cm Y Y)) (Ep (aa ?_)))))))))
   refine aH Y (aX (av (c9 Y ?_)))
   exact rS (sv,cap,m) ⟨rfl,hgo.init,he⟩ (SubM.refl _)
  ·refine au (ae (ae (ai (El (ak 1 Y Y Y) (El (cv Y) (El (ak 2 Y Y Y) (El (sF X (cm Y Y)) (Ep (aa ?_)))))))))
   refine aB Y (az (aa (ai (El (ak 1 Y Y Y) (Em Y (gm Y Y Y Y ?_))))))
   (refine cW 0 Y Y Y (leN Y) ?_ ?_ Y (ltN Y) (fun sv46 cap46 => ?_);omega;omega)
   refine aA 1 Y Y Y Y Y (leN Y) Y (Ep (aD ?_))
   exact nS (sv46,cap46,m ++ [x]) ⟨rfl,by simp;omega⟩ (.keep xf (.keep (xg (by simp)) (SubM.refl _)))
 ·obtain ⟨sv,cap,m⟩:=s
  obtain ⟨hid,hm,hl⟩:=hs
  cases hid
  dsimp only at hm hl ⊢
  refine aE (aa (ae (ai (El (ak 2 Y Y Y) (Em Y (En Y (En Y (En Y (Ep ?_)))))))))
  refine aa (aF (nn (cq (t:=6) (i:=0) Y Y ?_)))
  refine r6 (ψ:=bv [oG n m,one (.int .u64 (p:Nat)),one (.int .i64 0)]) (nI m (lc ⟨hm,hl⟩ H)) ?_
  refine jk Tryz.results15 (.tmp Y H) (.tmp Y H) (.tmp Y H)
end Tor
end
section
namespace Tor
open Go Go.RowKit Go.Proofs
def kQ (s:Nat):Nat→Nat × Int→Nat × Int→Nat × Int
 | 0, _, y => y
 | f + 1, x, y => if s < y.1 then kQ s f y (x.1 % y.1, x.2 - ((x.1 / y.1 : Nat) : Int) * y.2) else y
theorem mH (s:Nat) : ∀ (f g:Nat) (x y:Nat × Int),y.1<f→y.1<g→kQ s f x y=kQ s g x y
 | 0, _, _, _, h, _ => absurd h (Nat.not_lt_zero _)
 | _ + 1, 0, _, _, _, h => absurd h (Nat.not_lt_zero _)
 | f + 1, g + 1, x, y, h1, h2 => by
  rw [kQ,kQ]
  by_cases c:s<y.1
  ·rw [if_pos c,if_pos c]
   have:=Nat.mod_lt x.1 (show 0<y.1 by omega)
   exact mH s f g _ _ (by show x.1 % y.1<f;omega) (by show x.1 % y.1<g;omega)
  ·rw [if_neg c,if_neg c]
structure EucR (m s:Nat) (R:Nat × Int) (x y:Nat × Int):Prop where
 eq : ∀ f,y.1<f→kQ s f x y=R
 lt:y.1<x.1
 le:x.1≤m
 w:x.2.natAbs*y.1+y.2.natAbs*x.1≤m
 u:x.2.natAbs≤m
 v:y.2.natAbs≤m
theorem EucR.step {m s:Nat} {R x y:Nat × Int} (h:EucR m s R x y) (hc:s<y.1):EucR m s R y (x.1 % y.1,x.2 - ((x.1 / y.1:Nat):Int)*y.2)∧(((x.1 / y.1:Nat):Int)*y.2).natAbs≤m:=by
 have hy:0<y.1:=by omega
 have hm:=Nat.mod_lt x.1 hy
 have hd:=Nat.div_add_mod x.1 y.1
 have hlt:=h.lt
 have hle:=h.le
 have hw:=h.w
 have e1:(((x.1 / y.1:Nat):Int)*y.2).natAbs=x.1 / y.1*y.2.natAbs:=by rw [Int.natAbs_mul,Int.natAbs_natCast]
 have e2:(x.2 - ((x.1 / y.1:Nat):Int)*y.2).natAbs≤x.2.natAbs+x.1 / y.1*y.2.natAbs:=by rw [← e1]; omega
 have e3:x.1 / y.1*y.2.natAbs≤y.2.natAbs*x.1:=by rw [Nat.mul_comm]; exact Nat.mul_le_mul_left _ (Nat.div_le_self _ _)
 have e4:y.2.natAbs*(x.1 % y.1)+(x.2 - ((x.1 / y.1:Nat):Int)*y.2).natAbs*y.1≤m:=by
  have k1:=Nat.mul_le_mul_right y.1 e2
  have k2:(x.2.natAbs+x.1 / y.1*y.2.natAbs)*y.1+y.2.natAbs*(x.1 % y.1)=x.2.natAbs*y.1+y.2.natAbs*x.1:=by
   conv=>rhs;rw [← hd]
   rw [Nat.add_mul,Nat.mul_add]
   have:x.1 / y.1*y.2.natAbs*y.1=y.2.natAbs*(y.1*(x.1 / y.1)):=by ac_rfl
   omega
  omega
 refine ⟨⟨fun f hf => ?_,hm,by omega,e4,h.v,?_⟩,by rw [e1]; omega⟩
 ·have:=h.eq (y.1+1) X
  rw [kQ,if_pos hc] at this
  rw [← this]
  exact mH s _ _ _ _ hf hm
 ·have k3:(x.2 - ((x.1 / y.1:Nat):Int)*y.2).natAbs≤(x.2 - ((x.1 / y.1:Nat):Int)*y.2).natAbs*y.1:=Nat.le_mul_of_pos_right _ hy
  show (x.2 - ((x.1 / y.1:Nat):Int)*y.2).natAbs≤m
  omega
theorem EucR.start {m s r:Nat} (hr:r<m):EucR m s (kQ s (m+1) (m,0) (r,1)) (m,0) (r,1) :=
 ⟨fun f hf=>mH s _ _ _ _ hf (by show r<m+1;omega),hr,Nat.le_refl _,by simp,by simp,by show (1:Int).natAbs≤m;omega⟩
theorem EucR.fin {m s:Nat} {R x y:Nat × Int} (h:EucR m s R x y) (hc : ¬ s<y.1):y=R:=by
 have:=h.eq (y.1+1) X
 rwa [kQ,if_neg hc] at this
def jd (a:Int) (m s:Nat) (f:Rat):Bool:=decide (f.num.natAbs≤s) && (decide (f.den≤s) && (decide (Nat.gcd f.den m=1) && decide ((f.num - a*f.den) % (m:Int)=0)))
def uA (a:Int) (m s:Nat):Option Rat :=
 let y:=kQ s (m+1) (m,0) ((a % (m:Int)).toNat,1)
 if y.2=0 then none else if jd a m s (Rat.divInt (y.1:Int) y.2)=true then some (Rat.divInt (y.1:Int) y.2) else none
def De:Option Rat→VT
 | some q => cD q
 | none => dH 0 0
theorem vO {a b:Int} : (Rat.divInt a b).num.natAbs≤a.natAbs:=by
 rw [Rat.num_divInt]
 by_cases hb:b=0
 ·subst hb;simp
 ·have h1:b.sign*a=a∨b.sign*a = -a:=by
   rcases Int.lt_trichotomy b 0 with h | h | h
   ·right;rw [Int.sign_eq_neg_one_of_neg h]; omega
   ·exact absurd h hb
   ·left;rw [Int.sign_eq_one_of_pos h]; omega
  have h2:=Int.natAbs_ediv_le_natAbs (b.sign*a) ((b.gcd a:Nat):Int)
  rcases h1 with h | h <;> rw [h] at h2 ⊢ <;> omega
theorem zI {a b:Int} (hb:b≠0):(Rat.divInt a b).den≤b.natAbs:=by
 rw [Rat.den_divInt,if_neg hb]; exact Nat.div_le_self _ _
theorem eA {x:Int} {n:Nat} (h:x.natAbs≤2^n) (hn:n<2048):bm x:=dU (Nat.lt_of_le_of_lt h (Nat.pow_lt_pow_right (a:=2) (m:=n) (n:=2048) S hn))
theorem DR {a:Int} {m s:Nat} {f:Rat} : (decide (cV (f.num.natAbs:Int) (s:Int)≤0) == true && (decide (cV (f.den:Int) (s:Int)≤0) == true && (decide (cV ((Nat.gcd f.den m:Nat):Int) 1=0) == true && decide (c6 ((f.num - a*(f.den:Int)) % (m:Int))=0) == true)))=jd a m s f:=by
 unfold jd
 have h1 : ∀ x y:Int,cV x y≤0↔x≤y:=fun x y=>by unfold cV;split <;> (try split) <;> omega
 have h2 : ∀ x y:Int,cV x y=0↔x=y:=fun x y=>by unfold cV;split <;> (try split) <;> omega
 have h3 : ∀ x:Int,c6 x=0↔x=0:=fun x=>by unfold c6;split <;> (try split) <;> omega
 simp only [h1,h2,h3,beq_true]
 congr 1
 ·congr 1;simp
 ·congr 1
  ·congr 1;simp
  ·congr 1;congr 1;simp;omega
theorem Df {x y:Nat} (h:x≤2^800) (h':y≤2^800):x*y≤2^1600:=by
 have h2:=CJ 800 1600 Y
 exact Nat.le_trans (Nat.mul_le_mul h h') (Nat.le_of_eq h2.symm)
theorem Bv {b:Nat} {T:TypeId} {φ ψ φ' ψ':VT} (h:VT.le φ φ') (h':VT.le ψ ψ'):Own.le (aP b T 4 [(0, .agg 2, φ),(2, .agg 2, ψ)]) (aP b T 4 [(0, .agg 2, φ'),(2, .agg 2, ψ')]):=qj (fun q hq=>by
 rcases List.mem_cons.1 hq with rfl | hq
 ·exact ⟨_,List.mem_cons_self,h⟩
 ·rcases List.mem_cons.1 hq with rfl | hq
  ·exact ⟨_,List.mem_cons_of_mem _ List.mem_cons_self,h'⟩
  ·cases hq)
instance:QuadOf Tryz.prog 140 4:=QuadOf.by_info Z Z Z
attribute [local irreducible] J PJ aJ one slT bQ bC bv exT bZ eP aP aI slV VT.le Ret bJ
theorem s6 (a:Int) (m s:Nat) (hm:2≤m) (hm8:m≤2^800) (ha:a.natAbs≤2^800) (hs1:s*s≤(m - 1) / 2) (hs2:(m - 1) / 2<(s+1)*(s+1)) :
  Ok Tryz.prog 60 [aL a,aL (m:Int)] (bv [De (uA a m s),one (.int .i64 (if (uA a m s).isSome then 0 else 41))]):=by
 have h1:=jm 1 S S
 have h2:=jm 2 S S
 have hcm:=gz (m:Int) 2
 have hc : ¬ cV (m:Int) 2<0:=by unfold cV;split <;> (try split) <;> omega
 have sma:bm a:=eA ha S
 have smm:bm (m:Int):=eA (n:=800) hm8 S
 have sm1:bm 1:=dU U
 have sm2:bm 2:=dU U
 have hsu:=lN (m:Int) 1 smm sm1
 rw [show (m:Int) - 1=((m - 1:Nat):Int) by omega] at hsu
 have hd1:=dt ((m - 1:Nat):Int) 2 S (cO smm X) sm2
 rw [show ((m - 1:Nat):Int) / 2=(((m - 1) / 2:Nat):Int) from (Int.natCast_ediv _ _).symm,show ((m - 1:Nat):Int) % 2=(((m - 1) % 2:Nat):Int) from (Int.natCast_emod _ _).symm] at hd1
 have hro:Ok Tryz.prog 101 [aL (((m - 1) / 2:Nat):Int)] (bv [aL (s:Int),one (.int .i64 0)]):=by
  by_cases h0:(m - 1) / 2=0
  ·have:s=0:=by
    rcases Nat.eq_zero_or_pos s with h | h
    ·exact h
    ·have:=Nat.mul_le_mul h h;omega
   rw [h0,this]; exact ss
  ·exact vy _ s (Nat.lt_of_lt_of_le (show (m - 1) / 2<m by omega) hm8) h0 hs1 hs2
 have hd2:=dt a (m:Int) X sma smm
 have hr0:=Int.emod_nonneg a (show (m:Int)≠0 by omega)
 have hr1:=Int.emod_lt_of_pos a (show 0<(m:Int) by omega)
 refine Ok.enter Tryz.func60 Y Tryz.ntmps60 Y (fun w O => ?_)
 unfold uA
 dsimp only
 obtain ⟨r,hr⟩ : ∃ r,r=(a % (m:Int)).toNat:=⟨_,rfl⟩
 have hre:a % (m:Int)=(r:Int):=by omega
 have hd2':=hd2
 rw [hre] at hd2'
 rw [← hr]
 have hE:=EucR.start (m:=m) (s:=s) (r:=r) X
 generalize kQ s (m+1) (m,0) (r,1)=R at *
 refine ae (ai ?_)
 refine aS Y Y (ltN Y) (fun b2 => ?_)
 refine aS Y Y (ltN Y) (fun b3 => ?_)
 refine bj (T:=58) Y Y Y (fun b4 => ?_)
 refine En Y (Ep (aa (ae (ai ?_))))
 refine El (am (h1) Y ⟨H,Er⟩) ?_
 refine El (am (h2) Y ⟨H,Er⟩) ?_
 refine aG (T:=37) Y (ltN Y) (fun b6 => ?_)
 refine aG (T:=37) Y (ltN Y) (fun b7 => ?_)
 refine aA 1 Y Y Y Y Y (leN Y) Y (aA 0 Y Y Y Y Y (leN Y) Y (Ep (aa (ae (ae (ai (El (aQ 3 Y Y) (El (ak 0 Y Y Y) ?_))))))))
 refine El (am (hcm) Y ⟨H,H,Er⟩) ?_
 refine El (sF (by assumption) (a7 Y Y)) (Ep (aa (aB Y (az (aa (ae ?_))))))
 refine ep a4 Z Z ?_
 refine ux (fun B=>aQ 3 Y Y) Y Y ?_
 refine ux (fun B=>ak 1 Y Y Y) Y Y ?_
 refine uxk (hsu) Y ⟨H,H,Er⟩ Y ?_
 refine ux (fun B=>ak 0 Y Y Y) Y Y ?_
 refine uxk (hd1) Y ⟨H,H,Er⟩ Y ?_
 refine ux (fun B=>ab Y) Y Y ?_
 refine ux (fun B=>ar Y Y) Y Y ?_
 refine ux (fun B=>ar Y Y) Y Y ?_
 refine ux (fun B=>ar Y Y) Y Y ?_
 refine ua Y (ua Y (us Y (us Y ?_)))
 refine ux (fun B=>ah Y) Y Y ?_
 refine RunU.nil (fun γ => ?_)
 refine cK (M' := [_,_,_,_,_,_,_]) Y (aa (ae (ai (El (ak 1 Y Y Y) ?_))))
 refine El (am (hro) Y ⟨H,Er⟩) ?_
 refine Em Y (El (ar Y Y) (El (ar Y Y) ?_))
 refine aG (T:=37) Y (ltN Y) (fun b11 => ?_)
 refine aA 0 Y Y Y Y Y (leN Y) Y (En Y (Ep (aa (ae (ai (El (aQ 7 Y Y) (El (aQ 6 Y Y) ?_)))))))
 refine El (am (hd2') Y ⟨H,H,Er⟩) ?_
 refine Em Y (El (ar Y Y) (El (ar Y Y) (El (ar Y Y) ?_)))
 refine aG (T:=37) Y (ltN Y) (fun b13 => ?_)
 refine aG (T:=37) Y (ltN Y) (fun b14 => ?_)
 refine aA 1 Y Y Y Y Y (leN Y) Y (aA 0 Y Y Y Y Y (leN Y) Y (En Y (Ep (aa (ae ?_)))))
 refine ep a4 Z Z ?_
 refine ux (fun B=>aQ 8 Y Y) Y Y ?_
 refine uB Y Y Y (BuildK.nil (uB Y Y Y (BuildK.cons Y Y Y (BuildK.cons Y Y Y (BuildK.nil ?_)))))
 refine ux (fun B=>ak 0 Y Y Y) Y Y ?_
 refine ux (fun B=>ak 6 Y Y Y) Y Y ?_
 refine uB Y Y Y (BuildK.cons Y Y Y (BuildK.cons Y Y Y (BuildK.nil (ua Y (ua Y (us Y (us Y ?_)))))))
 refine RunU.nil (fun γ => ?_)
 refine cK (M' := [_,_,_,_,_,_,_,_,_,_,_,_]) Y (gI (dJ.refl _) (.keep iJ (.keep iJ (SubM.refl _))) (aa (ae (au (cp (Γ' := [(2,_),(3,_),(4,_),(5,_),(6,_),(11,_),(16,_),(17,_)]) Eg (SubM.refl _) ?_)))))
 refine bD (σ:=(Nat × Int) × (Nat × Int)) (Γk := [(2,_),(3,_),(4,_),(5,_),(6,_),(11,_),(16,_),(17,_)]) Eg (fun p => []) (fun p M0=>((M0.set 0 (aP (γ 17) 137 4 [(0, .agg 2,aL (p.2.1:Nat)),(2, .agg 2,aL p.2.2)])).set 1 (aP (γ 16) 137 4 [(0, .agg 2,aL (p.1.1:Nat)),(2, .agg 2,aL p.1.2)]))) (fun p=>EucR m s R p.1 p.2) (fun p=>p.2.1) (((m,0),(r,1))) (hE) Eh (.keep Ek (.keep (Bv H iM) (.keep Ek (.keep Ek (.keep Ek (.keep Ek (.keep Ek (.keep Ek (.keep Ek (.keep Ek (.keep Ek (.keep Ek (.nil))))))))))))) (fun p hp => ?_)
 refine bU (Γ' := [(2,_),(3,_),(4,_),(5,_),(6,_),(11,_),(16,_),(17,_)]) (M' := [_,_,_,_,_,_,_,_,_,_,_,_]) Y Y ?_
 obtain ⟨x,y⟩:=p
 dsimp only at hp ⊢
 have hcy:=gz (y.1:Int) (s:Int)
 have q1:=hp.lt
 have q2:=hp.le
 have q3:=hp.u
 have q4:=hp.v
 by_cases hys:s<y.1
 ·have hcc:0<cV (y.1:Int) (s:Int):=by unfold cV;rw [if_neg X,if_pos X]; decide
  obtain ⟨n1,n2⟩:=hp.step hys
  have q5:=Nat.div_le_self x.1 y.1
  have hnx:=A1 (x.1:Int) x.2 (y.1:Int) y.2 X (cO smm X) (cO smm X) (cO smm X) (cO smm X) (cO smm (by rw [← Int.natCast_ediv,Int.natAbs_natCast,Int.natAbs_natCast]; exact Nat.le_trans q5 q2)) (cO smm (by rw [← Int.natCast_ediv,Int.natAbs_natCast]; exact n2))
  rw [← Int.natCast_ediv, ← Int.natCast_emod] at hnx
  refine ae (ae (ai (El (aj Y) (El (ak 0 Y Y Y) (El (ak 4 Y Y Y) ?_)))))
  refine El (am (hcy) Y ⟨H,H,Er⟩) ?_
  refine El (sT (by assumption) (db Y Y)) (Ep (aa (aH Y (az (aa (au (fm 4 a4 Z S (El (aQ 0 Y Y) (El (aQ 1 Y Y) ?_)))))))))
  refine El (aQ 0 Y Y) ?_
  refine El (am (hnx) Y ⟨H,H,Er⟩) ?_
  refine Ep (aY 1 Y Y Y Y (aY 0 Y Y Y Y (Ep (aD ?_))))
  refine aR ((y,(x.1 % y.1,x.2 - ((x.1 / y.1:Nat):Int)*y.2))) (n1) (Nat.mod_lt _ X) Eh (.keep Ek (.keep Ek (.keep Ek (.keep Ek (.keep Ek (.keep Ek (.keep Ek (.keep Ek (.keep Ek (.keep Ek (.keep Ek (.keep Ek (.nil)))))))))))))
 ·have hcc : ¬ 0<cV (y.1:Int) (s:Int):=by unfold cV;split <;> (try split) <;> omega
  have hyR:=hp.fin hys
  subst hyR
  by_cases hy0:y.2=0
  ·rw [if_pos hy0]
   have hq:=A0 (y.1:Int)
   rw [hy0]
   unfold dH at hq
   unfold De dH
   refine ae (ae (ai (El (aj Y) (El (ak 0 Y Y Y) (El (ak 4 Y Y Y) ?_)))))
   refine El (am (hcy) Y ⟨H,H,Er⟩) ?_
   refine El (sF (by assumption) (db Y Y)) (Ep (aa (aB Y (aX (av (av (aE (aa (ae ?_)))))))))
   refine ai (El (aj Y) (El (ak 0 Y Y Y) (El (aj Y) (El (ak 0 Y Y Y) ?_))))
   refine El (am (hq) Y ⟨H,H,Er⟩) ?_
   refine Em Y (El (ar Y Y) (El (ar Y Y) ?_))
   refine bj (T:=58) Y Y Y (fun b18 => ?_)
   refine aY 0 Y Y Y Y (En Y (Ep (aa (ae (ae (ai (Em Y (El (sT X (dy Y Y)) (Ep ?_)))))))))
   refine aa (aH Y (ae (ai (stB Y Y Y (BuildK.nil (aY 10 Y Y Y Y (En Y (Ep (aa ?_)))))))))
   refine aF (aU ?_)
   refine cT Tryz.results60 (.cellW 10 Y Y (t4)) (.tmp Y H)
  ·rw [if_neg hy0]
   have smy1:bm (y.1:Int):=cO smm X
   have smy2:bm y.2:=cO smm X
   have hq:=CK (y.1:Int) y.2 hy0 smy1 smy2
   have hnl:=vO (a:=(y.1:Int)) (b:=y.2)
   have hdl:=zI (a:=(y.1:Int)) hy0
   have hden0:=(Rat.divInt (y.1:Int) y.2).den_nz
   generalize Rat.divInt (y.1:Int) y.2=f at *
   unfold cD dH at hq
   have smn:bm f.num:=cO smm X
   have smd:bm (f.den:Int):=cO smm X
   have hp1:(a*(f.den:Int)).natAbs≤2^1600:=by
    rw [Int.natAbs_mul]
    exact Df ha X
   have hmu:=eY a (f.den:Int) sma smd
   have smp:=eA (n:=1600) hp1 S
   have hsb:=lN f.num (a*(f.den:Int)) smn smp
   have smq:bm (f.num - a*(f.den:Int)):=eA (n:=1601) (by
    have e:2^1601=2^1600+2^1600:=yF 1600 1601 Y
    have e2:2^800≤2^1600:=Nat.pow_le_pow_right (n:=2) (i:=800) (j:=1600) S S
    rw [e]
    generalize 2^1600=z at *
    generalize 2^800=z2 at *
    generalize a*(f.den:Int)=q at *
    omega) S
   have hdm:=dt (f.num - a*(f.den:Int)) (m:Int) X smq smm
   have hab:=AF f.num smn
   have hc1:=gz (f.num.natAbs:Int) (s:Int)
   have hc2:=gz (f.den:Int) (s:Int)
   have hgc:=yE (f.den:Int) (m:Int) smd smm
   rw [Int.natAbs_natCast,Int.natAbs_natCast] at hgc
   have hc3:=gz (Nat.gcd f.den m:Nat) 1
   have hsi:=dc ((f.num - a*(f.den:Int)) % (m:Int))
   refine ae (ae (ai (El (aj Y) (El (ak 0 Y Y Y) (El (ak 4 Y Y Y) ?_)))))
   refine El (am (hcy) Y ⟨H,H,Er⟩) ?_
   refine El (sF (by assumption) (db Y Y)) (Ep (aa (aB Y (aX (av (av (aE (aa (ae ?_)))))))))
   refine ai (El (aj Y) (El (ak 0 Y Y Y) (El (aj Y) (El (ak 0 Y Y Y) ?_))))
   refine El (am (hq) Y ⟨H,H,Er⟩) ?_
   refine Em Y (El (ar Y Y) (El (ar Y Y) ?_))
   refine bj (T:=58) Y Y Y (fun b18 => ?_)
   refine aY 0 Y Y Y Y (En Y (Ep (aa (ae (ae (ai (Em Y (El (sF X (dy Y Y)) (Ep ?_)))))))))
   refine aa (aB Y (az (aa (ae ?_))))
   refine ep a4 Z Z ?_
   refine ux (fun B=>aj Y) Y Y ?_
   refine ux (fun B=>ak 0 Y Y Y) Y Y ?_
   refine ux (fun B=>aQ 12 Y Y) Y Y ?_
   refine ux (fun B=>aj Y) Y Y ?_
   refine ux (fun B=>ak 0 Y Y Y) Y Y ?_
   refine uxk (hmu) Y ⟨H,H,Er⟩ Y ?_
   refine uxk (hsb) Y ⟨H,H,Er⟩ Y ?_
   refine ux (fun B=>aQ 11 Y Y) Y Y ?_
   refine uxk (hdm) Y ⟨H,H,Er⟩ Y ?_
   refine ux (fun B=>ab Y) Y Y ?_
   refine ux (fun B=>ar Y Y) Y Y ?_
   refine ux (fun B=>ar Y Y) Y Y ?_
   refine ux (fun B=>ar Y Y) Y Y ?_
   refine ua Y (ua Y (us Y (us Y ?_)))
   refine ux (fun B=>ah Y) Y Y ?_
   refine RunU.nil (fun γ => ?_)
   refine cK (M' := [_,_,_,_,_,_,_,_,_,_,_,_,_,_,_]) Y (aa (ae ?_))
   refine ep a4 Z Z ?_
   refine ux (fun B=>aj Y) Y Y ?_
   refine ux (fun B=>ak 2 Y Y Y) Y Y ?_
   refine uxk (hab) Y ⟨H,Er⟩ Y ?_
   refine ux (fun B=>ak 7 Y Y Y) Y Y ?_
   refine uxk (hc1) Y ⟨H,H,Er⟩ Y ?_
   refine ux (fun B=>m5 Y Y) Y Y ?_
   refine ux (fun B=>aj Y) Y Y ?_
   refine ux (fun B=>ak 2 Y Y Y) Y Y ?_
   refine ux (fun B=>ak 7 Y Y Y) Y Y ?_
   refine uxk (hc2) Y ⟨H,H,Er⟩ Y ?_
   refine ux (fun B=>m5 Y Y) Y Y ?_
   refine ux (fun B=>aj Y) Y Y ?_
   refine ux (fun B=>ak 2 Y Y Y) Y Y ?_
   refine ux (fun B=>aQ 13 Y Y) Y Y ?_
   refine uxk (hgc) Y ⟨H,H,Er⟩ Y ?_
   refine ux (fun B=>ak 11 Y Y Y) Y Y ?_
   refine uxk (hc3) Y ⟨H,H,Er⟩ Y ?_
   refine ux (fun B=>cm Y Y) Y Y ?_
   refine ux (fun B=>ak 0 Y Y Y) Y Y ?_
   refine uxk (hsi) Y ⟨H,Er⟩ Y ?_
   refine ux (fun B=>cm Y Y) Y Y ?_
   refine uB Y Y Y (BuildK.cons Y Y Y (BuildK.cons Y Y Y (BuildK.cons Y Y Y (BuildK.cons Y Y Y (BuildK.nil (ua Y (us Y ?_)))))))
   refine RunU.nil (fun γ => ?_)
   refine cK (M' := [_,_,_,_,_,_,_,_,_,_,_,_,_,_,_,_]) Y (gI (dJ.refl _) (.keep iJ (SubM.refl _)) (aa (ae (ae (ai (El (aQ 0 Y Y) (stB Y Y Y (BuildK.cons Y Y Y (BuildK.cons Y Y Y ?_)))))))))
   refine BuildK.cons Y Y Y (BuildK.cons Y Y Y (BuildK.nil (El (DC Y Y) (Ep (aa (ny (t:=115) (ψ:=one (.bool (!jd a m s f))) Y (aq (by rw [DR])) ?_))))))
   unfold De cD dH
   cases hrc:jd a m s f
   ·rw [if_neg S]
    refine aH Y (ae (ai (stB Y Y Y (BuildK.nil (aY 13 Y Y Y Y (En Y (Ep (aa (aF ?_)))))))))
    refine aU ?_
    refine cT Tryz.results60 (.cellW 13 Y Y (t4)) (.tmp Y H)
   ·rw [if_pos Y]
    refine aB Y (az (aa (ae (ai (El (aQ 3 Y Y) (aY 13 Y Y Y Y (En Y (Ep (aa ?_)))))))))
    refine aF ?_
    refine cT Tryz.results60 (.cellW 13 Y Y H) (.tmp Y H)
end Tor
end
section
namespace Tor
open Go Go.RowKit Go.Proofs
def mI (r c:Nat) (F:Nat→Nat→Int) (t:Nat):Nat:=(dI r (fun i=>(eS c (F i):Int)) t).toNat
theorem s7 {r c:Nat} {F:Nat→Nat→Int} {t:Nat} (ht:t<r) : ∃ i,i<r∧dI r (fun i=>(eS c (F i):Int)) t=(eS c (F i):Int):=by
 have h1:dI r (fun i=>(eS c (F i):Int)) t∈lst r (dI r (fun i=>(eS c (F i):Int))):=by
  unfold lst;exact List.mem_map.2 ⟨t,List.mem_range.2 ht,rfl⟩
 have h2:=(e8 (fun i=>(eS c (F i):Int)) (Nat.le_refl r)).mem_iff.1 h1
 unfold lst at h2
 obtain ⟨i,hi,e⟩:=List.mem_map.1 h2
 exact ⟨i,List.mem_range.1 hi,e.symm⟩
theorem p6 {r c:Nat} {F:Nat→Nat→Int} {t:Nat} (ht:t<r):((mI r c F t:Nat):Int)=dI r (fun i=>(eS c (F i):Int)) t:=by
 obtain ⟨i,hi,e⟩:=s7 (c:=c) (F:=F) ht
 unfold mI;rw [e]; exact Int.toNat_of_nonneg (Int.natCast_nonneg _)
theorem vP {r c B:Nat} {F:Nat→Nat→Int} (hl : ∀ i,i<r→eS c (F i)≤B) {t:Nat} (ht:t<r):mI r c F t≤B:=by
 obtain ⟨i,hi,e⟩:=s7 (c:=c) (F:=F) ht
 have:=hl i hi
 unfold mI;rw [e]; omega
attribute [local irreducible] J PJ aJ one slT bQ bC bv exT bZ eP aP aI slV VT.le Ret bJ
attribute [local irreducible] aL
end Tor
end
section
namespace Tor
open Go Go.RowKit Go.Proofs
theorem zJ {sv:Option Nat} {T:TypeId} {cap n j:Nat} {g:Nat→Int} : Own.le (aI sv T (.agg 2) cap n (upd (upd (fun q=>aL (g q)) (j+1) (aL (g j))) j (aL (g (j+1))))) (aI sv T (.agg 2) cap n (fun q=>aL (iF j g q))):=bg fun q _=>by
 unfold upd iF
 by_cases h:q=j
 ·rw [if_pos h,if_pos h]
 ·rw [if_neg h,if_neg h]
  by_cases h2:q=j+1
  ·rw [if_pos h2,if_pos h2]
  ·rw [if_neg h2,if_neg h2]
def InL (n:Nat) (g h:Nat→Int):Prop := ∀ q,q<n → ∃ i,i<n∧h q=g i
theorem InL.sort {n i:Nat} {g:Nat→Int} (hi:i≤n):InL n g (dI i g):=fun q hq=>by
 have h1:dI i g q∈lst n (dI i g):=by unfold lst;exact List.mem_map.2 ⟨q,List.mem_range.2 hq,rfl⟩
 have h2:=(e8 g hi).mem_iff.1 h1
 unfold lst at h2
 obtain ⟨k,hk,e⟩:=List.mem_map.1 h2
 exact ⟨k,List.mem_range.1 hk,e.symm⟩
theorem InL.swp {n j:Nat} {g h:Nat→Int} (Ef:InL n g h) (hj:j+1<n):InL n g (iF j h):=fun q hq=>by
 unfold iF
 split
 ·exact Ef _ hj
 ·split
  ·exact Ef _ X
  ·exact Ef q hq
attribute [local irreducible] J PJ aJ one slT bQ bC bv exT bZ eP aP aI slV VT.le Ret bJ
attribute [local irreducible] aL
theorem rk (sv:Option Nat) (cap n:Nat) (g:Nat→Int) (cl:VT) (hn:n≤1048576) (hC : ∀ x y,(∃ i,i<n∧x=g i)→(∃ i,i<n∧y=g i)→fo Tryz.prog cl [aL x,aL y] (one (.int .i64 (cV y x)))) :
  OkI Tryz.prog 169 [one (slV sv n cap),one (.int .i64 0),one (.int .i64 (n:Nat)),cl] [aI sv 37 (.agg 2) cap n (fun q=>aL (g q))]
   (fun _:Unit=>bv []) (fun _ => [aI sv 37 (.agg 2) cap n (fun q=>aL (dI n g q))]):=by
 refine OkI.enter Tryz.func169 Y Tryz.ntmps169 Y (fun w O => ?_)
 refine ni (i:=0) (F:=sv=none→n=0) Y (fun g h hp he=>iU hp he) (fun hsv => ?_)
 refine ae (ai (Em Y (El (ci Y Y (aO X X)) (En Y (Ep (aa (au (cp (Γ' := [(0,_),(1,_),(2,_),(3,_),(8,_)]) Eg (SubM.refl _) ?_))))))))
 refine bD (σ:=Nat) (Γk := [(0,_),(1,_),(2,_),(3,_)]) Eg (fun t => [(8,one (.int .i64 ((t+1:Nat):Int)))]) (fun t M0=>(M0.set 0 (aI sv 37 (.agg 2) cap n (fun q=>aL (dI (t+1) g q))))) (fun t=>t+1≤n∨t=0) (fun t=>n - t) (0) (.inr Y) Eh (.keep Ek (.nil)) (fun t ht => ?_)
 refine bU (Γ' := [(8,_),(0,_),(1,_),(2,_),(3,_)]) (M' := [_]) Y Y ?_
 by_cases hlt:t+1<n
 ·obtain ⟨bs,rfl⟩:=fZ hsv X
  refine ae (ae (ai (Em Y (Em Y (El (sT X (a7 Y Y)) (Ep (aa (aH Y (az ?_)))))))))
  refine aa (ae (au (ae (ai (Em Y (En Y (Ep (aa (au ?_)))))))))
  refine cp (Γ' := [(0,_),(1,_),(2,_),(3,_),(8,_),(9,_)]) Eg (SubM.refl _) ?_
  refine bD (σ:=Nat × (Nat→Int)) (Γk := [(0,_),(1,_),(2,_),(3,_),(8,_)]) Eg (fun s => [(9,one (.int .i64 (s.1:Nat)))]) (fun s M0=>(M0.set 0 (aI (some bs) 37 (.agg 2) cap n (fun q=>aL (s.2 q))))) (fun s=>s.1≤t+1∧InL n g s.2∧o9 s.1 s.2=dI (t+2) g) (fun s=>s.1) ((t+1,dI (t+1) g)) (⟨Nat.le_refl _,InL.sort X,rfl⟩) Eh (.keep Ek (.nil)) (fun s hs => ?_)
  refine bU (Γ' := [(9,_),(0,_),(1,_),(2,_),(3,_),(8,_)]) (M' := [_]) Y Y ?_
  obtain ⟨j,h⟩:=s
  obtain ⟨hj,hin,hI⟩:=hs
  dsimp only at hj hin hI ⊢
  cases j with
  | zero =>
   have hI:h=dI (t+2) g:=hI
   subst hI
   refine ae (ae (a8 17 a4 Z S (Em Y (Em Y (El (sF X (db Y Y)) (Em Y (sn0 Y Y Y Y Y (sn0 Y Y Y Y Y (sn0 Y Y Y Y Y ?_)))))))))
   refine sn0 Y Y Y Y Y (sn0 Y Y Y Y Y (sn0 Y Y Y Y Y (sn0 Y Y Y Y Y (sn0 Y Y Y Y Y (sn0 Y Y Y Y Y (sn0 Y Y Y Y Y (sn0 Y Y Y Y Y (sn0 Y Y Y Y Y (El (bE Y Y) ?_)))))))))
   refine Ep (Ep (aa (aB Y (aX (av (av (aE (aD (aa ?_)))))))))
   refine ai (Em Y (El (bI _ 1 Y Y X) (En Y (Ep ?_))))
   refine aR (t+1) X X Eh (.keep Ek (.nil))
  | succ j =>
   have hx:=hin (j+1) X
   have hy:=hin j X
   have hcl:=hC (h (j+1)) (h j) hx hy
   have hI:(if h j<h (j+1) then o9 j (iF j h) else h)=dI (t+2) g:=hI
   by_cases hlt2:h j<h (j+1)
   ·rw [if_pos hlt2] at hI
    have hcc:cV (h j) (h (j+1))<0:=by unfold cV;split <;> (try split) <;> omega
    generalize cV (h j) (h (j+1))=cc at *
    refine ae (ae (a8 17 a4 Z S (Em Y (Em Y (El (sT X (db Y Y)) (Em Y (Eo (ab Y) (Eo (ab Y) (Eo (ab Y) ?_)))))))))
    refine Eo (ao Y Y X) (Eo (be 0 Y Y X) (Eo (ab Y) (Eo (ab Y) (Eo (cg _ 1 Y Y X X) (Eo (ao Y Y X) (Eo (be 0 Y Y X) ?_))))))
    refine Eo (lg hcl Y Y ⟨H,H,Er⟩) ?_
    refine Eo (sT (by assumption) (a7 Y Y)) (El (bp Y Y) (Ep (Ep (aa (aH Y (az (aa (ae (au ?_)))))))))
    apply iC (Γ1 := [(9,_),(0,_),(1,_),(2,_),(3,_),(8,_)]) (M1 := [_]) 15 6 [2,3,4] [] a4 Z S
    ·refine Em Y (Em Y (Em Y (Em Y (El (cg _ 1 Y Y X X) (Em Y (Em Y (El (cg _ 1 Y Y X X) (El (ao Y Y X) (El (be 0 Y Y X) ?_)))))))))
     refine Em Y (Em Y (El (ao Y Y X) (El (be 0 Y Y X) (El (ao Y Y X) (Ep ?_)))))
     refine Cu (Γa := [(9,_),(0,_),(1,_),(2,_),(3,_),(8,_),(51,_),(46,_),(50,_)]) (Γb := [(9,_),(0,_),(1,_),(2,_),(3,_),(8,_),(51,_),(46,_),(50,_),(41,_)]) (Γc := [(9,_),(0,_),(1,_),(2,_),(3,_),(8,_),(51,_),(46,_),(50,_),(40,_)]) (Γd := [(9,_),(0,_),(1,_),(2,_),(3,_),(8,_),(51,_),(46,_),(50,_),(40,_),(41,_)]) (Γe := [(9,_),(0,_),(1,_),(2,_),(3,_),(8,_),(51,_),(46,_),(50,_),(39,_)]) (Γf := [(9,_),(0,_),(1,_),(2,_),(3,_),(8,_),(51,_),(46,_),(50,_),(39,_),(41,_)]) (Γg := [(9,_),(0,_),(1,_),(2,_),(3,_),(8,_),(51,_),(46,_),(50,_),(39,_),(40,_)]) (Γh := [(9,_),(0,_),(1,_),(2,_),(3,_),(8,_),(51,_),(46,_),(50,_),(39,_),(40,_),(41,_)]) (rem := [15,16,17]) Y Ej Y Ej Y Ej Y Ej Y Ej Y Ej Y Ej Y Ej Y ?_ ?_ ?_ ?_ ?_ ?_ ?_ ?_
     ·refine ey (r1 := [3,4,15,16,17]) (r2 := [2,4,15,16,17]) (r3 := [2,3,4,16,17]) (i:=2) (j:=3) (k:=15) Z Y Y Y Y Y Y ?_ ?_ ?_ iB.nil
      refine Em Y (Ep ?_)
      refine ⟨rfl,?_⟩
      refine bL (rem' := [4,15,16,17]) (rem'' := [3,4,16,17]) (i:=3) (j:=15) Z Y Y Y Y ?_ ?_ iB.nil
      refine Em Y (Ep ?_)
      refine ⟨rfl,?_⟩
      refine bL (rem' := [15,16,17]) (rem'' := [4,16,17]) (i:=4) (j:=15) Z Y Y Y Y ?_ ?_ iB.nil
      refine El (cg _ 1 Y Y X X) (Ep ?_)
      refine ⟨rfl,?_⟩
      refine an (rem' := [16,17]) (i:=15) Z Y Y ?_ iB.nil
      (refine aw 0 Y Y Y ?_ Y ?_;omega)
      refine Ep ?_
      refine ⟨rfl,?_⟩
      refine an (rem' := [17]) (i:=16) Z Y Y ?_ iB.nil
      refine El (ao Y Y X) (Ep ?_)
      refine ⟨rfl,?_⟩
      refine an (rem' := []) (i:=17) Z Y Y ?_ iB.nil
      (refine aw 0 Y Y Y ?_ Y ?_;omega)
      refine Ep ?_
      refine ⟨rfl,?_⟩
      refine aT Ej (SubM.refl _) iB.nil
      (refine aw 0 Y Y Y ?_ Y ?_;omega)
      refine Ep ?_
      refine ⟨rfl,?_⟩
      refine an (rem' := [16,17]) (i:=4) Z Y Y ?_ iB.nil
      refine El (cg _ 1 Y Y X X) (Ep ?_)
      refine ⟨rfl,?_⟩
      refine an (rem' := [17]) (i:=16) Z Y Y ?_ iB.nil
      refine El (ao Y Y X) (Ep ?_)
      refine ⟨rfl,?_⟩
      refine an (rem' := []) (i:=17) Z Y Y ?_ iB.nil
      (refine aw 0 Y Y Y ?_ Y ?_;omega)
      refine Ep ?_
      refine ⟨rfl,?_⟩
      refine aT Ej (SubM.refl _) iB.nil
      (refine aw 0 Y Y Y ?_ Y ?_;omega)
      refine Ep ?_
      refine ⟨rfl,?_⟩
      refine an (rem' := [4,16,17]) (i:=3) Z Y Y ?_ iB.nil
      refine Em Y (Ep ?_)
      refine ⟨rfl,?_⟩
      refine an (rem' := [16,17]) (i:=4) Z Y Y ?_ iB.nil
      refine El (cg _ 1 Y Y X X) (Ep ?_)
      refine ⟨rfl,?_⟩
      refine an (rem' := [17]) (i:=16) Z Y Y ?_ iB.nil
      refine El (ao Y Y X) (Ep ?_)
      refine ⟨rfl,?_⟩
      refine an (rem' := []) (i:=17) Z Y Y ?_ iB.nil
      (refine aw 0 Y Y Y ?_ Y ?_;omega)
      refine Ep ?_
      refine ⟨rfl,?_⟩
      refine aT Ej (SubM.refl _) iB.nil
      refine Em Y (Ep ?_)
      refine ⟨rfl,?_⟩
      refine ey (r1 := [4,15,16,17]) (r2 := [2,15,16,17]) (r3 := [2,4,16,17]) (i:=2) (j:=4) (k:=15) Z Y Y Y Y Y Y ?_ ?_ ?_ iB.nil
      refine Em Y (Ep ?_)
      refine ⟨rfl,?_⟩
      refine bL (rem' := [15,16,17]) (rem'' := [4,16,17]) (i:=4) (j:=15) Z Y Y Y Y ?_ ?_ iB.nil
      refine El (cg _ 1 Y Y X X) (Ep ?_)
      refine ⟨rfl,?_⟩
      refine an (rem' := [16,17]) (i:=15) Z Y Y ?_ iB.nil
      (refine aw 0 Y Y Y ?_ Y ?_;omega)
      refine Ep ?_
      refine ⟨rfl,?_⟩
      refine an (rem' := [17]) (i:=16) Z Y Y ?_ iB.nil
      refine El (ao Y Y X) (Ep ?_)
      refine ⟨rfl,?_⟩
      refine an (rem' := []) (i:=17) Z Y Y ?_ iB.nil
      (refine aw 0 Y Y Y ?_ Y ?_;omega)
      refine Ep ?_
      refine ⟨rfl,?_⟩
      refine aT Ej (SubM.refl _) iB.nil
      (refine aw 0 Y Y Y ?_ Y ?_;omega)
      refine Ep ?_
      refine ⟨rfl,?_⟩
      refine an (rem' := [16,17]) (i:=4) Z Y Y ?_ iB.nil
      refine El (cg _ 1 Y Y X X) (Ep ?_)
      refine ⟨rfl,?_⟩
      refine an (rem' := [17]) (i:=16) Z Y Y ?_ iB.nil
      refine El (ao Y Y X) (Ep ?_)
      refine ⟨rfl,?_⟩
      refine an (rem' := []) (i:=17) Z Y Y ?_ iB.nil
      (refine aw 0 Y Y Y ?_ Y ?_;omega)
      refine Ep ?_
      refine ⟨rfl,?_⟩
      refine aT Ej (SubM.refl _) iB.nil
      refine El (cg _ 1 Y Y X X) (Ep ?_)
      refine ⟨rfl,?_⟩
      refine bL (rem' := [15,16,17]) (rem'' := [2,16,17]) (i:=2) (j:=15) Z Y Y Y Y ?_ ?_ iB.nil
      refine Em Y (Ep ?_)
      refine ⟨rfl,?_⟩
      refine an (rem' := [16,17]) (i:=15) Z Y Y ?_ iB.nil
      (refine aw 0 Y Y Y ?_ Y ?_;omega)
      refine Ep ?_
      refine ⟨rfl,?_⟩
      refine an (rem' := [17]) (i:=16) Z Y Y ?_ iB.nil
      refine El (ao Y Y X) (Ep ?_)
      refine ⟨rfl,?_⟩
      refine an (rem' := []) (i:=17) Z Y Y ?_ iB.nil
      (refine aw 0 Y Y Y ?_ Y ?_;omega)
      refine Ep ?_
      refine ⟨rfl,?_⟩
      refine aT Ej (SubM.refl _) iB.nil
      (refine aw 0 Y Y Y ?_ Y ?_;omega)
      refine Ep ?_
      refine ⟨rfl,?_⟩
      refine an (rem' := [16,17]) (i:=2) Z Y Y ?_ iB.nil
      refine Em Y (Ep ?_)
      refine ⟨rfl,?_⟩
      refine an (rem' := [17]) (i:=16) Z Y Y ?_ iB.nil
      refine El (ao Y Y X) (Ep ?_)
      refine ⟨rfl,?_⟩
      refine an (rem' := []) (i:=17) Z Y Y ?_ iB.nil
      (refine aw 0 Y Y Y ?_ Y ?_;omega)
      refine Ep ?_
      refine ⟨rfl,?_⟩
      refine aT Ej (SubM.refl _) iB.nil
      (refine aw 0 Y Y Y ?_ Y ?_;omega)
      refine Ep ?_
      refine ⟨rfl,?_⟩
      refine bL (rem' := [4,16,17]) (rem'' := [2,16,17]) (i:=2) (j:=4) Z Y Y Y Y ?_ ?_ iB.nil
      refine Em Y (Ep ?_)
      refine ⟨rfl,?_⟩
      refine an (rem' := [16,17]) (i:=4) Z Y Y ?_ iB.nil
      refine El (cg _ 1 Y Y X X) (Ep ?_)
      refine ⟨rfl,?_⟩
      refine an (rem' := [17]) (i:=16) Z Y Y ?_ iB.nil
      refine El (ao Y Y X) (Ep ?_)
      refine ⟨rfl,?_⟩
      refine an (rem' := []) (i:=17) Z Y Y ?_ iB.nil
      (refine aw 0 Y Y Y ?_ Y ?_;omega)
      refine Ep ?_
      refine ⟨rfl,?_⟩
      refine aT Ej (SubM.refl _) iB.nil
      refine El (cg _ 1 Y Y X X) (Ep ?_)
      refine ⟨rfl,?_⟩
      refine an (rem' := [16,17]) (i:=2) Z Y Y ?_ iB.nil
      refine Em Y (Ep ?_)
      refine ⟨rfl,?_⟩
      refine an (rem' := [17]) (i:=16) Z Y Y ?_ iB.nil
      refine El (ao Y Y X) (Ep ?_)
      refine ⟨rfl,?_⟩
      refine an (rem' := []) (i:=17) Z Y Y ?_ iB.nil
      (refine aw 0 Y Y Y ?_ Y ?_;omega)
      refine Ep ?_
      refine ⟨rfl,?_⟩
      refine aT Ej (SubM.refl _) iB.nil
      (refine aw 0 Y Y Y ?_ Y ?_;omega)
      refine Ep ?_
      refine ⟨rfl,?_⟩
      refine bL (rem' := [3,4,16,17]) (rem'' := [2,4,16,17]) (i:=2) (j:=3) Z Y Y Y Y ?_ ?_ iB.nil
      refine Em Y (Ep ?_)
      refine ⟨rfl,?_⟩
      refine an (rem' := [4,16,17]) (i:=3) Z Y Y ?_ iB.nil
      refine Em Y (Ep ?_)
      refine ⟨rfl,?_⟩
      refine an (rem' := [16,17]) (i:=4) Z Y Y ?_ iB.nil
      refine El (cg _ 1 Y Y X X) (Ep ?_)
      refine ⟨rfl,?_⟩
      refine an (rem' := [17]) (i:=16) Z Y Y ?_ iB.nil
      refine El (ao Y Y X) (Ep ?_)
      refine ⟨rfl,?_⟩
      refine an (rem' := []) (i:=17) Z Y Y ?_ iB.nil
      (refine aw 0 Y Y Y ?_ Y ?_;omega)
      refine Ep ?_
      refine ⟨rfl,?_⟩
      refine aT Ej (SubM.refl _) iB.nil
      refine Em Y (Ep ?_)
      refine ⟨rfl,?_⟩
      refine bL (rem' := [4,16,17]) (rem'' := [2,16,17]) (i:=2) (j:=4) Z Y Y Y Y ?_ ?_ iB.nil
      refine Em Y (Ep ?_)
      refine ⟨rfl,?_⟩
      refine an (rem' := [16,17]) (i:=4) Z Y Y ?_ iB.nil
      refine El (cg _ 1 Y Y X X) (Ep ?_)
      refine ⟨rfl,?_⟩
      refine an (rem' := [17]) (i:=16) Z Y Y ?_ iB.nil
      refine El (ao Y Y X) (Ep ?_)
      refine ⟨rfl,?_⟩
      refine an (rem' := []) (i:=17) Z Y Y ?_ iB.nil
      (refine aw 0 Y Y Y ?_ Y ?_;omega)
      refine Ep ?_
      refine ⟨rfl,?_⟩
      refine aT Ej (SubM.refl _) iB.nil
      refine El (cg _ 1 Y Y X X) (Ep ?_)
      refine ⟨rfl,?_⟩
      refine an (rem' := [16,17]) (i:=2) Z Y Y ?_ iB.nil
      refine Em Y (Ep ?_)
      refine ⟨rfl,?_⟩
      refine an (rem' := [17]) (i:=16) Z Y Y ?_ iB.nil
      refine El (ao Y Y X) (Ep ?_)
      refine ⟨rfl,?_⟩
      refine an (rem' := []) (i:=17) Z Y Y ?_ iB.nil
      (refine aw 0 Y Y Y ?_ Y ?_;omega)
      refine Ep ?_
      refine ⟨rfl,?_⟩
      refine aT Ej (SubM.refl _) iB.nil
     ·refine ey (r1 := [3,15,16,17]) (r2 := [2,15,16,17]) (r3 := [2,3,16,17]) (i:=2) (j:=3) (k:=15) Z Y Y Y Y Y Y ?_ ?_ ?_ iB.nil
      refine Em Y (Ep ?_)
      refine ⟨rfl,?_⟩
      refine bL (rem' := [15,16,17]) (rem'' := [3,16,17]) (i:=3) (j:=15) Z Y Y Y Y ?_ ?_ iB.nil
      refine Em Y (Ep ?_)
      refine ⟨rfl,?_⟩
      refine an (rem' := [16,17]) (i:=15) Z Y Y ?_ iB.nil
      (refine aw 0 Y Y Y ?_ Y ?_;omega)
      refine Ep ?_
      refine ⟨rfl,?_⟩
      refine an (rem' := [17]) (i:=16) Z Y Y ?_ iB.nil
      refine El (ao Y Y X) (Ep ?_)
      refine ⟨rfl,?_⟩
      refine an (rem' := []) (i:=17) Z Y Y ?_ iB.nil
      (refine aw 0 Y Y Y ?_ Y ?_;omega)
      refine Ep ?_
      refine ⟨rfl,?_⟩
      refine aT Ej (SubM.refl _) iB.nil
      (refine aw 0 Y Y Y ?_ Y ?_;omega)
      refine Ep ?_
      refine ⟨rfl,?_⟩
      refine an (rem' := [16,17]) (i:=3) Z Y Y ?_ iB.nil
      refine Em Y (Ep ?_)
      refine ⟨rfl,?_⟩
      refine an (rem' := [17]) (i:=16) Z Y Y ?_ iB.nil
      refine El (ao Y Y X) (Ep ?_)
      refine ⟨rfl,?_⟩
      refine an (rem' := []) (i:=17) Z Y Y ?_ iB.nil
      (refine aw 0 Y Y Y ?_ Y ?_;omega)
      refine Ep ?_
      refine ⟨rfl,?_⟩
      refine aT Ej (SubM.refl _) iB.nil
      refine Em Y (Ep ?_)
      refine ⟨rfl,?_⟩
      refine bL (rem' := [15,16,17]) (rem'' := [2,16,17]) (i:=2) (j:=15) Z Y Y Y Y ?_ ?_ iB.nil
      refine Em Y (Ep ?_)
      refine ⟨rfl,?_⟩
      refine an (rem' := [16,17]) (i:=15) Z Y Y ?_ iB.nil
      (refine aw 0 Y Y Y ?_ Y ?_;omega)
      refine Ep ?_
      refine ⟨rfl,?_⟩
      refine an (rem' := [17]) (i:=16) Z Y Y ?_ iB.nil
      refine El (ao Y Y X) (Ep ?_)
      refine ⟨rfl,?_⟩
      refine an (rem' := []) (i:=17) Z Y Y ?_ iB.nil
      (refine aw 0 Y Y Y ?_ Y ?_;omega)
      refine Ep ?_
      refine ⟨rfl,?_⟩
      refine aT Ej (SubM.refl _) iB.nil
      (refine aw 0 Y Y Y ?_ Y ?_;omega)
      refine Ep ?_
      refine ⟨rfl,?_⟩
      refine an (rem' := [16,17]) (i:=2) Z Y Y ?_ iB.nil
      refine Em Y (Ep ?_)
      refine ⟨rfl,?_⟩
      refine an (rem' := [17]) (i:=16) Z Y Y ?_ iB.nil
      refine El (ao Y Y X) (Ep ?_)
      refine ⟨rfl,?_⟩
      refine an (rem' := []) (i:=17) Z Y Y ?_ iB.nil
      (refine aw 0 Y Y Y ?_ Y ?_;omega)
      refine Ep ?_
      refine ⟨rfl,?_⟩
      refine aT Ej (SubM.refl _) iB.nil
      (refine aw 0 Y Y Y ?_ Y ?_;omega)
      refine Ep ?_
      refine ⟨rfl,?_⟩
      refine bL (rem' := [3,16,17]) (rem'' := [2,16,17]) (i:=2) (j:=3) Z Y Y Y Y ?_ ?_ iB.nil
      refine Em Y (Ep ?_)
      refine ⟨rfl,?_⟩
      refine an (rem' := [16,17]) (i:=3) Z Y Y ?_ iB.nil
      refine Em Y (Ep ?_)
      refine ⟨rfl,?_⟩
      refine an (rem' := [17]) (i:=16) Z Y Y ?_ iB.nil
      refine El (ao Y Y X) (Ep ?_)
      refine ⟨rfl,?_⟩
      refine an (rem' := []) (i:=17) Z Y Y ?_ iB.nil
      (refine aw 0 Y Y Y ?_ Y ?_;omega)
      refine Ep ?_
      refine ⟨rfl,?_⟩
      refine aT Ej (SubM.refl _) iB.nil
      refine Em Y (Ep ?_)
      refine ⟨rfl,?_⟩
      refine an (rem' := [16,17]) (i:=2) Z Y Y ?_ iB.nil
      refine Em Y (Ep ?_)
      refine ⟨rfl,?_⟩
      refine an (rem' := [17]) (i:=16) Z Y Y ?_ iB.nil
      refine El (ao Y Y X) (Ep ?_)
      refine ⟨rfl,?_⟩
      refine an (rem' := []) (i:=17) Z Y Y ?_ iB.nil
      (refine aw 0 Y Y Y ?_ Y ?_;omega)
      refine Ep ?_
      refine ⟨rfl,?_⟩
      refine aT Ej (SubM.refl _) iB.nil
     ·refine ey (r1 := [4,15,16,17]) (r2 := [2,15,16,17]) (r3 := [2,4,16,17]) (i:=2) (j:=4) (k:=15) Z Y Y Y Y Y Y ?_ ?_ ?_ iB.nil
      refine Em Y (Ep ?_)
      refine ⟨rfl,?_⟩
      refine bL (rem' := [15,16,17]) (rem'' := [4,16,17]) (i:=4) (j:=15) Z Y Y Y Y ?_ ?_ iB.nil
      refine El (cg _ 1 Y Y X X) (Ep ?_)
      refine ⟨rfl,?_⟩
      refine an (rem' := [16,17]) (i:=15) Z Y Y ?_ iB.nil
      (refine aw 0 Y Y Y ?_ Y ?_;omega)
      refine Ep ?_
      refine ⟨rfl,?_⟩
      refine an (rem' := [17]) (i:=16) Z Y Y ?_ iB.nil
      refine El (ao Y Y X) (Ep ?_)
      refine ⟨rfl,?_⟩
      refine an (rem' := []) (i:=17) Z Y Y ?_ iB.nil
      (refine aw 0 Y Y Y ?_ Y ?_;omega)
      refine Ep ?_
      refine ⟨rfl,?_⟩
      refine aT Ej (SubM.refl _) iB.nil
      (refine aw 0 Y Y Y ?_ Y ?_;omega)
      refine Ep ?_
      refine ⟨rfl,?_⟩
      refine an (rem' := [16,17]) (i:=4) Z Y Y ?_ iB.nil
      refine El (cg _ 1 Y Y X X) (Ep ?_)
      refine ⟨rfl,?_⟩
      refine an (rem' := [17]) (i:=16) Z Y Y ?_ iB.nil
      refine El (ao Y Y X) (Ep ?_)
      refine ⟨rfl,?_⟩
      refine an (rem' := []) (i:=17) Z Y Y ?_ iB.nil
      (refine aw 0 Y Y Y ?_ Y ?_;omega)
      refine Ep ?_
      refine ⟨rfl,?_⟩
      refine aT Ej (SubM.refl _) iB.nil
      refine El (cg _ 1 Y Y X X) (Ep ?_)
      refine ⟨rfl,?_⟩
      refine bL (rem' := [15,16,17]) (rem'' := [2,16,17]) (i:=2) (j:=15) Z Y Y Y Y ?_ ?_ iB.nil
      refine Em Y (Ep ?_)
      refine ⟨rfl,?_⟩
      refine an (rem' := [16,17]) (i:=15) Z Y Y ?_ iB.nil
      (refine aw 0 Y Y Y ?_ Y ?_;omega)
      refine Ep ?_
      refine ⟨rfl,?_⟩
      refine an (rem' := [17]) (i:=16) Z Y Y ?_ iB.nil
      refine El (ao Y Y X) (Ep ?_)
      refine ⟨rfl,?_⟩
      refine an (rem' := []) (i:=17) Z Y Y ?_ iB.nil
      (refine aw 0 Y Y Y ?_ Y ?_;omega)
      refine Ep ?_
      refine ⟨rfl,?_⟩
      refine aT Ej (SubM.refl _) iB.nil
      (refine aw 0 Y Y Y ?_ Y ?_;omega)
      refine Ep ?_
      refine ⟨rfl,?_⟩
      refine an (rem' := [16,17]) (i:=2) Z Y Y ?_ iB.nil
      refine Em Y (Ep ?_)
      refine ⟨rfl,?_⟩
      refine an (rem' := [17]) (i:=16) Z Y Y ?_ iB.nil
      refine El (ao Y Y X) (Ep ?_)
      refine ⟨rfl,?_⟩
      refine an (rem' := []) (i:=17) Z Y Y ?_ iB.nil
      (refine aw 0 Y Y Y ?_ Y ?_;omega)
      refine Ep ?_
      refine ⟨rfl,?_⟩
      refine aT Ej (SubM.refl _) iB.nil
      (refine aw 0 Y Y Y ?_ Y ?_;omega)
      refine Ep ?_
      refine ⟨rfl,?_⟩
      refine bL (rem' := [4,16,17]) (rem'' := [2,16,17]) (i:=2) (j:=4) Z Y Y Y Y ?_ ?_ iB.nil
      refine Em Y (Ep ?_)
      refine ⟨rfl,?_⟩
      refine an (rem' := [16,17]) (i:=4) Z Y Y ?_ iB.nil
      refine El (cg _ 1 Y Y X X) (Ep ?_)
      refine ⟨rfl,?_⟩
      refine an (rem' := [17]) (i:=16) Z Y Y ?_ iB.nil
      refine El (ao Y Y X) (Ep ?_)
      refine ⟨rfl,?_⟩
      refine an (rem' := []) (i:=17) Z Y Y ?_ iB.nil
      (refine aw 0 Y Y Y ?_ Y ?_;omega)
      refine Ep ?_
      refine ⟨rfl,?_⟩
      refine aT Ej (SubM.refl _) iB.nil
      refine El (cg _ 1 Y Y X X) (Ep ?_)
      refine ⟨rfl,?_⟩
      refine an (rem' := [16,17]) (i:=2) Z Y Y ?_ iB.nil
      refine Em Y (Ep ?_)
      refine ⟨rfl,?_⟩
      refine an (rem' := [17]) (i:=16) Z Y Y ?_ iB.nil
      refine El (ao Y Y X) (Ep ?_)
      refine ⟨rfl,?_⟩
      refine an (rem' := []) (i:=17) Z Y Y ?_ iB.nil
      (refine aw 0 Y Y Y ?_ Y ?_;omega)
      refine Ep ?_
      refine ⟨rfl,?_⟩
      refine aT Ej (SubM.refl _) iB.nil
     ·refine bL (rem' := [15,16,17]) (rem'' := [2,16,17]) (i:=2) (j:=15) Z Y Y Y Y ?_ ?_ iB.nil
      refine Em Y (Ep ?_)
      refine ⟨rfl,?_⟩
      refine an (rem' := [16,17]) (i:=15) Z Y Y ?_ iB.nil
      (refine aw 0 Y Y Y ?_ Y ?_;omega)
      refine Ep ?_
      refine ⟨rfl,?_⟩
      refine an (rem' := [17]) (i:=16) Z Y Y ?_ iB.nil
      refine El (ao Y Y X) (Ep ?_)
      refine ⟨rfl,?_⟩
      refine an (rem' := []) (i:=17) Z Y Y ?_ iB.nil
      (refine aw 0 Y Y Y ?_ Y ?_;omega)
      refine Ep ?_
      refine ⟨rfl,?_⟩
      refine aT Ej (SubM.refl _) iB.nil
      (refine aw 0 Y Y Y ?_ Y ?_;omega)
      refine Ep ?_
      refine ⟨rfl,?_⟩
      refine an (rem' := [16,17]) (i:=2) Z Y Y ?_ iB.nil
      refine Em Y (Ep ?_)
      refine ⟨rfl,?_⟩
      refine an (rem' := [17]) (i:=16) Z Y Y ?_ iB.nil
      refine El (ao Y Y X) (Ep ?_)
      refine ⟨rfl,?_⟩
      refine an (rem' := []) (i:=17) Z Y Y ?_ iB.nil
      (refine aw 0 Y Y Y ?_ Y ?_;omega)
      refine Ep ?_
      refine ⟨rfl,?_⟩
      refine aT Ej (SubM.refl _) iB.nil
     ·refine bL (rem' := [4,15,16,17]) (rem'' := [3,4,16,17]) (i:=3) (j:=15) Z Y Y Y Y ?_ ?_ iB.nil
      refine Em Y (Ep ?_)
      refine ⟨rfl,?_⟩
      refine bL (rem' := [15,16,17]) (rem'' := [4,16,17]) (i:=4) (j:=15) Z Y Y Y Y ?_ ?_ iB.nil
      refine El (cg _ 1 Y Y X X) (Ep ?_)
      refine ⟨rfl,?_⟩
      refine an (rem' := [16,17]) (i:=15) Z Y Y ?_ iB.nil
      (refine aw 0 Y Y Y ?_ Y ?_;omega)
      refine Ep ?_
      refine ⟨rfl,?_⟩
      refine an (rem' := [17]) (i:=16) Z Y Y ?_ iB.nil
      refine El (ao Y Y X) (Ep ?_)
      refine ⟨rfl,?_⟩
      refine an (rem' := []) (i:=17) Z Y Y ?_ iB.nil
      (refine aw 0 Y Y Y ?_ Y ?_;omega)
      refine Ep ?_
      refine ⟨rfl,?_⟩
      refine aT Ej (SubM.refl _) iB.nil
      (refine aw 0 Y Y Y ?_ Y ?_;omega)
      refine Ep ?_
      refine ⟨rfl,?_⟩
      refine an (rem' := [16,17]) (i:=4) Z Y Y ?_ iB.nil
      refine El (cg _ 1 Y Y X X) (Ep ?_)
      refine ⟨rfl,?_⟩
      refine an (rem' := [17]) (i:=16) Z Y Y ?_ iB.nil
      refine El (ao Y Y X) (Ep ?_)
      refine ⟨rfl,?_⟩
      refine an (rem' := []) (i:=17) Z Y Y ?_ iB.nil
      (refine aw 0 Y Y Y ?_ Y ?_;omega)
      refine Ep ?_
      refine ⟨rfl,?_⟩
      refine aT Ej (SubM.refl _) iB.nil
      (refine aw 0 Y Y Y ?_ Y ?_;omega)
      refine Ep ?_
      refine ⟨rfl,?_⟩
      refine an (rem' := [4,16,17]) (i:=3) Z Y Y ?_ iB.nil
      refine Em Y (Ep ?_)
      refine ⟨rfl,?_⟩
      refine an (rem' := [16,17]) (i:=4) Z Y Y ?_ iB.nil
      refine El (cg _ 1 Y Y X X) (Ep ?_)
      refine ⟨rfl,?_⟩
      refine an (rem' := [17]) (i:=16) Z Y Y ?_ iB.nil
      refine El (ao Y Y X) (Ep ?_)
      refine ⟨rfl,?_⟩
      refine an (rem' := []) (i:=17) Z Y Y ?_ iB.nil
      (refine aw 0 Y Y Y ?_ Y ?_;omega)
      refine Ep ?_
      refine ⟨rfl,?_⟩
      refine aT Ej (SubM.refl _) iB.nil
     ·refine bL (rem' := [15,16,17]) (rem'' := [3,16,17]) (i:=3) (j:=15) Z Y Y Y Y ?_ ?_ iB.nil
      refine Em Y (Ep ?_)
      refine ⟨rfl,?_⟩
      refine an (rem' := [16,17]) (i:=15) Z Y Y ?_ iB.nil
      (refine aw 0 Y Y Y ?_ Y ?_;omega)
      refine Ep ?_
      refine ⟨rfl,?_⟩
      refine an (rem' := [17]) (i:=16) Z Y Y ?_ iB.nil
      refine El (ao Y Y X) (Ep ?_)
      refine ⟨rfl,?_⟩
      refine an (rem' := []) (i:=17) Z Y Y ?_ iB.nil
      (refine aw 0 Y Y Y ?_ Y ?_;omega)
      refine Ep ?_
      refine ⟨rfl,?_⟩
      refine aT Ej (SubM.refl _) iB.nil
      (refine aw 0 Y Y Y ?_ Y ?_;omega)
      refine Ep ?_
      refine ⟨rfl,?_⟩
      refine an (rem' := [16,17]) (i:=3) Z Y Y ?_ iB.nil
      refine Em Y (Ep ?_)
      refine ⟨rfl,?_⟩
      refine an (rem' := [17]) (i:=16) Z Y Y ?_ iB.nil
      refine El (ao Y Y X) (Ep ?_)
      refine ⟨rfl,?_⟩
      refine an (rem' := []) (i:=17) Z Y Y ?_ iB.nil
      (refine aw 0 Y Y Y ?_ Y ?_;omega)
      refine Ep ?_
      refine ⟨rfl,?_⟩
      refine aT Ej (SubM.refl _) iB.nil
     ·refine bL (rem' := [15,16,17]) (rem'' := [4,16,17]) (i:=4) (j:=15) Z Y Y Y Y ?_ ?_ iB.nil
      refine El (cg _ 1 Y Y X X) (Ep ?_)
      refine ⟨rfl,?_⟩
      refine an (rem' := [16,17]) (i:=15) Z Y Y ?_ iB.nil
      (refine aw 0 Y Y Y ?_ Y ?_;omega)
      refine Ep ?_
      refine ⟨rfl,?_⟩
      refine an (rem' := [17]) (i:=16) Z Y Y ?_ iB.nil
      refine El (ao Y Y X) (Ep ?_)
      refine ⟨rfl,?_⟩
      refine an (rem' := []) (i:=17) Z Y Y ?_ iB.nil
      (refine aw 0 Y Y Y ?_ Y ?_;omega)
      refine Ep ?_
      refine ⟨rfl,?_⟩
      refine aT Ej (SubM.refl _) iB.nil
      (refine aw 0 Y Y Y ?_ Y ?_;omega)
      refine Ep ?_
      refine ⟨rfl,?_⟩
      refine an (rem' := [16,17]) (i:=4) Z Y Y ?_ iB.nil
      refine El (cg _ 1 Y Y X X) (Ep ?_)
      refine ⟨rfl,?_⟩
      refine an (rem' := [17]) (i:=16) Z Y Y ?_ iB.nil
      refine El (ao Y Y X) (Ep ?_)
      refine ⟨rfl,?_⟩
      refine an (rem' := []) (i:=17) Z Y Y ?_ iB.nil
      (refine aw 0 Y Y Y ?_ Y ?_;omega)
      refine Ep ?_
      refine ⟨rfl,?_⟩
      refine aT Ej (SubM.refl _) iB.nil
     ·refine an (rem' := [16,17]) (i:=15) Z Y Y ?_ iB.nil
      (refine aw 0 Y Y Y ?_ Y ?_;omega)
      refine Ep ?_
      refine ⟨rfl,?_⟩
      refine an (rem' := [17]) (i:=16) Z Y Y ?_ iB.nil
      refine El (ao Y Y X) (Ep ?_)
      refine ⟨rfl,?_⟩
      refine an (rem' := []) (i:=17) Z Y Y ?_ iB.nil
      (refine aw 0 Y Y Y ?_ Y ?_;omega)
      refine Ep ?_
      refine ⟨rfl,?_⟩
      refine aT Ej (SubM.refl _) iB.nil
    ·refine aD (aa (ai (Em Y (El (cg _ 1 Y Y X X) (En Y (Ep ?_))))))
     refine aR ((j,iF j h)) (⟨by omega,hin.swp X,hI⟩) X Eh (.keep (zJ) (.nil))
   ·rw [if_neg hlt2] at hI
    have hcc : ¬ cV (h j) (h (j+1))<0:=by unfold cV;split <;> (try split) <;> omega
    generalize cV (h j) (h (j+1))=cc at *
    subst hI
    refine ae (ae (a8 17 a4 Z S (Em Y (Em Y (El (sT X (db Y Y)) (Em Y (Eo (ab Y) (Eo (ab Y) (Eo (ab Y) ?_)))))))))
    refine Eo (ao Y Y X) (Eo (be 0 Y Y X) (Eo (ab Y) (Eo (ab Y) (Eo (cg _ 1 Y Y X X) (Eo (ao Y Y X) (Eo (be 0 Y Y X) ?_))))))
    refine Eo (lg hcl Y Y ⟨H,H,Er⟩) ?_
    refine Eo (sF (by assumption) (a7 Y Y)) (El (bp Y Y) (Ep (Ep (aa (aB Y (aX (av (av (aE ?_)))))))))
    refine aD (aa (ai (Em Y (El (bI _ 1 Y Y X) (En Y (Ep ?_))))))
    refine aR (t+1) X X Eh (.keep Ek (.nil))
 ·refine ae (ae (ai (Em Y (Em Y (El (sF X (a7 Y Y)) (Ep (aa (aB Y (aX ?_)))))))))
  refine av (av (aE (i6 ?_)))
  exact ln (σ:=Unit) (ψ:=fun _=>bv []) () Tryz.results169 H (.keep (bg fun q hq=>by rw [show t+1=n by omega]) .nil)
end Tor
end
section
namespace Tor
open Go Go.RowKit Go.Proofs
theorem Bw:VT.le (one (.slice none 0 0)) (one (slV none 0 0)):=VT.le_refl _
attribute [local irreducible] J PJ aJ one slT bQ bC bv exT bZ eP aP aI slV VT.le Ret bJ
attribute [local irreducible] aL
theorem xi (x:Nat) (hx:x<256):Ok Tryz.prog 177 [one (.int .u64 (x:Nat))] (one (.int .i64 (gh x))):=by
 have k2:gh x≤8:=j8 (n:=8) X S
 refine Ok.enter Tryz.func177 Y Tryz.ntmps177 Y (fun w O => ?_)
 refine ae (ai (En Y (Ep (aa (ae (ae (ai (Em Y (El (sF X (fh Y Y)) ?_)))))))))
 refine Ep (aa (aB Y (az (aa (ae (ae (ai (Em Y (El (sF X (fh Y Y)) ?_)))))))))
 refine Ep (aa (aB Y (az (aa (ae (ae (ai (Em Y (El (sF X (fh Y Y)) ?_)))))))))
 refine Ep (aa (aB Y (az (aa (ae (ai (Em Y (Em Y (El (ll Y X X) ?_)))))))))
 refine El (gP Z Y Y (oe U X)) (El (dG Y X X) (El (ci Y Y (aO X X)) (En Y (Ep (aa (aF ?_))))))
 refine aV Tryz.results177 (.tmp Y (aq (by congr 1;omega)))
theorem Bx (x:Nat) (hx:x<256):Ok Tryz.prog 155 [one (.int .u64 (x:Nat))] (one (.int .i64 (gh x))):=by
 have h:=xi x hx
 refine Ok.enter Tryz.func155 Y Tryz.ntmps155 Y (fun w O => ?_)
 refine ae (ai (En Y (Ep (aa (ae (aB Y (az (aa (ae ?_)))))))))
 refine ai (Em Y ?_)
 refine El (am (h) Y ⟨H,Er⟩) ?_
 refine En Y (Ep (aa (aF ?_)))
 refine aV Tryz.results155 (.tmp Y H)
theorem Dg (sv:Option Nat) (cap n:Nat) (lim:Int) (g:Nat→Int) (cl:VT) (hn:n≤12) (hC : ∀ x y,(∃ i,i<n∧x=g i)→(∃ i,i<n∧y=g i)→fo Tryz.prog cl [aL x,aL y] (one (.int .i64 (cV y x)))) :
  OkI Tryz.prog 154 [one (slV sv n cap),one (.int .i64 0),one (.int .i64 (n:Nat)),one (.int .i64 lim),cl] [aI sv 37 (.agg 2) cap n (fun q=>aL (g q))]
   (fun _:Unit=>bv []) (fun _ => [aI sv 37 (.agg 2) cap n (fun q=>aL (dI n g q))]):=by
 have hi:=rk sv cap n g cl X hC
 refine OkI.enter Tryz.func154 Y Tryz.ntmps154 Y (fun w O => ?_)
 refine ae (ai (En Y (Ep (aa (ae (ai (En Y (Ep (aa ?_)))))))))
 refine au ?_
 refine xX 0 ?_
 refine au (ae (ai (Em Y (Em Y (El (cg _ 0 Y Y X X) (En Y (Ep (aa (ae ?_)))))))))
 refine ae (ai (Em Y (El (sT X (m5 Y Y)) (Ep (aa (aH Y (ae (ai (Em Y ?_)))))))))
 refine Em Y (Em Y (Em Y ?_))
 refine gw (Kp := []) hi Y ⟨H,H,H,H,Er⟩ (List.Perm.refl _) Y Y (fun _ => ?_)
 refine Ep (aa (aF (aU (bK (aU (bK ?_))))))
 exact ln (σ:=Unit) (ψ:=fun _=>bv []) () Tryz.results154 H (SubM.refl _)
theorem s8 (sv:Option Nat) (cap n:Nat) (g:Nat→Int) (cl:VT) (hn:n≤12) (hC : ∀ x y,(∃ i,i<n∧x=g i)→(∃ i,i<n∧y=g i)→fo Tryz.prog cl [aL x,aL y] (one (.int .i64 (cV y x)))) :
  OkI Tryz.prog 131 [one (slV sv n cap),cl] [aI sv 37 (.agg 2) cap n (fun q=>aL (g q))]
   (fun _:Unit=>bv []) (fun _ => [aI sv 37 (.agg 2) cap n (fun q=>aL (dI n g q))]):=by
 have hp:=fun lim=>Dg sv cap n lim g cl hn hC
 have hL:=Bx n X
 refine OkI.enter Tryz.func131 Y Tryz.ntmps131 Y (fun w O => ?_)
 refine ae (ai (Em Y (El (cv Y) (En Y (Ep (aa (ai (Em Y (Em Y ?_)))))))))
 refine Em Y (El (bT Y X) ?_)
 refine El (am (hL) Y ⟨H,Er⟩) ?_
 refine Em Y ?_
 refine gw (Kp := []) (hp _) Y ⟨H,H,H,H,H,Er⟩ (List.Perm.refl _) Y Y (fun _ => ?_)
 refine Ep (i6 ?_)
 exact ln (σ:=Unit) (ψ:=fun _=>bv []) () Tryz.results131 H (SubM.refl _)
theorem xj (x y:Int):Ok Tryz.prog 132 [aL x,aL y] (one (.int .i64 (cV y x))):=by
 have h:=gz y x
 refine Ok.enter Tryz.func132 Y Tryz.ntmps132 Y (fun w O => ?_)
 refine ae (ai ?_)
 refine gL Y Y (ltN Y) (fun b2 => ?_)
 refine gL Y Y (ltN Y) (fun b3 => ?_)
 refine En Y (Ep (aa (ae (ai (El (ak 0 Y Y Y) (El (ak 1 Y Y Y) ?_))))))
 refine El (am (h) Y ⟨H,H,Er⟩) ?_
 refine En Y (Ep (aa (aF ?_)))
 refine aV Tryz.results132 (.tmp Y H)
theorem Dh {r c:Nat} {F:Nat→Nat→Int} : VT.le (slT (.agg 2) r (fun q=>aL (dI r (fun i=>(eS c (F i):Int)) q))) (slT (.agg 2) r (fun t=>aL (mI r c F t:Int))):=dZ fun q hq=>gN (by rw [p6 hq])
theorem uC (r c:Nat) (F:Nat→Nat→Int) (hr:r≤12) (hc:c≤1048576) (hF : ∀ i j,kH (F i j)):Ok Tryz.prog 85 [bP r c F] (slT (.agg 2) r (fun t=>aL (mI r c F t:Int))):=by
 have hd:=fun i=>CT c c (F i) (F i) hc hc (hF i) (hF i)
 have hd' : ∀ i,Ok Tryz.prog 130 [bA c (F i),bA c (F i)] (bv [aL (eS c (F i):Int),one (.int .i64 0)]):=fun i=>by
  have h:=hd i
  rw [if_pos Y,if_pos Y, ← vN] at h;exact h
 clear hd
 unfold bP bA at *
 refine Ok.enter Tryz.func85 Y Tryz.ntmps85 Y (fun w O => ?_)
 refine ae (ai ?_)
 refine aS Y Y (ltN Y) (fun b1 => ?_)
 refine En Y (Ep (aa (ae (ai (En Y (Ep (aa (ae (ae ?_)))))))))
 refine ai (El (aj Y) (El (ak 0 Y Y Y) (El (aW Y) (Em Y (Ep (aa (au ?_)))))))
 refine gn (ConvM.nilSl0 (T:=37) (L := .agg 2) (φ:=fun _=>bJ) _) ?_
 refine cp (Γ' := [(2,_),(3,_),(9,_),(10,_),(11,_)]) Eg (SubM.refl _) ?_
 refine bD (σ:=Nat × Option Nat × Nat) (Γk := [(2,_),(9,_),(10,_)]) Eg (fun s => [(11,one (.int .i64 (s.1:Nat))),(3,one (slV s.2.1 s.1 s.2.2))]) (fun s M0=>(M0.set 0 (aI s.2.1 37 (.agg 2) s.2.2 s.1 (fun q=>aL (eS c (F q):Int))))) (fun s=>s.1≤r) (fun s=>r - s.1) ((0,none,0)) (Nat.zero_le _) (by (repeat (first | exact dJ.nil | refine dJ.cons Y H ?_ | refine dJ.cons Y Bw ?_))) (.keep (bg (fun q hq=>absurd hq (Nat.not_lt_zero _))) (.keep Ek (.nil))) (fun s hs => ?_)
 refine bU (Γ' := [(11,_),(3,_),(2,_),(9,_),(10,_)]) (M' := [_,_]) Y Y ?_
 obtain ⟨i,sv,cap⟩:=s
 dsimp only at hs ⊢
 by_cases hi:i<r
 ·refine ae (ai (El (sT X (a7 Y Y)) (Ep (aa (ae (aH Y (az (aa (ae ?_)))))))))
  refine au (ae (ai (El (aC Y Y X) (El (aM Y) (En Y (Ep (aa (ae (ai ?_)))))))))
  refine Em Y (Em Y ?_)
  refine El (am (hd' _) Y ⟨H,H,Er⟩) ?_
  refine Em Y (El (ar Y Y) (El (ar Y Y) ?_))
  refine aG (T:=37) Y (ltN Y) (fun b6 => ?_)
  refine aA 0 Y Y Y Y Y (leN Y) Y (En Y (Ep (aa (ai (Em Y (El (ak 0 Y Y Y) (gm Y Y Y Y ?_)))))))
  (refine cW 1 Y Y Y (leN Y) ?_ ?_ Y (ltN Y) (fun sv24 cap24 => ?_);omega;omega)
  refine En Y (Ep (aD (aa (ai (El (bI _ 1 Y Y X) (Em Y (Ep ?_)))))))
  refine aR ((i+1,sv24,cap24)) (hi) X Eh (.drop (.keep (w6 (h:=fun q=>(eS c (F q):Int)) Y) (.keep Ek (.nil))))
 ·have he:i=r:=by omega
  subst he
  have hso:=s8 sv cap i (fun q=>(eS c (F q):Int)) (one (.func (.func 132) #[] #[])) hr (fun x y _ _=>fo.fn (xj x y))
  refine ae (ai (El (sF X (a7 Y Y)) (Ep (aa (ae (aB Y (aX (av (av ?_)))))))))
  refine aE (aa (ae (ai (Em Y ?_))))
  refine gw (Kp := [_]) hso Y ⟨H,H,Er⟩ (List.Perm.refl _) Y Y (fun _ => ?_)
  refine Ep (aa (ae (ai (Em Y (En Y (Ep (aa (aF (cq (t:=2) (i:=0) Y Y ?_)))))))))
  refine aV Tryz.results85 (.tmp Y (Dh))
theorem By (n:Nat) (g:Nat→Nat) (B:Nat) (hn:n≤1048576) (hB:1≤B) (hp:B^n<2^800) (hg : ∀ i,i<n→g i≤B):Ok Tryz.prog 84 [slT (.agg 2) n (fun t=>aL (g t:Int))] (aL (upN (prN n g):Int)):=by
 have h1:=jm 1 S S
 refine Ok.enter Tryz.func84 Y Tryz.ntmps84 Y (fun w O => ?_)
 refine ae (ai ?_)
 refine aG (T:=37) Y (ltN Y) (fun b2 => ?_)
 refine Ep (aa (ae (ai ?_)))
 refine El (am (h1) Y ⟨H,Er⟩) ?_
 refine aG (T:=37) Y (ltN Y) (fun b3 => ?_)
 refine aA 0 Y Y Y Y Y (leN Y) Y (Ep (aa (ae (ae (ai (Em Y (El (aW Y) (Em Y (Ep ?_)))))))))
 refine aa (au (cp (Γ' := [(2,_),(3,_),(9,_),(10,_),(11,_)]) Eg (SubM.refl _) ?_))
 refine bD (σ:=Nat) (Γk := [(2,_),(3,_),(9,_),(10,_)]) Eg (fun i => [(11,one (.int .i64 (i:Nat)))]) (fun i M0=>(M0.set 0 (aP b3 37 2 [(0, .agg 2,aL (prN i g:Int))]))) (fun i=>i≤n) (fun i=>n - i) (0) (Nat.zero_le _) Eh (.keep Ek (.keep Ek (.nil))) (fun i hi => ?_)
 refine bU (Γ' := [(11,_),(2,_),(3,_),(9,_),(10,_)]) (M' := [_,_]) Y Y ?_
 by_cases hi:i<n
 ·have hB8:=D1 hB hp X
  have hm:=eY (prN i g:Int) (g i:Int) (zv (zw (zx hB hp hg (Nat.le_of_lt hi)))) (zv (zw (Nat.lt_of_le_of_lt (hg i hi) hB8)))
  have hs:((prN (i+1) g:Nat):Int)=(prN i g:Int)*(g i:Int):=by rw [prN,Int.natCast_mul]
  refine ae (ai (El (sT X (a7 Y Y)) (Ep (aa (ae (aH Y (az (aa (ae ?_)))))))))
  refine au (ae (ai (El (aC Y Y X) (El (aM Y) ?_))))
  refine aG (T:=37) Y (ltN Y) (fun b5 => ?_)
  refine aA 0 Y Y Y Y Y (leN Y) Y (Ep (aa (ai (El (ak 1 Y Y Y) (El (ak 0 Y Y Y) ?_)))))
  refine El (am (hm) Y ⟨H,H,Er⟩) ?_
  refine aA 1 Y Y Y Y Y (leN Y) Y (Ep (aD (aa (ai (El (bI _ 1 Y Y X) (Em Y (Ep ?_)))))))
  refine aR (i+1) (hi) X Eh (.drop (.keep Ek (.keep Ek (.nil))))
 ·have he:i=n:=by omega
  subst he
  have ha:=zx hB hp hg (Nat.le_refl i)
  generalize prN i g=a at *
  have h2:=jM a
  have hs:=C8 a
  have hro:Ok Tryz.prog 101 [aL (a:Int)] (bv [aL (isq a:Int),one (.int .i64 0)]):=by
   by_cases h0:a=0
   ·subst h0;exact ss
   ·exact vy a (isq a) ha h0 h2.1 h2.2
  have hsm:bm (isq a:Int):=zv (Nat.le_trans hs (zw ha))
  have hm:=eY (isq a:Int) (isq a:Int) hsm hsm
  have hq:(isq a:Int)*(isq a:Int)=((isq a*isq a:Nat):Int):=(Int.natCast_mul _ _).symm
  have hc:=gz ((isq a:Int)*(isq a:Int)) (a:Int)
  have had:=j7 (isq a:Int) 1 hsm mr
  unfold upN
  by_cases hlt:isq a*isq a<a
  ·have hcc:cV ((isq a:Int)*(isq a:Int)) (a:Int)<0:=by rw [hq]; unfold cV;rw [if_pos X]; decide
   rw [if_pos hlt]
   generalize cV ((isq a:Int)*(isq a:Int)) (a:Int)=cc at *
   refine ae (ai (El (sF X (a7 Y Y)) (Ep (aa (ae (aB Y (aX (av (av ?_)))))))))
   refine aE (aa (ae (ai (El (ak 0 Y Y Y) ?_))))
   refine El (am (hro) Y ⟨H,Er⟩) ?_
   refine Em Y (El (ar Y Y) (El (ar Y Y) ?_))
   refine aG (T:=37) Y (ltN Y) (fun b6 => ?_)
   refine aA 0 Y Y Y Y Y (leN Y) Y (En Y (Ep (aa (ae (ae (a8 6 a4 Z S (El (ak 0 Y Y Y) (El (ak 0 Y Y Y) ?_))))))))
   refine El (am (hm) Y ⟨H,H,Er⟩) ?_
   refine El (ak 1 Y Y Y) ?_
   refine El (am (hc) Y ⟨H,H,Er⟩) ?_
   refine El (sT (by assumption) (a7 Y Y)) (Ep (Ep (aa (aH Y (a8 2 a4 Z S (El (ak 0 Y Y Y) ?_))))))
   refine El (am (h1) Y ⟨H,Er⟩) ?_
   refine Ep ?_
   refine El (am (had) Y ⟨H,H,Er⟩) ?_
   refine aA 0 Y Y Y Y Y (leN Y) Y (Ep (aa (ae (ai (El (ak 0 Y Y Y) (aA 2 Y Y Y Y Y (leN Y) Y (Ep (aa (aF ?_)))))))))
   refine aV Tryz.results84 (.cellB 2 Y Y Y (xa X))
  ·have hcc : ¬ cV ((isq a:Int)*(isq a:Int)) (a:Int)<0:=by
    rw [hq]; unfold cV;rw [if_neg X]; split <;> decide
   rw [if_neg hlt]
   generalize cV ((isq a:Int)*(isq a:Int)) (a:Int)=cc at *
   refine ae (ai (El (sF X (a7 Y Y)) (Ep (aa (ae (aB Y (aX (av (av ?_)))))))))
   refine aE (aa (ae (ai (El (ak 0 Y Y Y) ?_))))
   refine El (am (hro) Y ⟨H,Er⟩) ?_
   refine Em Y (El (ar Y Y) (El (ar Y Y) ?_))
   refine aG (T:=37) Y (ltN Y) (fun b6 => ?_)
   refine aA 0 Y Y Y Y Y (leN Y) Y (En Y (Ep (aa (ae (ae (a8 6 a4 Z S (El (ak 0 Y Y Y) (El (ak 0 Y Y Y) ?_))))))))
   refine El (am (hm) Y ⟨H,H,Er⟩) ?_
   refine El (ak 1 Y Y Y) ?_
   refine El (am (hc) Y ⟨H,H,Er⟩) ?_
   refine El (sF (by assumption) (a7 Y Y)) (Ep (Ep (aa (aB Y (az (aa (ae (ai (El (ak 0 Y Y Y) ?_)))))))))
   refine aA 2 Y Y Y Y Y (leN Y) Y (Ep (aa (aF ?_)))
   refine aV Tryz.results84 (.cellB 2 Y Y Y H)
end Tor
end
section
namespace Tor
open Go Go.RowKit Go.Proofs
attribute [local irreducible] J PJ aJ one slT bQ bC bv exT bZ eP aP aI slV VT.le Ret bJ
attribute [local irreducible] aL
theorem xk (r c:Nat) (F:Nat→Nat→Int) (k:Int) (hk:k≤0):Ok Tryz.prog 53 [bP r c F,one (.int .i64 k)] (aL 1):=by
 have h0:=jm 1 S S
 unfold bP
 refine Ok.enter Tryz.func53 Y Tryz.ntmps53 Y (fun w O => ?_)
 refine ae (ai ?_)
 refine aS Y Y (ltN Y) (fun b2 => ?_)
 refine aG (T:=37) Y (ltN Y) (fun b4 => ?_)
 refine Ep (aa (ae (au (ae (ai (Em Y (El (sT (by assumption) (m5 Y Y)) (En Y (Ep ?_)))))))))
 refine aa (aH Y (ae (ai ?_)))
 refine El (am (h0) Y ⟨H,Er⟩) ?_
 refine aA 0 Y Y Y Y Y (leN Y) Y (Ep (aa (aF (bK (aU ?_)))))
 refine aV Tryz.results53 (.cellB 0 Y Y Y H)
theorem zK (r c:Nat) (F:Nat→Nat→Int) (k B:Nat) (hr:r≤12) (hc:c≤1048576) (hk0:0<k) (hk:k≤r) (hF : ∀ i j,kH (F i j)) (hB:1≤B) (hn:B^r<2^800) (hl : ∀ i,i<r→eS c (F i)≤B) :
  Ok Tryz.prog 53 [bP r c F,one (.int .i64 (k:Nat))] (aL (upN (prN k (mI r c F)):Int)):=by
 have hle:=uC r c F hr hc hF
 have hro:=By k (mI r c F) B X hB (Nat.lt_of_le_of_lt (Nat.pow_le_pow_right hB hk) hn) (fun i hi=>vP hl X)
 unfold bP at *
 refine Ok.enter Tryz.func53 Y Tryz.ntmps53 Y (fun w O => ?_)
 refine ae (ai ?_)
 refine aS Y Y (ltN Y) (fun b2 => ?_)
 refine aG (T:=37) Y (ltN Y) (fun b4 => ?_)
 refine Ep (aa (ae (au (ae (ai (Em Y (El (sF X (m5 Y Y)) (En Y (Ep ?_)))))))))
 refine aa (aB Y (ae (ai (Em Y (El (aj Y) (El (ak 1 Y Y Y) (El (aW Y) (El (sF X (db Y Y)) (En Y ?_)))))))))
 refine Ep (aa (aB Y (az (aD (aa (ae (ai (El (aQ 1 Y Y) ?_))))))))
 refine El (am (hle) Y ⟨H,Er⟩) ?_
 refine Em Y ?_
 refine El (fT Y Y Y Y (fun _=>rfl) X X X X) ?_
 refine kK (t:=19) (ψ:=slT (.agg 2) k (fun t=>aL (mI r c F t:Int))) Y (cB X (fun q hq=>by rw [show Int.toNat 0+q=q by simp])) ?_
 refine El (am (hro) Y ⟨H,Er⟩) ?_
 refine aA 0 Y Y Y Y Y (leN Y) Y (Ep (aa (aF ?_)))
 refine aV Tryz.results53 (.cellB 0 Y Y Y H)
end Tor
end
