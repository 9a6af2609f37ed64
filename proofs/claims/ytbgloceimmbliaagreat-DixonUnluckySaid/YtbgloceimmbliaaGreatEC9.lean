/-
  Theorems that the proofs of laws of this seat rest on.
  No condition.
-/
import Derived.Test.YtbgloceimmbliaaGreatEC8
import Derived.ScopeJumps
set_option maxHeartbeats 20000000
set_option linter.unusedVariables false
set_option linter.unusedSimpArgs false
section
namespace Tor
open Go Go.RowKit Go.Proofs
abbrev U64:=Fin 18446744073709551616
def C8 (x:U64):Value := .int .u64 (x.val:Nat)
def dnL (c k:Nat):List U64:=(List.range k).map fun i=>⟨(c - 1 - i) % 18446744073709551616,Nat.mod_lt _ S⟩
theorem jV {c k:Nat} : dnL c (k+1)=dnL c k ++ [⟨(c - 1 - k) % 18446744073709551616,Nat.mod_lt _ S⟩]:=by simp [dnL,List.range_succ]
theorem Bv {c k:Nat} : (dnL c k).length=k:=by simp [dnL]
theorem oI {p:Nat→Bool} {c:Nat} (hc:c<18446744073709551616) : ∀ k,k≤c→(∀ y∈dnL c k,p y.val=false)→iR p c=iR p (c - k)
 | 0, _, _ => rfl
 | k + 1, hk, h => by
  rw [oI hc k X (fun y hy=>h y (by rw [jV]; exact List.mem_append.2 (.inl hy)))]
  have h1:=h ⟨(c - 1 - k) % 18446744073709551616,Nat.mod_lt _ S⟩ (by rw [jV]; exact List.mem_append.2 (.inr (List.mem_singleton.2 Y)))
  have h1:p ((c - 1 - k) % 18446744073709551616)=false:=h1
  rw [Nat.mod_eq_of_lt X] at h1
  rw [show c - k=(c - 1 - k)+1 by omega,iR,if_neg (by rw [h1]; simp),show c - (k+1)=c - 1 - k by omega]
attribute [local irreducible] J PJ aK one slT bR bC bv exT cj eP aT aI slV VT.le Ret bL
theorem zJ (n:Nat) (hn:n<18446744073709551616):OkY Tryz.prog 157 [bR .one (one (.int .u64 (n:Nat)))] C8 (fun xs=>xs=dnL (min n 2147483648) (min n 2147483648)) (fun pre => ∃ k,k<min n 2147483648∧pre=dnL (min n 2147483648) (k+1)) (min n 2147483648):=by
 refine OkY.enter Tryz.func157 Y Tryz.ntmps157 Y (fun w0 l J Jx B hA hAx hY h0 => ?_)
 refine ae (ai (El (aO Y) (El (u9 Y Y) (En Y (Ep (aa (au ?_)))))))
 obtain ⟨c,hc⟩ : ∃ c:Nat,c=min n 2147483648:=⟨_,rfl⟩
 have hcl:c<18446744073709551616:=by omega
 have hci:(min (n:Int) 2147483648)=(c:Int):=by omega
 rw [hci]
 rw [← hc] at hY ⊢
 refine DB [(0,one (.func (.yield l) #[] #[])),(3,one (.int .u64 (c:Nat)))] (.cons Y H (.cons Y H .nil)) (.cons (.cons .nil)) (fun w1 hw1 => ?_)
 refine cK (σ:=Nat × World) (fun s => [(0,one (.func (.yield l) #[] #[])),(3,one (.int .u64 ((c - s.1:Nat):Int)))]) (fun s => [yO s.2]) (fun s=>s.1≤c∧SameW w1 s.2∧J (dnL c s.1) s.2) (fun s=>c - s.1) (0,w1)
  ⟨Nat.zero_le _,SameW.refl _,pF hA h0 hw1⟩ (dI.refl _) (SubM.refl _) (fun s hs => ?_)
 obtain ⟨k,W⟩:=s
 obtain ⟨hk,hsw,hJ⟩:=hs
 dsimp only at hk hsw hJ ⊢
 by_cases hlt:k<c
 ·have hv:one (.int .u64 ((c - k - 1:Nat):Int))=one (C8 ⟨(c - 1 - k) % 18446744073709551616,Nat.mod_lt _ S⟩):=by
   have e:(c - 1 - k) % 18446744073709551616=c - k - 1:=by omega
   show _=one (.int .u64 (((c - 1 - k) % 18446744073709551616:Nat):Int))
   rw [e]
  refine ae (ae (ai ?_))
  refine Em Y (El (sT X (cW Y Y)) (Ep ?_))
  refine aa (aG Y (az (aa (ae (au (ae ?_))))))
  refine Cs (m:=3) ⟨(c - 1 - k) % 18446744073709551616,Nat.mod_lt _ S⟩ [(0,one (.func (.yield l) #[] #[])),(3,one (.int .u64 ((c - k:Nat):Int)))] hY hA hsw hJ (by rw [Bv]; exact hlt) Y Y (.cons (.cons .nil)) ?_ (fun W' hJ' hw' => ?_) (fun W' hx' => ?_)
  ·refine Em Y (Em Y (El (i9 1 Y Y X X) (Ep ?_)))
   exact ⟨rfl,rfl,rfl,congrArg some hv, .cons Y H (.cons Y H .nil)⟩
  ·rw [← jV] at hJ'
   refine El (cS Y) (Ep (aa (aB Y (az (aE (aa (ai (Em Y (El (i9 1 Y Y X X) ?_)))))))))
   refine En Y (Ep ?_)
   refine aP (k+1,W') ?_ ?_ ?_ (SubM.refl _)
   ·exact ⟨hlt,hw',hJ'⟩
   ·show c - (k+1)<c - k;omega
   ·exact .cons Y H (.cons Y (aq (by rw [Nat.sub_sub])) .nil)
  ·rw [← jV] at hx'
   refine El (cS Y) (Ep (aa (aG Y (aD (bI (aR (aR (bI ?_))))))))
   exact yo Y hAx hx' ⟨k,hlt,rfl⟩ (SameW.refl _)
 ·obtain rfl:k=c:=by omega
  refine ae (ae (ai (Em Y (El (sF X (cW Y Y)) (Ep (aa (aB Y (aY (av ?_)))))))))
  refine av (aF ?_)
  exact yn Y hA hJ Y hsw
theorem zK (n:Nat) (hn:n<18446744073709551616):Ok Tryz.prog 133 [i7 157 [bR .one (one (.int .u64 (n:Nat)))]] (one (.int .u64 (bf cD n:Nat))):=by
 refine Ok.enterR Tryz.func133 Y Tryz.ntmps133 Y (fun w O => ?_)
 refine ae (ai ?_)
 refine aH (T:=44) Y (ltN Y) (fun b2 => ?_)
 refine Ep (aa (ae (ae (ai (Em Y (Ep (aa (au ?_))))))))
 refine AF (α:=U64) (σ:=Nat) (zJ n hn) (fun v => [aT b2 44 1 [(0, .one,one (.int .u64 (v:Nat)))]]) (fun pre v=>v=0 ∧ ∀ x∈pre,cD x.val=false)
  (fun e pre v=>e=none ∧ ∃ init x,pre=init ++ [x]∧v=x.val∧cD x.val=true ∧ ∀ y∈init,cD y.val=false) 0 Y Y ⟨rfl,fun x h=>by cases h⟩ (SubM.refl _) Y Y (by simp [fW,gb])
  (fun l W pre x v hv hlen => ?_) (fun xs v D hxs hv => ?_) (fun pre v D hpre hv => ?_) (fun id pre v D hpre hv=>absurd hv.1 (by simp))
 ·obtain ⟨rfl,hv⟩:=hv
  have hx:=x.isLt
  unfold C8
  cases hp:cD x.val with
  | true =>
   refine au (ae (ai (Em Y ?_)))
   refine El (sBt (by assumption) (am (ke _ (by assumption)) Y ⟨H,Er⟩)) ?_
   refine Ep (aa (aG Y (ae (ai (Em Y (aA 0 Y Y Y Y Y (leN Y) Y (Ep (aa (aD ?_)))))))))
   refine bI ?_
   exact AG (x.val:Nat) ⟨rfl,pre,x,rfl,rfl,hp,hv⟩ (SubM.refl _)
  | false =>
   refine au (ae (ai (Em Y ?_)))
   refine El (sBf (by assumption) (am (ke _ (by assumption)) Y ⟨H,Er⟩)) ?_
   refine Ep (aa (aB Y (az (aE ?_))))
   exact nY 0 ⟨rfl,fun y hy=>by rcases List.mem_append.1 hy with h | h;exact hv y h;rw [List.mem_singleton.1 h]; exact hp⟩ (SubM.refl _)
 ·have hz:bf cD n=0:=by
   have:=oI (p:=cD) (c:=min n 2147483648) X (min n 2147483648) (Nat.le_refl _) (fun y hy=>hv.2 y (hxs▸hy))
   rw [Nat.sub_self] at this
   exact this
  refine aE (aa (ae (ai (aA 1 Y Y Y Y Y (leN Y) Y (Ep (aa (aD ?_)))))))
  rw [hz]
  refine nn ?_
  refine aS Tryz.results133 (.cellB 0 Y Y Y H)
 ·obtain ⟨k,hk,hpre⟩:=hpre
  obtain ⟨_,init,x,h1,rfl,h3,h4⟩:=hv
  have hz:bf cD n=x.val:=by
   rw [hpre,jV] at h1
   obtain ⟨e1,e2⟩:=List.append_inj' h1 Y
   have e2:(⟨(min n 2147483648 - 1 - k) % 18446744073709551616,Nat.mod_lt _ S⟩:U64)=x:=by simpa using e2
   have hb:=oI (p:=cD) (c:=min n 2147483648) X k X (fun y hy=>h4 y (e1▸hy))
   have e3:x.val=min n 2147483648 - 1 - k:=by rw [← e2]; show (min n 2147483648 - 1 - k) % 18446744073709551616=_;omega
   show iR cD (min n 2147483648)=_
   rw [hb,show min n 2147483648 - k=(min n 2147483648 - 1 - k)+1 by omega,iR,if_pos (by rw [← e3]; exact h3),e3]
  refine bI (aR ?_)
  rw [hz]
  refine nn ?_
  refine aS Tryz.results133 (.cellB 0 Y Y Y H)
theorem sX (n:Nat) (hn:n<18446744073709551616):Ok Tryz.prog 134 [one (.int .u64 (n:Nat))] (i7 157 [bR .one (one (.int .u64 (n:Nat)))]):=by
 refine Ok.enter Tryz.func134 Y Tryz.ntmps134 Y (fun w O => ?_)
 refine ae (ai ?_)
 refine gL Y Y (ltN Y) (fun b1 => ?_)
 refine En Y (Ep (aa (ae (ai (El (kE Y) (En Y (Ep (aa (aD ?_)))))))))
 refine i6 [aT b1 44 1 [(0, .one,one (.int .u64 (n:Nat)))]] (Kp := []) (Kp' := []) (List.Perm.refl _) (EntM.refl []) (wv.set (t:=2) Y (Ent.clo1 (Ent.ptr List.mem_cons_self List.mem_cons_self))) ?_
 refine aS Tryz.results134 (.tmp Y H)
theorem mE (n:Nat) (hn:n<18446744073709551616):Ok Tryz.prog 89 [one (.int .u64 (n:Nat))] (one (.int .u64 (bf cD n:Nat))):=by
 refine Ok.enter Tryz.func89 Y Tryz.ntmps89 Y (fun w O => ?_)
 have h1:=sX n hn
 have h2:=zK n hn
 refine ae (ai (En Y (Ep (aa (ae (ai (Em Y ?_)))))))
 refine El (am (h1) Y ⟨H,Er⟩) ?_
 refine El (am (h2) Y ⟨H,Er⟩) ?_
 refine En Y (Ep (aa (aD ?_)))
 refine aS Tryz.results89 (.tmp Y H)
end Tor
end
section
namespace Tor
open Go Go.RowKit Go.Proofs
def sY (p n:Nat) (F:Nat→Nat→Int) (R:Nat→Nat→Nat):Prop:=(∀ i j,i<n→j<n→R i j<p) ∧ ∀ i j,i<n→j<n→(p:Int)∣bA n (fun t=>(R i t:Int)*F t j) - (if i=j then 1 else 0)
def DZ (p n:Nat) (F:Nat→Nat→Int):VT:=exT fun R:Nat→Nat→Nat=>cj (sY p n F R) (slT .one n (fun i=>jg n (R i)))
theorem zL {p n:Nat} {F:Nat→Nat→Int} (hp:1<p):EchI p n F 0 (m9 p (fC n F)):=by
 refine EchI.start X (fun i j hi hj => ?_) (fun i t hi ht => ?_) hp
 ·unfold m9 fC
  rw [if_pos hj,Int.toNat_of_nonneg (Int.emod_nonneg _ X)]
 ·unfold m9 fC
  rw [if_neg X,show n+t - n=t by omega]
  by_cases e:i=t
  ·rw [if_pos e,if_pos e,Int.emod_eq_of_lt S X]; rfl
  ·rw [if_neg e,if_neg e]; simp
theorem zM {p n:Nat} {F:Nat→Nat→Int} {W:Nat→Nat→Nat} (h:EchI p n F n W):sY p n F (fun i j=>W i (n+j)) :=
 ⟨fun i j hi hj=>h.lt i (n+j) hi X,h.done⟩
def eI (p n:Nat) (R:Nat→Nat→Nat) (r:Nat→Int):Nat→Nat→Nat
 | 0, _ => 0
 | i + 1, j => (eI p n R r i j + (r i % (p : Int)).toNat * R i j % p) % p
theorem jh {p n:Nat} {R:Nat→Nat→Nat} {r:Nat→Int} (hp:2≤p) : ∀ i j,eI p n R r i j<p
 | 0, _ => by show 0 < p; omega
 | i + 1, j => Nat.mod_lt _ X
theorem zN {bz n i:Nat} {W:Nat→Nat→Nat} : Own.le (aI (some bz) 173 .one n n (upd (fun q=>if q<i then jg n (fun j=>W q (n+j)) else bL) i (slT .one (((n+n:Nat):Int) - (n:Int)).toNat (fun j=>one (.int .u64 (W i (Int.toNat (n:Int)+j):Nat)))))) (aI (some bz) 173 .one n n (fun q=>if q<i+1 then jg n (fun j=>W q (n+j)) else bL)):=bh fun q _=>by
 unfold upd
 by_cases h:q=i
 ·subst h;rw [if_pos Y,if_pos (Nat.lt_succ_self q),show (((n+n:Nat):Int) - (n:Int)).toNat=n by omega,show Int.toNat (n:Int)=n from rfl]
 ·rw [if_neg h]
  dsimp only
  by_cases h2:q<i
  ·rw [if_pos h2,if_pos X]
  ·rw [if_neg h2,if_neg X]
theorem oJ {sv:Option Nat} {T:TypeId} {L:Lay} {cap n t:Nat} {G:Nat→VT} : Own.le (aI sv T L cap n (upd (fun q=>if q<t then G q else bL) t (G t))) (aI sv T L cap n (fun q=>if q<t+1 then G q else bL)):=bh fun q _=>by
 unfold upd
 by_cases h:q=t
 ·subst h;rw [if_pos Y,if_pos (Nat.lt_succ_self q)]
 ·rw [if_neg h]
  dsimp only
  by_cases h2:q<t
  ·rw [if_pos h2,if_pos X]
  ·rw [if_neg h2,if_neg X]
attribute [local irreducible] J PJ aK one slT bR bC bv exT cj eP aT aI slV VT.le Ret bL
attribute [local irreducible] aL
theorem l4 (r c k:Nat) (F:Nat→Nat→Int) (f:Nat→Int):Ok Tryz.prog 49 [bW r c F,bJ k f] (one (.bool (decide (r=c∧k=c)))):=by
 have hv:=fB r c F
 unfold bW bJ at *
 refine Ok.enter Tryz.func49 Y Tryz.ntmps49 Y (fun w O => ?_)
 by_cases h1:r=c
 ·by_cases h2:k=c
  ·rw [decide_eq_true ⟨h1,h2⟩]
   refine ae (ai ?_)
   refine aV Y Y (ltN Y) (fun b2 => ?_)
   refine En Y (Ep (aa (ae (ai (El (aN 0 Y Y) ?_)))))
   refine El (am (hv) Y ⟨H,Er⟩) ?_
   refine Em Y (Eo (aj Y) (Eo (ak 0 Y Y Y) (Eo (aj Y) (Eo (ak 0 Y Y Y) (Eo (sT X (cg Y Y)) (El (bk Y Y) (Em Y (Eo (ab Y) (Eo (aX Y) ?_)))))))))
   refine Eo (aj Y) (Eo (ak 0 Y Y Y) (Eo (sT X (cg Y Y)) (El (bk Y Y) (En Y (Ep (aa (aD ?_)))))))
   refine aS Tryz.results49 (.tmp Y H)
  ·rw [decide_eq_false (fun h=>h2 h.2)]
   refine ae (ai ?_)
   refine aV Y Y (ltN Y) (fun b2 => ?_)
   refine En Y (Ep (aa (ae (ai (El (aN 0 Y Y) ?_)))))
   refine El (am (hv) Y ⟨H,Er⟩) ?_
   refine Em Y (Eo (aj Y) (Eo (ak 0 Y Y Y) (Eo (aj Y) (Eo (ak 0 Y Y Y) (Eo (sT X (cg Y Y)) (El (bk Y Y) (Em Y (Eo (ab Y) (Eo (aX Y) ?_)))))))))
   refine Eo (aj Y) (Eo (ak 0 Y Y Y) (Eo (sF X (cg Y Y)) (El (bk Y Y) (En Y (Ep (aa (aD ?_)))))))
   refine aS Tryz.results49 (.tmp Y H)
 ·rw [decide_eq_false (fun h=>h1 h.1)]
  refine ae (ai ?_)
  refine aV Y Y (ltN Y) (fun b2 => ?_)
  refine En Y (Ep (aa (ae (ai (El (aN 0 Y Y) ?_)))))
  refine El (am (hv) Y ⟨H,Er⟩) ?_
  refine Em Y (Eo (aj Y) (Eo (ak 0 Y Y Y) (Eo (aj Y) (Eo (ak 0 Y Y Y) (Eo (sF X (cg Y Y)) (El (bk Y Y) (Em Y (sn0 Y Y Y Y Y (sn0 Y Y Y Y Y ?_)))))))))
  refine sn0 Y Y Y Y Y (sn0 Y Y Y Y Y (sn0 Y Y Y Y Y (El (bE Y Y) (En Y (Ep (aa (aD ?_)))))))
  refine aS Tryz.results49 (.tmp Y H)
theorem uH (p n:Nat) (F:Nat→Nat→Int) (hpb:cD p=true) (hp2:2≤p) (hp:p<2147483648) (hinv:uw p) (hF:uy p n F) (hn:n≤1024) (hs : ∀ i j,bm (F i j)) :
  Ok Tryz.prog 92 [bW n n F,one (.int .u64 (p:Nat))] (DZ p n F):=by
 have hid:=sJ n X
 have hbe:Ok Tryz.prog 136 [bW n n F,bW n n (fun i j=>if i=j then 1 else 0)] (bv [bW n (n+n) (fC n F),one (.int .i64 0)]):=by
  have h:=wZ n n F n n (fun i j=>if i=j then 1 else 0) X X X hs (fun i j=>by split;exact kc;exact kQ)
  rw [decide_eq_true Y] at h
  unfold sK at h
  rw [if_pos Y,if_pos Y,if_pos Y] at h
  exact h
 have hre:=sO p n (n+n) (fC n F) hpb X hp X X (fun i j=>by
  unfold fC;split
  ·exact hs _ _
  ·split
   ·exact kc
   ·exact kQ)
 have hrr:=(Bm p n F (m9 p (fC n F)) hpb hp2 hp hinv hF hn (zL X)).toM
 unfold bW at *
 refine Ok.enter Tryz.func92 Y Tryz.ntmps92 Y (fun w O => ?_)
 refine ae (ai ?_)
 refine aV Y Y (ltN Y) (fun b2 => ?_)
 refine En Y (Ep (aa (ae (ai (El (aj Y) (El (ak 0 Y Y Y) (En Y (Ep (aa ?_)))))))))
 refine ae ?_
 refine eG aZ Z Z ?_
 refine ux (fun B=>aN 0 Y Y) Y Y ?_
 refine ux (fun B=>ab Y) Y Y ?_
 refine uxk (hid) Y ⟨H,Er⟩ Y ?_
 refine uxk (hbe) Y ⟨H,H,Er⟩ Y ?_
 refine ux (fun B=>ab Y) Y Y ?_
 refine ux (fun B=>ar Y Y) Y Y ?_
 refine ux (fun B=>ar Y Y) Y Y ?_
 refine ua Y (us Y ?_)
 refine ux (fun B=>ah Y) Y Y ?_
 refine RunU.nil (fun γ => ?_)
 refine cU (M' := [_,_]) Y (iz (dI.refl _) (.keep jK (SubM.refl _)) (aa (ae (ai (Em Y (El (aN 0 Y Y) ?_))))))
 refine El (am (hre) Y ⟨H,H,Er⟩) ?_
 refine gw (hrr) Y ⟨H,Er⟩ Y Y (fun s25 => ?_)
 refine Em Y (El (ar Y Y) (El (ar Y Y) ?_))
 refine bD (T:=169) Y Y Y (fun b8 => ?_)
 refine a4 0 Y Y Y Y (En Y (Ep (aa (ae (ai (Em Y ?_))))))
 refine bV n n Y Y Y Y (Nat.le_refl _) Y Y X Y Y (fun bz => ?_)
 refine En Y (Ep (aa (ae (ae (ai (Em Y (El (cw Y) (Em Y (Ep ?_)))))))))
 refine aa (au ?_)
 obtain ⟨W,hI⟩:=s25
 dsimp only
 refine co (Γ' := [(4,_),(5,_),(8,_),(10,_),(31,_),(32,_)]) Eg (SubM.refl _) ?_
 refine bB (σ:=Nat) (Γk := [(4,_),(5,_),(8,_),(10,_),(31,_)]) Eg (fun i => [(32,one (.int .i64 (i:Nat)))]) (fun i M0=>(M0.set 0 (aI (some bz) 173 .one n n (fun q=>if q<i then jg n (fun j=>W q (n+j)) else bL)))) (fun i=>i≤n) (fun i=>n - i) (0) (Nat.zero_le _) Eh (.keep (ed fun q hq=>by rw [if_neg (Nat.not_lt_zero q)]; exact jN _) (.keep Ek (.keep Ek (.keep Ek (.nil))))) (fun i hi => ?_)
 refine bQ (Γ' := [(32,_),(4,_),(5,_),(8,_),(10,_),(31,_)]) (M' := [_,_,_,_]) Y Y ?_
 by_cases hi2:i<n
 ·refine ae (ai (El (sT X (a6 Y Y)) (Ep (aa (ae (aG Y (az (aa (ae ?_)))))))))
  refine au (ae (ai (Em Y (En Y (Ep (aa (ai (Em Y (Em Y ?_)))))))))
  refine El (aj Y) (El (ak 1 Y Y Y) (Em Y (El (aC Y Y X) (El (aO Y) (Em Y ?_)))))
  refine El (gq Y Y Y Y (fun h=>nomatch h) X X X X) ?_
  refine El (ao Y Y X) ?_
  (refine aw 0 Y Y Y ?_ Y ?_;omega)
  refine Ep (aE (aa (ai (El (bK _ 1 Y Y X) (Em Y (Ep ?_))))))
  refine aP (i+1) X X Eh (.keep (zN) (.keep Ek (.keep Ek (.keep Ek (.nil)))))
 ·have hin:i=n:=by omega
  subst hin
  refine ae (ai (El (sF X (a6 Y Y)) (Ep (aa (ae (aB Y (aY (av (av ?_)))))))))
  refine aF (aa (ae (ai (Em Y (En Y (Ep (aa (aD ?_))))))))
  refine iz (dI.refl _) (.keep (bh (ψ:=fun q=>jg i (fun j=>W q (i+j))) (fun q hq=>by rw [if_pos hq])) (SubM.refl _)) ?_
  refine cq (t:=4) (i:=0) Y Y ?_
  refine aS Tryz.results92 (.tmp Y (nN (fun a b=>W a (i+b)) (lg (zM hI) H)))
theorem uI (p n:Nat) (R:Nat→Nat→Nat) (r:Nat→Int) (hp2:2≤p) (hp:p<2147483648) (hR : ∀ i j,i<n→j<n→R i j<p) (hn:n≤1024) (hs : ∀ i,bm (r i)) :
  Ok Tryz.prog 93 [bJ n r,slT .one n (fun i=>jg n (R i)),one (.int .u64 (p:Nat))] (bJ n (fun j=>(eI p n R r n j:Int))):=by
 unfold bJ
 refine Ok.enter Tryz.func93 Y Tryz.ntmps93 Y (fun w O => ?_)
 refine ae (ai (En Y (Ep (aa (ae (ai (Em Y (El (aX Y) ?_))))))))
 refine bV n n Y Y Y Y (Nat.le_refl _) Y Y X Y Y (fun bs => ?_)
 refine En Y (Ep (aa (ae (ae (ai (Em Y (El (aX Y) (Em Y (Ep ?_)))))))))
 refine aa (au (co (Γ' := [(0,_),(1,_),(2,_),(6,_),(7,_),(19,_),(20,_),(21,_)]) Eg (SubM.refl _) ?_))
 refine bB (σ:=Nat) (Γk := [(0,_),(1,_),(2,_),(6,_),(7,_),(19,_),(20,_)]) Eg (fun i => [(21,one (.int .i64 (i:Nat)))]) (fun i M0=>(M0.set 0 (aI (some bs) 44 .one n n (fun j=>one (.int .u64 (eI p n R r i j:Nat)))))) (fun i=>i≤n) (fun i=>n - i) (0) (Nat.zero_le _) Eh (.keep Ek (.nil)) (fun i hi => ?_)
 refine bQ (Γ' := [(21,_),(0,_),(1,_),(2,_),(6,_),(7,_),(19,_),(20,_)]) (M' := [_]) Y Y ?_
 by_cases hi2:i<n
 ·have hre:=ia p (r i) X X (hs i)
  have hk:(r i % (p:Int)).toNat<p:=by
   have:=Int.emod_nonneg (r i) (show (p:Int)≠0 by omega)
   have:=Int.emod_lt_of_pos (r i) (show 0<(p:Int) by omega)
   omega
  generalize hkk:(r i % (p:Int)).toNat=k at *
  refine ae (ai (El (sT X (a6 Y Y)) (Ep (aa (ae (aG Y (az (aa (ae ?_)))))))))
  refine au (ae (ai (Em Y (El (aC Y Y X) (El (aO Y) ?_)))))
  refine aH (T:=37) Y (ltN Y) (fun b9 => ?_)
  refine En Y (aA 0 Y Y Y Y Y (leN Y) Y (Ep (aa (ae (ai (Em Y (El (ak 0 Y Y Y) ?_)))))))
  refine El (am (hre) Y ⟨H,H,Er⟩) ?_
  refine En Y (Ep (aa (ae (ai (Em Y (Em Y (El (aC Y Y X) (El (aO Y) (El (aX Y) ?_)))))))))
  refine Em Y (Ep (aa (au (co (Γ' := [(0,_),(1,_),(2,_),(6,_),(7,_),(10,_),(19,_),(20,_),(21,_),(32,_),(33,_),(34,_)]) Eg (SubM.refl _) ?_))))
  refine bB (σ:=Nat) (Γk := [(0,_),(1,_),(2,_),(6,_),(7,_),(10,_),(19,_),(20,_),(21,_),(32,_),(33,_)]) Eg (fun j => [(34,one (.int .i64 (j:Nat)))]) (fun j M0=>(M0.set 1 (aI (some bs) 44 .one n n (fun q=>one (.int .u64 ((if q<j then (eI p n R r i q+k*R i q % p) % p else eI p n R r i q:Nat))))))) (fun j=>j≤n) (fun j=>n - j) (0) (Nat.zero_le _) Eh (.keep Ek (.keep Ek (.nil))) (fun j hj => ?_)
  refine bQ (Γ' := [(34,_),(0,_),(1,_),(2,_),(6,_),(7,_),(10,_),(19,_),(20,_),(21,_),(32,_),(33,_)]) (M' := [_,_]) Y Y ?_
  by_cases hjn:j<n
  ·have h1:=hR i j hi2 hjn
   have h2:eI p n R r i j<p:=jh hp2 i j
   have h3:k*R i j % p<p:=Nat.mod_lt _ X
   have hm:=it p k (R i j) X X X X
   have ha:=vM p (eI p n R r i j) (k*R i j % p) X X X X
   refine ae (ai (El (sT X (a6 Y Y)) (Ep (aa (ae (aG Y (az (aa (ae ?_)))))))))
   refine au (ae (ai (Em Y (El (aC Y Y X) (El (aO Y) (En Y (En Y (Ep (aa ?_)))))))))
   refine a7 12 aZ Z S (Em Y (Em Y (Em Y (Em Y (Em Y (El (ao Y Y X) (El (bg 1 Y Y X) (Em Y (Em Y ?_)))))))))
   refine Em Y ?_
   refine El (am (hm) Y ⟨H,H,H,Er⟩) ?_
   refine El (am (ha) Y ⟨H,(aq (by rw [if_neg (Nat.lt_irrefl j)])),H,Er⟩) ?_
   refine Ep (El (ao Y Y X) ?_)
   (refine aw 1 Y Y Y ?_ Y ?_;omega)
   refine Ep (aE (aa (ai (El (bK _ 1 Y Y X) (Em Y (Ep ?_))))))
   refine aP (j+1) X X Eh (.keep Ek (.keep (my (G:=fun q=>(eI p n R r i q+k*R i q % p) % p) (Ef:=fun q=>eI p n R r i q)) (.nil)))
  ·have hjn2:j=n:=by omega
   refine ae (ai (El (sF X (a6 Y Y)) (Ep (aa (ae (aB Y (aY (av (av ?_)))))))))
   refine aF (aE (aa (ai (El (bK _ 1 Y Y X) (Em Y (Ep ?_))))))
   refine aP (i+1) X X Eh (.drop (.keep (bh (fun q hq=>by rw [if_pos X, ← hkk]; rfl)) (.nil)))
 ·have hin:i=n:=by omega
  subst hin
  refine ae (ai (El (sF X (a6 Y Y)) (Ep (aa (ae (aB Y (aY (av (av ?_)))))))))
  refine aF (aa (ae (ai (Em Y (El (aX Y) ?_)))))
  refine bV i i Y Y Y Y (Nat.le_refl _) Y Y X Y Y (fun bd => ?_)
  refine En Y (Ep (aa (ae (ae (ai (Em Y (El (cw Y) (Em Y (Ep ?_)))))))))
  refine aa (au (co (Γ' := [(6,_),(13,_),(57,_),(58,_),(59,_)]) Eg (SubM.refl _) ?_))
  refine bB (σ:=Nat) (Γk := [(6,_),(13,_),(57,_),(58,_)]) Eg (fun t => [(59,one (.int .i64 (t:Nat)))]) (fun t M0=>(M0.set 0 (aI (some bd) 37 (.agg 2) i i (fun q=>if q<t then aL (eI p i R r i q:Int) else bL)))) (fun t=>t≤i) (fun t=>i - t) (0) (Nat.zero_le _) Eh (.keep (ed fun q hq=>by rw [if_neg (Nat.not_lt_zero q)]; exact jN _) (.keep Ek (.nil))) (fun t ht => ?_)
  refine bQ (Γ' := [(59,_),(6,_),(13,_),(57,_),(58,_)]) (M' := [_,_]) Y Y ?_
  by_cases hti:t<i
  ·have h2:eI p i R r i t<p:=jh hp2 i t
   have ho:=js (eI p i R r i t:Int) X X
   refine ae (ai (El (sT X (a6 Y Y)) (Ep (aa (ae (aG Y (az (aa (ae ?_)))))))))
   refine au (ae (ai (Em Y (El (ao Y Y X) (El (bg 1 Y Y X) (En Y (En Y (Ep (aa ?_)))))))))
   refine ai (Em Y (Em Y (Em Y (El (dZ Y X X) ?_))))
   refine El (am (ho) Y ⟨H,Er⟩) ?_
   refine El (ao Y Y X) ?_
   (refine aw 0 Y Y Y ?_ Y ?_;omega)
   refine Ep (aE (aa (ai (El (bK _ 1 Y Y X) (Em Y (Ep ?_))))))
   refine aP (t+1) X X Eh (.keep (oJ (G:=fun q=>aL (eI p i R r i q:Int))) (.keep Ek (.nil)))
  ·refine ae (ai (El (sF X (a6 Y Y)) (Ep (aa (ae (aB Y (aY (av (av ?_)))))))))
   refine aF (aa (ae (ai (Em Y (En Y (Ep (aa (aD ?_))))))))
   refine iz (dI.refl _) (.keep (bh (ψ:=fun q=>aL (eI p i R r i q:Int)) (fun q hq=>by rw [if_pos X])) (SubM.refl _)) ?_
   refine cq (t:=6) (i:=0) Y Y ?_
   refine aS Tryz.results93 (.tmp Y H)
theorem xn (d:Int) (p:Nat) (hd:bm d) (hp:bf cD 2147483648=p) (hp0:0<p) (hp':p<2147483648) (h:d % (p:Int)≠0):Ok Tryz.prog 56 [aL d] (one (.int .u64 (p:Nat))):=by
 have hb:=mE 2147483648 S
 rw [hp] at hb
 have hr:=ia p d hp0 X hd
 have hz:(d % (p:Int)).toNat≠0:=by
  have:=Int.emod_nonneg d (show (p:Int)≠0 by omega)
  omega
 generalize (d % (p:Int)).toNat=k at *
 refine Ok.enter Tryz.func56 Y Tryz.ntmps56 Y (fun w O => ?_)
 refine ae (ai ?_)
 refine gL Y Y (ltN Y) (fun b1 => ?_)
 refine En Y (Ep (aa (im (ae (ai ?_)))))
 refine El (am (hb) Y ⟨H,Er⟩) ?_
 refine En Y (Ep (aa (ae (jZ (aa (ae (ae (ai (Em Y ?_)))))))))
 refine El (ak 0 Y Y Y) ?_
 refine El (am (hr) Y ⟨H,H,Er⟩) ?_
 refine El (sF X (cg Y Y)) (Em Y (sn0 Y Y Y Y Y (sn0 Y Y Y Y Y (El (bE Y Y) (Ep (aa (aB Y (az (aa ?_)))))))))
 refine ae (ai (Em Y (En Y (Ep (aa (aD (ee ?_)))))))
 refine aS Tryz.results56 (.tmp Y H)
end Tor
end
section
namespace Tor
open Go Go.RowKit Go.Proofs
theorem rm (l:List Int) (n:Nat):(dig l n).natAbs≤9:=by
 unfold dig;rw [Int.natAbs_tmod]
 show (l.getD n 0).natAbs % 10≤9
 omega
theorem C9 (l:List Int) (n:Nat):lz 1 (dig l n):=cx (k:=1) (by have:=rm l n;omega)
theorem oK {B:Nat} {f:Nat→Int} (h : ∀ k,(f k).natAbs≤B) : ∀ n,(bA n f).natAbs≤n*B
 | 0 => Nat.zero_le _
 | n + 1 => by
  have h1:=oK h n
  have h2:=h n
  rw [ki,Nat.succ_mul]
  omega
attribute [local irreducible] J PJ aK one slT bR bC bv exT cj eP aT aI slV VT.le Ret bL xO
attribute [local irreducible] aL bJ
theorem uJ (r c:Nat) (l:List Int):Ok Tryz.prog 9 [mB r c l] (bW (r % 5) (r % 5) (fun i j=>dig l (i*(r % 5)+j))):=by
 have h:=oA (r % 5) (r % 5) l X X
 have h5:=DL r
 have hr:r % 5<5:=Nat.mod_lt _ S
 unfold mB bW at *
 refine Ok.enter Tryz.func9 Y Tryz.ntmps9 Y (fun w O => ?_)
 refine ae (ai ?_)
 refine aV Y Y (ltN Y) (fun b1 => ?_)
 refine bD (T:=30) Y Y Y (fun b2 => ?_)
 refine Ep (aa (ae (ai (El (aj Y) (El (ak 1 Y Y Y) (El (eK 5 Y Y Y S) (El (dZ Y X X) (El (aj Y) (El (ak 1 Y Y Y) ?_)))))))))
 refine El (eK 5 Y Y Y S) (El (dZ Y X X) (El (aj Y) (El (ak 1 Y Y Y) ?_)))
 refine El (am (h) Y ⟨H,H,H,Er⟩) ?_
 refine a4 0 Y Y Y Y (Ep (aa (aD ?_)))
 refine aS Tryz.results9 (.cellW 0 Y Y H)
end Tor
end
section
namespace Tor
open Go Go.RowKit Go.Proofs
theorem Bw (n m:Nat) (f:Nat→Nat→Int):bA n (fun i=>bA m (fun j=>f i j))=bA m (fun j=>bA n (fun i=>f i j)):=by
 induction n with
 | zero => exact ((dF (n := m) (f := fun _ => (0 : Int)) (g := fun _ => (0 : Int) * 0) (fun _ _ => rfl)).trans ((dU m 0 _).trans (Int.zero_mul _))).symm
 | succ n ih => rw [bA, ih, ← gF]; rfl
abbrev dgs (p n:Nat) (R:Nat→Nat→Nat) (r:Nat→Int):Nat→Int:=fun j=>(eI p n R r n j:Int)
def stR (p n:Nat) (F:Nat→Nat→Int) (R:Nat→Nat→Nat) (b:Nat→Int):Nat→Nat→Int
 | 0 => b
 | k + 1 => fun i => (stR p n F R b k i - bA n (fun t => dgs p n R (stR p n F R b k) t * F t i)) / (p : Int)
theorem qb {p n:Nat} {R:Nat→Nat→Nat} {r:Nat→Int} (hp:0<p) : ∀ m j,(p:Int)∣(eI p n R r m j:Int) - bA m (fun i=>r i*(R i j:Int))
 | 0, j => ⟨0, by simp [eI, bA]⟩
 | m + 1, j => by
  have h1:=qb (n:=n) (R:=R) (r:=r) hp m j
  have h2:(p:Int)∣(eI p n R r (m+1) j:Int) - ((eI p n R r m j:Int)+(((r m % (p:Int)).toNat*R m j % p:Nat):Int)):=by
   have:=ei (eI p n R r m j+(r m % (p:Int)).toNat*R m j % p) p
   rwa [Int.natCast_add] at this
  have h3:=ei ((r m % (p:Int)).toNat*R m j) p
  have h4:(p:Int)∣(((r m % (p:Int)).toNat*R m j:Nat):Int) - r m*(R m j:Int):=by
   rw [Int.natCast_mul,Int.toNat_of_nonneg (Int.emod_nonneg _ X)]
   refine dq _ ⟨-(r m / (p:Int)),?_⟩
   have:=Int.mul_ediv_add_emod (r m) (p:Int)
   rw [Int.mul_neg]; omega
  obtain ⟨a,ha⟩:=h1
  obtain ⟨c,hc⟩:=h2
  obtain ⟨d,hd⟩:=gg h3 h4
  refine ⟨a+c+d,?_⟩
  rw [bA,Int.mul_add,Int.mul_add]
  omega
theorem xo {p n:Nat} {F:Nat→Nat→Int} {R:Nat→Nat→Nat} {r:Nat→Int} (hp:0<p) (hR:sY p n F R) {i:Nat} (hi:i<n):(p:Int)∣r i - bA n (fun t=>dgs p n R r t*F t i):=by
 have h1:(p:Int)∣bA n (fun t=>dgs p n R r t*F t i) - bA n (fun t=>bA n (fun k=>r k*(R k t:Int))*F t i):=ie fun t _=>dq _ (qb hp n t)
 have h2:bA n (fun t=>bA n (fun k=>r k*(R k t:Int))*F t i)=bA n (fun k=>r k*bA n (fun t=>(R k t:Int)*F t i)):=by
  have e1:(fun t=>bA n (fun k=>r k*(R k t:Int))*F t i)=fun t=>bA n (fun k=>r k*((R k t:Int)*F t i)):=by
   funext t
   rw [Int.mul_comm, ← dU]
   exact congrArg (bA n) (funext fun k=>by rw [Int.mul_comm (F t i),Int.mul_assoc])
  have e2:(fun k=>r k*bA n (fun t=>(R k t:Int)*F t i))=fun k=>bA n (fun t=>r k*((R k t:Int)*F t i)):=by
   funext k
   rw [dU]
  rw [e1,e2]
  exact Bw n n _
 have h3:(p:Int)∣bA n (fun k=>r k*bA n (fun t=>(R k t:Int)*F t i)) - bA n (fun k=>r k*(if k=i then 1 else 0)):=ie fun k hk=>by
  have:=dq (r k) (hR.2 k i hk hi)
  rwa [Int.mul_comm _ (r k),Int.mul_comm _ (r k)] at this
 have h4:bA n (fun k=>r k*(if k=i then (1:Int) else 0))=r i:=by
  rw [ig hi fun k _ hne=>by rw [if_neg hne,Int.mul_zero],if_pos Y,Int.mul_one]
 rw [h4] at h3
 rw [h2] at h1
 exact iF (gg h1 h3)
theorem sZ {p n:Nat} {F:Nat→Nat→Int} {R:Nat→Nat→Nat} {b:Nat→Int} (hp:0<p) (hR:sY p n F R) (k:Nat) {i:Nat} (hi:i<n) :
  stR p n F R b k i=bA n (fun t=>dgs p n R (stR p n F R b k) t*F t i)+(p:Int)*stR p n F R b (k+1) i:=by
 have h:=Int.mul_ediv_cancel' (xo (r:=stR p n F R b k) hp hR hi)
 show _=_+(p:Int)*((stR p n F R b k i - bA n (fun t=>dgs p n R (stR p n F R b k) t*F t i)) / (p:Int))
 rw [h]; omega
theorem zO {p n:Nat} {F:Nat→Nat→Int} {R:Nat→Nat→Nat} {b:Nat→Int} (hp:2≤p) (hn:n≤16) (hF : ∀ i j,(F i j).natAbs≤1099511627776) (hb : ∀ i,(b i).natAbs≤1152921504606846976) : ∀ k i,(stR p n F R b k i).natAbs≤2305843009213693952
 | 0, i => Nat.le_trans (hb i) S
 | k + 1, i => by
  have h1:=zO (R:=R) hp hn hF hb k i
  have h2:=oK (B:=p*1099511627776) (f:=fun t=>dgs p n R (stR p n F R b k) t*F t i) (fun t=>by
   rw [Int.natAbs_mul]
   have h3:eI p n R (stR p n F R b k) n t<p:=jh hp n t
   exact Nat.mul_le_mul (by show (eI p n R (stR p n F R b k) n t:Int).natAbs≤p;omega) (hF t i)) n
  replace h2:=Nat.le_trans h2 (Nat.mul_le_mul_right (p*1099511627776) hn)
  show ((stR p n F R b k i - bA n (fun t=>dgs p n R (stR p n F R b k) t*F t i)) / (p:Int)).natAbs≤_
  generalize bA n (fun t=>dgs p n R (stR p n F R b k) t*F t i)=s at *
  generalize stR p n F R b k i=r at *
  have h4:=Int.mul_ediv_add_emod (r - s) (p:Int)
  have h5:=Int.emod_nonneg (r - s) (show (p:Int)≠0 by omega)
  have h6:=Int.emod_lt_of_pos (r - s) (show 0<(p:Int) by omega)
  generalize (r - s) / (p:Int)=q at *
  generalize (r - s) % (p:Int)=m at *
  by_cases hq:0≤q - 17592186044416
  ·have h7:2*(q - 17592186044416)≤(p:Int)*(q - 17592186044416):=Int.mul_le_mul_of_nonneg_right X hq
   rw [Int.mul_sub (p:Int)] at h7
   omega
  ·by_cases hq2:0 ≤ -(q+17592186044417)
   ·have h7:2*(-(q+17592186044417))≤(p:Int)*(-(q+17592186044417)):=Int.mul_le_mul_of_nonneg_right X hq2
    rw [Int.mul_neg (p:Int),Int.mul_add (p:Int)] at h7
    omega
   ·omega
def gm (p n:Nat) (F:Nat→Nat→Int) (b:Nat→Int) (pre:List (Nat→Int)):Prop := ∃ R,sY p n F R∧pre=(List.range pre.length).map fun k=>dgs p n R (stR p n F R b k)
def smL (p:Nat) (pre:List (Nat→Int)) (j:Nat):Int:=bA pre.length (fun i=>(p:Int)^i*pre.getD i (fun _=>0) j)
theorem Bx {p j:Nat} : smL p [] j=0:=rfl
theorem oL {p:Nat} {pre:List (Nat→Int)} {x:Nat→Int} {j:Nat} : smL p (pre ++ [x]) j=smL p pre j+(p:Int)^pre.length*x j:=by
 unfold smL
 rw [List.length_append,show pre.length + [x].length=pre.length+1 from rfl,bA]
 congr 1
 ·exact dF fun i hi=>by rw [List.getD_eq_getElem?_getD,List.getElem?_append_left hi, ← List.getD_eq_getElem?_getD]
 ·rw [List.getD_eq_getElem?_getD,List.getElem?_append_right (Nat.le_refl _),Nat.sub_self]; rfl
theorem gm.snoc {p n:Nat} {F:Nat→Nat→Int} {b:Nat→Int} {R:Nat→Nat→Nat} (hR:sY p n F R) (k:Nat):gm p n F b ((List.range k).map fun k=>dgs p n R (stR p n F R b k)):=⟨R,hR,by rw [List.length_map,List.length_range]⟩
theorem fR {α:Type} {f:Nat→α} {k:Nat} : (List.range k).map f ++ [f k]=(List.range (k+1)).map f:=by rw [List.range_succ,List.map_append]; rfl
theorem gm.last {p n:Nat} {F:Nat→Nat→Int} {b:Nat→Int} {pre:List (Nat→Int)} {x:Nat→Int} (hp:2≤p) (h:gm p n F b (pre ++ [x])) : ∀ j,0≤x j∧x j<p:=by
 obtain ⟨R,hR,he⟩:=h
 rw [List.length_append,show pre.length + [x].length=pre.length+1 from rfl, ← fR] at he
 have:=List.append_inj_right' he Y
 cases this
 intro j
 have h3:eI p n R (stR p n F R b pre.length) n j<p:=jh hp n j
 exact ⟨by show 0≤(eI p n R (stR p n F R b pre.length) n j:Int);omega,by show (eI p n R (stR p n F R b pre.length) n j:Int)<p;omega⟩
theorem gm.sum {p n:Nat} {F:Nat→Nat→Int} {b:Nat→Int} {pre:List (Nat→Int)} (hp:0<p) (h:gm p n F b pre) : ∀ i,i<n→((p:Int)^pre.length)∣b i - bA n (fun t=>smL p pre t*F t i):=by
 obtain ⟨R,hR,he⟩:=h
 generalize pre.length=k at *
 subst he
 intro i hi
 refine ⟨stR p n F R b k i,?_⟩
 induction k with
 | zero => rw [dF (g := fun _ => (0 : Int) * 0) (fun t _ => by rw [List.range_zero, List.map_nil, Bx, Int.zero_mul, Int.zero_mul]), dU]; simp [stR]
 | succ k ih =>
  rw [← fR]
  have e:(fun t=>smL p ((List.range k).map (fun k=>dgs p n R (stR p n F R b k)) ++ [dgs p n R (stR p n F R b k)]) t*F t i)=fun t=>smL p ((List.range k).map fun k=>dgs p n R (stR p n F R b k)) t*F t i+(p:Int)^k*(dgs p n R (stR p n F R b k) t*F t i):=by
   funext t
   rw [oL,Int.add_mul,List.length_map,List.length_range,Int.mul_assoc]
  rw [e,gF,dU, ← Int.sub_sub,ih,sZ hp hR k hi,Int.pow_succ,Int.mul_add,Int.mul_assoc]
  omega
end Tor
end
section
set_option linter.unusedSectionVars false
namespace Tor
open Go Go.RowKit
structure KeepZ (Ec:List Nat) (W:World) (Z':List Nat) (W':World):Prop where
 os:W'.os=W.os
 tape:W'.tape=W.tape
 output:W'.output=W.output
 size:W.heap.size≤W'.heap.size
 block : ∀ b,b<W.heap.size→b ∉ Ec→W'.heap[b]? = W.heap[b]?
 own : ∀ b∈Z',b<W'.heap.size∧(b∈Ec∨W.heap.size≤b)
section
variable {P:Program} {E:Env} {D:List Deferred} {Γ:Ctx} {M:Mem} {Q:Exit→Act→World→Prop} {α σ:Type}
def rn (P:Program) (l:Nat) (Ψ:α→VT) (Good:List α→Prop) (J:List α × List Nat→World→Prop) (Jx:List α→World→Prop):Prop :=
 ∀ pre x v Ec W,J (pre,Ec) W→Good (pre ++ [x])→(Ψ x).p v (hid Ec (bZ W))→YieldAt Fence.wide 7 P l #[v] W fun e W'=>(e = .returned (.bool true) ∧ ∃ Z',J (pre ++ [x],Z') W'∧KeepZ Ec W Z' W')∨(e = .returned (.bool false)∧Jx (pre ++ [x]) W')
def OkZ (P:Program) (gf:FuncId) (cs:List VT) (Ψ:α→VT) (Good:List α→Prop) (N:Nat):Prop :=
 ∀ (w:World) (O:List Nat) (ca:List Value),fd cs ca (hid O (bZ w)) →
 ∀ (l:Nat) (J:List α × List Nat→World→Prop) (Jx:List α→World→Prop) (Ec:List Nat) (W:World),Ext w W→(∀ b∈Ec,b<W.heap.size∧(b∈O∨w.heap.size≤b))→AbidesFrom W.heap.size J→AbidesFrom W.heap.size Jx →
  (∀ s W1,J s W1→s.1.length<N)→rn P l Ψ Good J Jx→J ([],Ec) W →
  CallsIn Fence.wide 8 P gf (#[.func (.yield l) #[] #[]] ++ ca.toArray) W fun e W'=>(∃ v,e = .returned v) ∧ ∃ pre,Jx pre W'
def DN (I:List α→List Nat→World→Prop) (Ix:Code→List α→World→Prop) (xs:List α) (Ec:List Nat) (W:World):Exit→Act→World→Prop
 | .normal, _, W' => KeepsOthers W W' ∧ ∃ Z', KeepZ Ec W Z' W' ∧ I xs Z' W'
 | .ret, _, W' => KeepsOthers W W' ∧ Ix .ret xs W'
 | .exit id, _, W' => KeepsOthers W W' ∧ Ix (.exit id) xs W'
 | _, _, _ => False
theorem Da {g:Operand} {ps:Array Tmp} {assign body:Code} {a:Act} {w:World} {gf:Nat} {ca:List Value} (hg:a.eval g = .func (.func gf) #[] ca.toArray) (eg : ∀ args w,(callFunc gf args).run P w = .ok (.enter gf args) w)
  {Ψ:α→VT} {Good:List α→Prop} {N:Nat} {cs:List VT} {O:List Nat} (hseq:OkZ P gf cs Ψ Good N) (hca:fd cs ca (hid O (bZ w))) (hps:ps.size=1)
  (I:List α→List Nat→World→Prop) (Ix:Code→List α→World→Prop) (hI : ∀ Ec,OwnFrom w.heap.size (fun pre=>I pre Ec)) (hIx : ∀ c,OwnFrom w.heap.size (Ix c)) (hN : ∀ pre Ec W,I pre Ec W→pre.length<N)
  (hZ : ∀ b∈O,b<w.heap.size) (h0:I [] O w) (a1:Value→Act)
  (hassign : ∀ (l:Nat) (x:Value) (W:World) (K:Act→World→Prop),K (a1 x) W→assign.wpIn (Fence.wide.inRound l) 7 P (Exit.then K (fun _ _ _=>False)) { tmps:=(ps.zip #[x]).foldl (fun t (p,v)=>t.setIfInBounds p v) a.tmps,defers := [] } W)
  (hbody : ∀ (l:Nat) (pre:List α) (x:α) (v:Value) (Ec:List Nat) (W:World),I pre Ec W→Good (pre ++ [x])→(Ψ x).p v (hid Ec (bZ W))→body.wpIn (Fence.wide.inRound l) 7 P (DN I Ix (pre ++ [x]) Ec W) (a1 v) W)
  (hstop : ∀ (D:Nat) (c:Code) (pre:List α) (W:World),w.heap.size≤D→Ix c pre W→W.heap[D]? = some (.deferred (some []))→c.wpIn Fence.wide 9 P Q { a with defers := { target := .collected D,args := #[] } :: a.defers } W) :
  (Code.rangeFunc g ps assign body).wpIn Fence.wide 9 P Q a w:=by
 refine wpIn_rangeFunc fun fn hfn => ?_
 let B:=w.heap.size
 let rec0:LoopState→Option Code→Loop:=fun st pe => { state:=st,pending:=pe,fn,tmps:=a.tmps,params:=ps,assign,body,defers:=B }
 let cl:LoopState→Option Code→World→Prop:=fun st pe W=>W.heap[B+1]? = some (.loop (rec0 st pe))∧W.heap[B]? = some (.deferred (some []))
 let W1:=(w.alloc (.deferred (some []))).alloc (.loop (rec0 .ready none))
 have c1:cl .ready none W1 :=
  ⟨by have:=World.alloc_heap_new (w.alloc (.deferred (some []))) (.loop (rec0 .ready none));rwa [World.size_alloc] at this,(Below.heap_alloc _ _ _ (by simp [B])).trans (World.alloc_heap_new w _)⟩
 have hs1:W1.heap.size=B+2:=by show ((w.alloc _).alloc _).heap.size=_;rw [World.size_alloc,World.size_alloc]
 have hb1:Ext w W1:=⟨rfl,rfl,rfl,by rw [hs1]; exact Nat.le_add_right B 2,fun k hk=>(Below.heap_alloc _ _ _ (by rw [World.size_alloc]; omega)).trans (Below.heap_alloc _ _ _ hk)⟩
 have keepL : ∀ {st pe} {W W':World} {row:Option Nat},cl st pe W→W.grownBy W' row→(∀ r,row=some r → ∃ o:Obj,W.heap[r]? = some o∧o.isCells=false∧o.isWalk=true)→cl st pe W':=fun hc hg hr =>
  ⟨(grownBy_keeps hg (fun r e=>let ⟨o,h1,_,h3⟩:=hr r e;⟨o,h1,h3⟩) hc.1 Y).trans hc.1,(grownBy_keeps hg (fun r e=>let ⟨o,h1,_,h3⟩:=hr r e;⟨o,h1,h3⟩) hc.2 Y).trans hc.2⟩
 have rows : ∀ {W:World} {row:Option Nat},(∀ r,row=some r→W1.heap.size≤r ∧ ∃ o:Obj,W.heap[r]? = some o∧o.isWalk=true) →
   (∀ r,row=some r→w.heap.size≤r ∧ ∃ o:Obj,W.heap[r]? = some o∧o.isCells=false)∧(∀ r,row=some r → ∃ o:Obj,W.heap[r]? = some o∧o.isCells=false∧o.isWalk=true):=fun hr =>
  ⟨fun r e=>let ⟨h1,o,h2,h3⟩:=hr r e;⟨by rw [hs1] at h1;show B≤r;omega,o,h2,Obj.not_cells_of_walk h3⟩,fun r e=>let ⟨_,o,h2,h3⟩:=hr r e;⟨o,h2,Obj.not_cells_of_walk h3,h3⟩⟩
 refine ⟨B+1, [{ target := .collected B,args := #[] }],W1, { target := .fn (.func gf) ca.toArray,args := #[.func (.yield (B+1)) #[] #[]] },W1,gf, #[.func (.yield (B+1)) #[] #[]] ++ ca.toArray,W1,
  run_enterLoop_outer _ _ _ _ _,by simp only [resolve,hg]; simp [go_sem],fun f' hf'=>trivial,by simp [invoke,go_sem,eg],fun _=>by omega,?_⟩
 refine (hseq w O ca hca (B+1) (fun s W => ∃ Zc,s.2=(B+1) :: B :: Zc∧I s.1 Zc W∧cl .ready none W) (fun pre W => ∃ c,Ix c pre W∧cl .done (some c) W) ((B+1) :: B :: O) W1 hb1 (fun b hb => ?_)
  (fun s A A' row hs hg' hr=>let ⟨Zc,e,h1,h2⟩:=hs;⟨Zc,e,hI Zc s.1 A A' row h1 hg' (rows hr).1,keepL h2 hg' (rows hr).2⟩) (fun s A A' row hs hg' hr=>let ⟨c,h1,h2⟩:=hs;⟨c,hIx c s A A' row h1 hg' (rows hr).1,keepL h2 hg' (rows hr).2⟩)
  (fun s W hs=>let ⟨Zc,_,h1,_⟩:=hs;hN s.1 Zc W h1) ?_ ⟨O,rfl,(hI O).alloc _ ((hI O).alloc _ h0),c1⟩).mono ?_
 ·rw [hs1]
  rcases List.mem_cons.1 hb with rfl | hb
  ·exact ⟨by omega, .inr (by show B≤B+1;omega)⟩
  ·rcases List.mem_cons.1 hb with rfl | hb
   ·exact ⟨by omega, .inr (Nat.le_refl _)⟩
   ·have:=hZ b hb
    exact ⟨by show b<w.heap.size+2;omega, .inl hb⟩
 ·rintro pre x v Ec W ⟨Zc,rfl,hi,hl,hk⟩ hgo hx
  dsimp only at hi
  have hlt:B+1<W.heap.size:=(Array.getElem?_eq_some_iff.1 hl).1
  refine ⟨fn,_,assign,body,run_yield (P:=P) (args := #[v]) hl hps.symm,roundIn_of_wpIn hfn (hassign _ v W _ ⟨_,run_beginRound hl Y,?_⟩)⟩
  have hl2:(W.putObj (B+1) (.loop { rec0 .ready none with state := .busy })).heap[B+1]? = some (.loop { rec0 .ready none with state := .busy }):=World.putObj_heap_same hlt
  have hk2:(W.putObj (B+1) (.loop { rec0 .ready none with state := .busy })).heap[B]? = some (.deferred (some [])):=(World.putObj_heap_other X).trans hk
  have hx2:(Ψ x).p v (hid Zc (bZ (W.putObj (B+1) (.loop { rec0 .ready none with state := .busy })))):=(Ψ x).mono (fun b y e=>by
   obtain ⟨h1,h2⟩:=cP e
   refine el (fun h=>h1 (List.mem_cons_of_mem _ (List.mem_cons_of_mem _ h))) ?_
   rw [eU (World.putObj_heap_other (fun e=>h1 (by rw [e]; exact List.mem_cons_self)))]
   exact h2) hx
  refine wpIn_mono (hbody _ pre x v Zc _ ((hI Zc).putObj _ hi X hl Y) hgo hx2) ?_
  have fin : ∀ (jump:Option Code) (W3:World),KeepsOthers (W.putObj (B+1) (.loop { rec0 .ready none with state := .busy })) W3 →
    (Instr.endRound (B+1) jump).run P W3 = .ok (.bool jump.isNone) (W3.putObj (B+1) (.loop (rec0 (if jump.isNone then .ready else .done) jump))) ∧
    W3.heap[B+1]? = some (.loop { rec0 .ready none with state := .busy })∧cl (if jump.isNone then .ready else .done) jump (W3.putObj (B+1) (.loop (rec0 (if jump.isNone then .ready else .done) jump))):=fun jump W3 hk3=>by
   have hl3:=hk3.same _ _ hl2 Y
   exact ⟨run_endRound (P:=P) jump hl3,hl3,World.putObj_heap_same (Array.getElem?_eq_some_iff.1 hl3).1,(World.putObj_heap_other X).trans (hk3.same _ _ hk2 Y)⟩
  have leave : ∀ (c:Code) (W3:World),KeepsOthers (W.putObj (B+1) (.loop { rec0 .ready none with state := .busy })) W3→Ix c (pre ++ [x]) W3 → ∃ v W4,(Instr.endRound (B+1) (some c)).run P W3 = .ok v W4 ∧
    ((Ending.returned v = .returned (.bool true) ∧ ∃ Z',(∃ Zc,Z'=(B+1) :: B :: Zc∧I (pre ++ [x]) Zc W4∧cl .ready none W4)∧KeepZ ((B+1) :: B :: Zc) W Z' W4)∨(Ending.returned v = .returned (.bool false) ∧ ∃ c,Ix c (pre ++ [x]) W4∧cl .done (some c) W4)):=fun c W3 hk3 hi3=>by
   obtain ⟨hr,hl3,hc4⟩:=fin (some c) W3 hk3
   exact ⟨_,_,hr, .inr ⟨rfl,c,(hIx _).putObj _ hi3 X hl3 Y,hc4⟩⟩
  rintro e a3 W3 hp
  cases e with
  | normal =>
   obtain ⟨hk3,Z',kz,hi3⟩:=hp
   obtain ⟨hr,hl3,hc4⟩:=fin none W3 hk3
   refine ⟨_,_,hr, .inl ⟨rfl,(B+1) :: B :: Z',⟨Z',rfl,(hI Z').putObj _ hi3 X hl3 Y,hc4⟩,kz.os,kz.tape,kz.output,?_,fun b hb hn => ?_,fun b hb => ?_⟩⟩
   ·have:=kz.size;simp only [World.putObj_size] at this ⊢; exact this
   ·have h1:b≠B+1:=fun e=>hn (by rw [e]; exact List.mem_cons_self)
    exact (World.putObj_heap_other h1).trans ((kz.block b (by rw [World.putObj_size]; exact hb) fun h=>hn (List.mem_cons_of_mem _ (List.mem_cons_of_mem _ h))).trans (World.putObj_heap_other h1))
   ·have hlt3:=(Array.getElem?_eq_some_iff.1 hl3).1
    rw [World.putObj_size]
    rcases List.mem_cons.1 hb with rfl | hb
    ·exact ⟨hlt3, .inl List.mem_cons_self⟩
    ·rcases List.mem_cons.1 hb with rfl | hb
     ·exact ⟨by omega, .inl (List.mem_cons_of_mem _ List.mem_cons_self)⟩
     ·obtain ⟨h1,h2⟩:=kz.own b hb
      rw [World.putObj_size] at h2
      exact ⟨h1,h2.imp (fun h=>List.mem_cons_of_mem _ (List.mem_cons_of_mem _ h)) id⟩
  | ret => exact leave .ret W3 hp.1 hp.2
  | exit id => exact leave (.exit id) W3 hp.1 hp.2
  | goto t => exact hp.elim
  | panic ch => exact hp.elim
  | outgrown => exact hp.elim
 ·rintro e W2 ⟨⟨v,rfl⟩,pre,c,hi,hl,hk⟩
  exact ⟨some c,_,run_endLoop (P:=P) hl (by simp [rec0]),hstop _ c pre _ (Nat.le_refl _) ((hIx c).putObj _ hi X hl Y) ((World.putObj_heap_other X).trans hk)⟩
theorem s6 {g:Operand} {p q id:Nat} {T:TypeId} {pos:String} {body:Code} {gf:FuncId} {cs:List VT} {Ψ:α→VT} {Good:List α→Prop} {N:Nat} [hF:Fn P gf]
  (hit:OkZ P gf cs Ψ Good N) (Ms:σ→Mem) [hc : ∀ s,CellM (Ms s)] (ok:List α→σ→Prop) (okx:Option Nat→List α→σ→Prop) (s0:σ) (hE:E.R=none) (hg:aM Γ g=some (i7 gf cs)) (hN : ∀ pre s,ok pre s→pre.length<N) (h0:ok [] s0) (hm:SubM M (Ms s0))
  (hp:Nat.ble (p+1) E.N=true) (hq:Nat.ble (q+1) E.N=true) (hnd:fW body=true)
  (hround : ∀ (l:Nat) (W:World) (pre:List α) (x:α) (s:σ),ok pre s→Good (pre ++ [x]) →
   J P ⟨W,E.O,aW (Ms s),E.N,some l⟩ [] ((q, Ψ x) :: (p, Ψ x) :: Γ) (Ms s) body (rS ⟨W,E.O,aW (Ms s),E.N,some l⟩ Ms ok okx (pre ++ [x])))
  (hret : ∀ (pre:List α) (s:σ) (b:Nat),okx none pre s→PJ E [m7 b] Γ (dfO b :: Ms s) .ret Q)
  (hexit : ∀ (id:Nat) (pre:List α) (s:σ) (b:Nat),okx (some id) pre s→PJ E [m7 b] Γ (dfO b :: Ms s) (.exit id) Q) :
  J P E [] Γ M (.rangeFunc g #[p] (.region id #[⟨some q, .assign (.tmp p),T,pos, #[],none⟩] false) body) Q:=by
 intro a w hS _
 rw [hE]
 show Code.wpIn Fence.wide 9 P _ Q a w
 obtain ⟨ca,hg0,hca⟩:=cF hS hg
 have hp:=Nat.le_of_ble_eq_true hp
 have hq:=Nat.le_of_ble_eq_true hq
 let E1:Env:=⟨w,E.O,aW M,E.N,none⟩
 have hS0:St E1 [] Γ M a w:=⟨⟨hS.base.mem,hS.base.nd,hS.base.dis,fun b hb => .inr hb,hS.base.ex,Fr.refl _ _⟩,hS.sz,hS.df,hS.tm⟩
 have own : ∀ (s:σ) (W W':World) (row:Option Nat),St E1 [] Γ (Ms s) a W→W.grownBy W' row→(∀ r,row=some r→w.heap.size≤r ∧ ∃ o:Obj,W.heap[r]? = some o∧o.isCells=false)→St E1 [] Γ (Ms s) a W':=fun s W W' row hs hgr hr=>St.grown (hc s) hs hgr (Nat.le_refl _) hr
 have fin : ∀ (s:σ) (b:Nat) (W:World),w.heap.size≤b→W.heap[b]? = some (.deferred (some []))→St E1 [] Γ (Ms s) a W→St E [m7 b] Γ (dfO b :: Ms s) { a with defers:=m7 b :: a.defers } W:=fun s b W hb hh hs =>
  St.mark (hc s) (hs.from_ hS.base) (Nat.le_trans hS.base.fr.size hb) (fun h=>by have:=hS.base.ex b (List.mem_append.2 (.inl h));omega) hh
 have hS1:St E1 [] Γ (Ms s0) a w:=hS0.sub (dI.refl _) hm
 refine Da (O:=E.O ++ aW M) hg0 (fun args w=>hF.run args w) hit hca Y
  (fun pre Ec W => ∃ s,(∀ b∈E.O ++ aW (Ms s),b∈Ec)∧ok pre s∧St E1 [] Γ (Ms s) a W)
  (fun c pre W=>match c with
   | .ret => ∃ s, okx none pre s ∧ St E1 [] Γ (Ms s) a W
   | .exit id => ∃ s, okx (some id) pre s ∧ St E1 [] Γ (Ms s) a W
   | _ => False)
  (fun Ec pre W W' row hs hgr hr=>let ⟨s,h0,h1,h2⟩:=hs;⟨s,h0,h1,own s W W' row h2 hgr hr⟩) ?_ (fun pre Ec W hs=>let ⟨s,_,h1,_⟩:=hs;hN pre s h1) hS.base.ex ⟨s0,fun b hb => ?_,h0,hS1⟩
  (fun v=>({ tmps:=a.tmps.setIfInBounds p v,defers := [] } : Act).put (some q) v) ?_ ?_ ?_
 ·rintro c pre W W' row hs hgr hr
  cases c <;> first
   | exact hs.elim
   | (obtain ⟨s, h1, h2⟩ := hs; exact ⟨s, h1, own s W W' row h2 hgr hr⟩)
 ·rcases List.mem_append.1 hb with h | h
  ·exact List.mem_append.2 (.inl h)
  ·exact List.mem_append.2 (.inr ((hS1.base.lo b h).resolve_left fun h3=>by
    have:=hS1.base.ex b (List.mem_append.2 (.inr h))
    have h3:w.heap.size≤b:=h3
    omega))
 ·intro l x W K hK
  refine wpIn_region (F:=fen (some l)) (kZ (r:=some l) (.inr (by simp [gb])) (fun ⟨_,_,h⟩=>h) _ _ _ ?_)
  have hv':(a.tmps.setIfInBounds p x).getD p undef=x:=by
   have:=hS.sz
   simp [Array.getD_eq_getD_getElem?,show p<a.tmps.size by omega]
  have e:List.range 1 = [0]:=rfl
  simp [wpOps,e,Oper.wp,Region.wanted,execOp,Act.eval,hv',Oper.upon,Exit.then]
  exact .inl hK
 ·rintro l pre x v Ec W ⟨s,hz,hs,hSs⟩ hgo hx
  have hx:(Ψ x).p v (hid (E.O ++ aW (Ms s)) (bZ W)):=(Ψ x).mono (kX hz) hx
  have hS1:St ⟨W,E.O,aW (Ms s),E.N,some l⟩ [] Γ (Ms s) { tmps:=a.tmps,defers := [] } W :=
   ⟨⟨hSs.base.mem,hSs.base.nd,hSs.base.dis,fun b hb => .inr hb,hSs.base.ex,Fr.refl _ _⟩,hSs.sz,rfl,hSs.tm⟩
  have hS2:=(hS1.put (Ext.refl W) (d:=p) hp (ψ:=Ψ x) (v:=v) hx).put (Ext.refl W) (d:=q) hq (ψ:=Ψ x) (v:=v) hx
  refine wpIn_mono (nX (m:=7) (hround l W pre x s hs hgo _ W hS2 (.inr hnd))) ?_
  have keep : ∀ (s':σ) (a':Act) (W':World),St ⟨W,E.O,aW (Ms s),E.N,some l⟩ [] [] (Ms s') a' W'→KeepsOthers W W'∧KeepZ Ec W (E.O ++ aW (Ms s')) W'∧St E1 [] Γ (Ms s') a W':=by
   intro s' a' W' h'
   have hf:=h'.base.fr
   refine ⟨⟨hf.size,fun k o hk ho=>(hf.block k (Array.getElem?_eq_some_iff.1 hk).1 fun hm' => ?_).trans hk⟩,⟨hf.os,hf.tape,hf.output,hf.size,fun b hb hn=>hf.block b hb fun hm'=>hn (hz b (List.mem_append.2 (.inr hm'))),fun b hb=>⟨h'.base.ex b hb,?_⟩⟩,hSs.slots h'⟩
   ·obtain ⟨c,T,f,e⟩:=(hc s).get hSs.base hm'
    rw [hk] at e;cases e;cases ho
   ·rcases List.mem_append.1 hb with h | h
    ·exact .inl (hz b (List.mem_append.2 (.inl h)))
    ·rcases h'.base.lo b h with h3 | h3
     ·exact .inr h3
     ·exact .inl (hz b (List.mem_append.2 (.inr h3)))
  rintro e a' W' hp'
  cases e with
  | normal => obtain ⟨s', h1, h2⟩ := hp'; obtain ⟨k1, k2, k3⟩ := keep s' a' W' h2; exact ⟨k1, _, k2, s', fun b hb => hb, h1, k3⟩
  | ret => obtain ⟨s', h1, h2⟩ := hp'; obtain ⟨k1, k2, k3⟩ := keep s' a' W' h2; exact ⟨k1, s', h1, k3⟩
  | exit id => obtain ⟨s', h1, h2⟩ := hp'; obtain ⟨k1, k2, k3⟩ := keep s' a' W' h2; exact ⟨k1, s', h1, k3⟩
  | goto t => exact hp'.elim
  | panic ch => exact hp'.elim
  | outgrown => exact hp'.elim
 ·rintro b c pre W hb hx hh
  cases c <;> first
   | exact hx.elim
   | (obtain ⟨s, hs, hSs⟩ := hx; exact wpIn_ret (hret pre s b hs _ W (fin s b W hb hh hSs)))
   | (obtain ⟨s, hs, hSs⟩ := hx; exact wpIn_exit (hexit _ pre s b hs _ W (fin s b W hb hh hSs)))
/-! ### The function that yields -/
def RZ (Jx:List α→World→Prop) (e:Ending) (W:World):Prop:=(∃ v,e = .returned v) ∧ ∃ pre,Jx pre W
theorem OkZ.enter {Ψ:α→VT} {Good:List α→Prop} {f:FuncId} {fn:Func} {c:Code} {N Nr:Nat} {cs:List VT} (hf:P.funcs[f]? = some fn) (hb:fn.body=some c) (hN:fn.ntmps=N) (hle:Nat.ble (cs.length+1) N=true)
  (h : ∀ (W:World) (l:Nat) (J:List α × List Nat→World→Prop) (Jx:List α→World→Prop) (B:Nat) (Ec:List Nat),AbidesFrom B J→AbidesFrom B Jx→(∀ s W,J s W→s.1.length<Nr)→rn P l Ψ Good J Jx→J ([],Ec) W →
   Tor.J P ⟨W,Ec, [],N,none⟩ [] ((0,one (.func (.yield l) #[] #[])) :: fh 1 cs) [] c (bodyPost P fn (RZ Jx))):OkZ P f cs Ψ Good Nr:=by
 intro w O ca hca l J Jx Ec W hW hZ hA hAx hl hY h0
 have hv':fd (one (.func (.yield l) #[] #[]) :: cs) (.func (.yield l) #[] #[] :: ca) (hid Ec (bZ W)) :=
  ⟨rfl,iI (fun b x e=>by
   obtain ⟨h1,h2⟩:=cP e
   have:=ep h2
   exact el (fun h=>(hZ b h).2.elim h1 (fun h3=>by omega)) (Ext.view hW _ _ h2)) hca⟩
 have hc:=Tor.iJ (R:=RZ Jx) hf hb hN (O:=Ec) (fun b hb=>(hZ b hb).1) hv' (Nat.le_of_ble_eq_true hle) (h W l J Jx _ Ec hA hAx hl hY h0)
 have he:(#[Value.func (.yield l) #[] #[]] ++ ca.toArray)=(Value.func (.yield l) #[] #[] :: ca).toArray:=by simp
 rw [he]
 exact callsIn_wide.2 hc
theorem By {ops:Array Oper} {Ψ:α→VT} {Good:List α→Prop} {J:List α × List Nat→World→Prop} {Jx:List α→World→Prop} {l id m d N:Nat} {t x:Operand} {ats:Array TypeId} {ty:TypeId} {pos:String} {af:Array Edge} {pre:List α} {B:Nat} {W:World} {Ec:List Nat} (v:α) (Γk:Ctx)
  (hY:rn P l Ψ Good J Jx) (hA:AbidesFrom B J) (hJ:J (pre,Ec) W) (hgo:Good (pre ++ [v]))
  (hm:ops[m]? = some ⟨some d, .call ⟨.value t, #[x],ats⟩,ty,pos,af,none⟩) (hd:Nat.ble (d+1) N=true)
  (h:Run P ⟨W,Ec, [],N,none⟩ ops false 0 [] Γ [] (ops.toList.take m) (fun D' Γ' M'=>D' = []∧M' = []∧aM Γ' t=some (one (.func (.yield l) #[] #[]))∧aM Γ' x=some (Ψ v)∧dI Γ' Γk))
  (h1 : ∀ W' Z',J (pre ++ [v],Z') W'→Run P ⟨W',Z', [],N,none⟩ ops false (m+1) [] ((d,one (.bool true)) :: Γk) [] (ops.toList.drop (m+1)) (fun D' Γ' M'=>PJ ⟨W',Z', [],N,none⟩ D' Γ' M' .normal Q))
  (h2 : ∀ W',Jx (pre ++ [v]) W'→Run P ⟨W', [], [],N,none⟩ ops false (m+1) [] [(d,one (.bool false))] [] (ops.toList.drop (m+1)) (fun D' Γ' M'=>PJ ⟨W', [], [],N,none⟩ D' Γ' M' .normal Q)) :
  Tor.J P ⟨W,Ec, [],N,none⟩ [] Γ [] (.region id ops false) Q:=by
 intro a w hS _
 have hlt:m<ops.size:=(Array.getElem?_eq_some_iff.1 hm).1
 have hd:=Nat.le_of_ble_eq_true hd
 show Code.wpIn (fen none) 9 P _ Q a w
 refine wpIn_mono (wpIn_region ?_) qm
 have e:List.range ops.size=List.range' 0 (ops.toList.take m).length ++ (m :: List.range' (m+1) (ops.size - (m+1))):=by
  rw [List.range_eq_range',show (ops.toList.take m).length=m by simp;omega, ← List.range'_succ,show ops.size - (m+1)+1=ops.size - m by omega]
  have := @List.range'_append 0 m (ops.size - m) 1
  simp only [Nat.one_mul,Nat.zero_add] at this
  rw [this]; congr 1;omega
 rw [e]
 refine h.seqIn (.inl Y) (nrm Q) _ (fun j hj => ?_) jY (fun D' Γ' M' a w hK hS => ?_) a w hS
 ·have hj':j<m:=by simp at hj;omega
  simp [List.getElem?_take,hj']
 ·obtain ⟨rfl,rfl,ht,hx,hg⟩:=hK
  have e1:a.eval t = .func (.yield l) #[] #[]:=cF hS ht
  have e2:(Ψ v).p (a.eval x) (hid (Ec ++ aW []) (bZ w)):=cF hS hx
  rw [show Ec ++ aW []=Ec from List.append_nil Ec] at e2
  obtain ⟨fn,tmps,assign,body,hy,hR⟩:=hY pre v _ Ec w (pF hA hJ hS.base.fr.toExt) hgo e2
  have tail : ∀ (E':Env) (b:Bool) (Γ':Ctx) (a':Act) (W':World),E'.N=N→St E' [] ((d,one (.bool b)) :: Γ') [] a' W' →
    Run P E' ops false (m+1) [] ((d,one (.bool b)) :: Γ') [] (ops.toList.drop (m+1)) (fun D' Γ' M'=>PJ E' D' Γ' M' .normal Q) →
    wpOpsIn (fen none) 9 P ops (nrm Q) (List.range' (m+1) (ops.size - (m+1))) a' W':=by
   intro E' b Γ' a' W' hE' hS' hr
   have:=hr.seqIn (n:=9) (.inl Y) (nrm Q) [] (fun j _=>by simp [List.getElem?_drop]) jY (fun D' Γ' M' a w hK hS=>by simpa [wpOpsIn] using hK a w hS) a' W' hS'
   simpa using this
  rw [wpOpsIn_cons]
  unfold wpOpIn
  simp only [hm,cQ (o:=⟨some d, .call ⟨.value t, #[x],ats⟩,ty,pos,af,none⟩) Y,if_true]
  refine ⟨fun f _=>ql f,?_⟩
  have hr:(Oper.semAt (fen none).round a.eval ⟨some d, .call ⟨.value t, #[x],ats⟩,ty,pos,af,none⟩).run P w = .ok (.round l fn tmps assign body) w:=by
   rw [mc,Oper.semAt_none]
   simpa [execOp,resolve,Deferred.ofValue,invoke,e1] using hy
  rw [hr]
  refine ⟨fun h=>(by cases h),RoundIn.mono (n:=8) (F:=Fence.wide) ⟨hR.1,fun c cs _=>hR.2 c cs (room_wide _)⟩ ?_⟩
  rintro e W' (⟨rfl,Z',hJ',hk⟩ | ⟨rfl,hJx'⟩)
  ·have hS':St ⟨W',Z', [],N,none⟩ [] Γk [] a W':=by
    refine ⟨⟨fun o ho=>(by cases ho),List.nodup_nil,fun b hb=>(by cases hb),fun b hb=>(by cases hb),fun b hb=>(hk.own b (by simpa using hb)).1,Fr.refl _ _⟩,hS.sz,hS.df,fun t φ ht => ?_⟩
    obtain ⟨φ',h3,h4⟩:=hg t φ ht
    refine φ.mono (fun b y e => ?_) (h4 _ _ (hS.tm t φ' h3))
    obtain ⟨h5,h6⟩:=cP e
    have h7:=ep h6
    have h8:b ∉ Ec:=fun h=>h5 (List.mem_append.2 (.inl h))
    refine el (fun h => ?_) (by rw [eU (hk.block b h7 h8)]; exact h6)
    rcases (hk.own b (by simpa using h)).2 with h9 | h9
    ·exact h8 h9
    ·omega
   exact tail _ true _ _ W' Y (hS'.put (Ext.refl _) (d:=d) (show d<N from hd) (ψ:=one (.bool true)) Y) (h1 W' Z' hJ')
  ·have hS':St ⟨W', [], [],N,none⟩ [] [] [] a W' :=
    ⟨⟨fun o ho=>(by cases ho),List.nodup_nil,fun b hb=>(by cases hb),fun b hb=>(by cases hb),fun b hb=>(by cases hb),Fr.refl _ _⟩,hS.sz,hS.df,fun t φ ht=>(by cases ht)⟩
   exact tail _ false _ _ W' Y (hS'.put (Ext.refl _) (d:=d) (show d<N from hd) (ψ:=one (.bool false)) Y) (h2 W' hJx')
theorem zP {fn:Func} {B N:Nat} {W:World} {Ec:List Nat} {Jx:List α→World→Prop} (hr:fn.results = #[]) (hA:AbidesFrom B Jx) {pre:List α} (hJ:Jx pre W):PJ ⟨W,Ec, [],N,none⟩ [] Γ [] .ret (bodyPost P fn (RZ Jx)):=by
 intro a w hSt
 exact ⟨hSt.df, .tuple #[],by simp [results,hr],⟨_,rfl⟩,pre,pF hA hJ hSt.base.fr.toExt⟩
theorem Bz {c:Code} {N:Nat} {W0:World} {Z0:List Nat} (Ws:σ→World) (Zs:σ→List Nat) (G:σ→Ctx) (ok:σ→Prop) (μ:σ→Nat) (s0:σ) (hW:Ws s0=W0) (hZ:Zs s0=Z0) (h0:ok s0) (hg:dI Γ (G s0))
  (round : ∀ s,ok s→Tor.J P ⟨Ws s,Zs s, [],N,none⟩ [] (G s) [] c (Exit.then (fun a w => ∃ s',ok s'∧μ s'<μ s∧St ⟨Ws s',Zs s', [],N,none⟩ [] (G s') [] a w) Q)):Tor.J P ⟨W0,Z0, [],N,none⟩ [] Γ [] (.loop c) Q:=by
 subst hW hZ
 intro a w hS hd b k cs hro hb hr
 have key : ∀ n s,ok s→μ s=n → ∀ a w,St ⟨Ws s,Zs s, [],N,none⟩ [] (G s) [] a w →
   ∃ e a' w',Q e a' w'∧ArrivesIn (Machine.fenced P (fen none)) P (lone (b.atR a (.code c :: .inLoop c :: k)) cs w) b k cs e a' w':=by
  intro n
  induction n using Nat.strongRecOn with
  | _ n ih =>
   intro s hs hn a w hS
   obtain ⟨e,a1,w1,hq,harr⟩:=round s hs a w hS (.inl Y) b (.inLoop c :: k) cs hro hb hr
   cases e with
   | normal =>
    obtain ⟨s',hs',hlt,hS'⟩:=hq
    obtain ⟨e2,a2,w2,hq2,harr2⟩:=ih (μ s') (hn▸hlt) s' hs' Y a1 w1 hS'
    exact ⟨e2,a2,w2,hq2, .of_steps (StepsIn.trans harr (.one (fenced_calm hb hr Y) stepR_inLoop)) harr2⟩
   | exit id => exact ⟨_, a1, w1, hq, .pass (x := .inLoop c) Y (fun _ _ => .inl (by simp)) harr⟩
   | goto l => exact ⟨_, a1, w1, hq, .pass (x := .inLoop c) Y (fun _ _ => .inl (by simp)) harr⟩
   | ret => exact ⟨_, a1, w1, hq, .pass (x := .inLoop c) Y (fun _ _ => .inl (by simp)) harr⟩
   | panic ch => exact ⟨_, a1, w1, hq, .pass (x := .inLoop c) Y (fun _ _ => .inl (by simp)) harr⟩
   | outgrown => exact ⟨_, a1, w1, hq, .pass (x := .inLoop c) Y (fun _ _ => .inl (by simp)) harr⟩
 obtain ⟨e,a',w',hq,harr⟩:=key _ s0 h0 Y a w (hS.sub hg (SubM.refl _))
 exact ⟨e,a',w',hq, .of_steps (.one (fenced_calm hb hr Y) stepR_loop) harr⟩
theorem xp {G:σ→Ctx} {ok:σ→Prop} {μ:σ→Nat} {N:Nat} {Ws:σ→World} {Zs:σ→List Nat} {s:σ} (s':σ) (h:ok s') (hμ:μ s'<μ s) (hg:dI Γ (G s')) (hE:E=⟨Ws s',Zs s', [],N,none⟩) :
  PJ E [] Γ [] .normal (Exit.then (fun a w => ∃ s',ok s'∧μ s'<μ s∧St ⟨Ws s',Zs s', [],N,none⟩ [] (G s') [] a w) Q):=fun a w hS=>⟨s',h,hμ,hE▸hS.sub hg (SubM.refl _)⟩
end
end Tor
end
section
namespace Tor
open Go Go.RowKit Go.Proofs
theorem zQ {p n:Nat} {F:Nat→Nat→Int} {R:Nat→Nat→Nat} {r:Nat→Int} (hp2:2≤p) (hp:p<2147483648) (hn:n≤16) (hF : ∀ i j,(F i j).natAbs≤1099511627776) (i:Nat):(bA n (fun t=>dgs p n R r t*F t i)).natAbs≤37778931862957161709568 :=
 Nat.le_trans (oK (B:=2147483648*1099511627776) (fun t=>by
  rw [Int.natAbs_mul]
  have:eI p n R r n t<p:=jh hp2 n t
  exact Nat.mul_le_mul (by show (eI p n R r n t:Int).natAbs≤2147483648;omega) (hF t i)) n) (Nat.mul_le_mul_right (2147483648*1099511627776) hn)
theorem Ent.clo3 {Ms:Mem} {f:FuncId} {φ ψ φ' ψ' φ'' ψ'':VT} (h:Ent Ms φ ψ) (h':Ent Ms φ' ψ') (h'':Ent Ms φ'' ψ''):Ent Ms (i7 f [φ, φ', φ'']) (i7 f [ψ, ψ', ψ'']):=Ent.clo fun g h0 h1 vs ho hc=>by
 match vs,hc with
 | [v, v', v''], hc => exact ⟨h g h0 h1 v ho hc.1, h' g h0 h1 v' ho hc.2.1, h'' g h0 h1 v'' ho hc.2.2.1, trivial⟩
 | [], hc => exact hc.elim
 | [_], hc => exact hc.2.elim
 | [_, _], hc => exact hc.2.2.elim
 | _ :: _ :: _ :: _ :: _, hc => exact hc.2.2.2.elim
theorem qt.same {Ms:Mem} {cs:cm} : qt Ms cs cs:=fun q hq=>⟨q.2.2,hq,Ent.refl _⟩
abbrev DgZ:Type:=Nat × List Nat × World
attribute [local irreducible] J PJ aK one slT bR bC bv exT cj eP aT aI slV VT.le Ret bL
attribute [local irreducible] aL
theorem oM (p n:Nat) (F:Nat→Nat→Int) (b:Nat→Int) (N:Nat) (hpb:cD p=true) (hp2:2≤p) (hp:p<2147483648) (hinv:uw p) (hF:uy p n F) (hn:n≤16) (hs' : ∀ i j,(F i j).natAbs≤1099511627776) (hb : ∀ i,(b i).natAbs≤1152921504606846976) :
  OkZ Tryz.prog 91 [bR (.agg 3) (bW n n F),bR .one (one (.int .u64 (p:Nat))),bR .one (bJ n b)] (bJ n) (gm p n F b) N:=by
 have hiv:=uH p n F hpb hp2 hp hinv hF X (fun i j=>dn (hs' i j) U)
 unfold bW bJ at *
 refine OkZ.enter Tryz.func91 Y Tryz.ntmps91 Y (fun W0 l J Jx B Ec hA hAx hN hY h0 => ?_)
 refine ae ?_
 refine eG aZ Z Z ?_
 refine ux (fun B=>aO Y) Y Y ?_
 refine ux (fun B=>aO Y) Y Y ?_
 refine uxk (hiv) Y ⟨H,H,Er⟩ Y ?_
 refine ux (fun B=>aO Y) Y Y ?_
 refine ux (fun B=>dZ Y X X) Y Y ?_
 refine uxk (js _ X X) Y ⟨H,Er⟩ Y ?_
 refine ua Y ?_
 refine ux (fun B=>ah Y) Y Y ?_
 refine us Y ?_
 refine RunU.nil (fun γ => ?_)
 refine cU (M' := [_]) Y (aa (ae (ai (El (aO Y) (En Y (Ep (aa (au ?_))))))))
 refine wr (t:=5) Y (fun R=>pw (t:=5) Y (fun hR => ?_))
 refine x5 [_] (Kp := []) (Kp' := []) (List.Perm.refl _) (EntM.refl []) (wv.set (t:=6) Y (Ent.ptr List.mem_cons_self List.mem_cons_self)) ?_
 refine Bz (σ:=DgZ) (fun s=>s.2.2) (fun s=>s.2.1)
  (fun s => [(0,one (.func (.yield l) #[] #[])),(1,bR (.agg 3) (bW n n F)),(2,bR .one (one (.int .u64 (p:Nat)))),(5,slT .one n (fun i=>jg n (R i))),(6,bR (.agg 2) (aL (p:Nat))),(7,bJ n (stR p n F R b s.1))])
  (fun s=>J ((List.range s.1).map fun k=>dgs p n R (stR p n F R b k),s.2.1) s.2.2) (fun s=>N - s.1) (0,Ec,W0) Y Y h0 ?_ (fun s hs => ?_)
 ·exact .cons Y H (.cons Y H (.cons Y H (.cons Y H (.cons Y H (.cons Y H .nil)))))
 obtain ⟨k,Ec,W⟩:=s
 dsimp only at hs ⊢
 have hkN:=hN _ _ hs
 rw [List.length_map,List.length_range] at hkN
 have hst:=zO (R:=R) hp2 hn hs' hb k
 have hdg:=uI p n R (stR p n F R b k) hp2 hp hR.1 X (fun i=>dn (hst i) U)
 have htm:Ok Tryz.prog 94 [bJ n (dgs p n R (stR p n F R b k)),bW n n F] (bv [bJ n (fun j=>bA n (fun t=>dgs p n R (stR p n F R b k) t*F t j)),one (.int .i64 0)]):=by
  have h:=zc n (dgs p n R (stR p n F R b k)) n n F X X (fun j=>Nat.le_trans (show (eI p n R (stR p n F R b k) n j:Int).natAbs≤2147483648 by
   have:eI p n R (stR p n F R b k) n j<p:=jh hp2 n j
   omega) U) (fun i j=>Nat.le_trans (hs' i j) U)
  rw [decide_eq_true Y] at h
  exact h
 have hsl:=fun i=>Nat.le_trans (Nat.le_trans (Int.natAbs_sub_le (stR p n F R b k i) (bA n (fun t=>dgs p n R (stR p n F R b k) t*F t i))) (Nat.add_le_add (hst i) (zQ hp2 hp hn hs' i))) (show 2305843009213693952+37778931862957161709568≤2^100 by decide)
 unfold bJ bW at *
 refine au (ae (ai (Em Y (Em Y (El (aO Y) ?_)))))
 refine El (am (hdg) Y ⟨H,H,H,Er⟩) ?_
 refine En Y (Ep (aa (ae (ae ?_))))
 apply By (m:=2) (dgs p n R (stR p n F R b k)) [(0,_),(1,_),(2,_),(5,_),(6,_),(7,_),(8,_)] hY hA hs (by rw [fR]; exact gm.snoc hR (k+1)) Y Y
 ·refine Em Y (Em Y (Ep ?_))
  refine ⟨rfl,?_⟩
  refine ⟨rfl,?_⟩
  refine ⟨rfl,?_⟩
  refine ⟨rfl,?_⟩
  repeat (first | exact dI.nil | refine dI.cons Y H ?_)
 ·intro W' Z' hJ'
  rw [fR] at hJ'
  refine El (cS Y) (Ep (aa (aB Y (az (aa (ae (ai (Em Y (El (aO Y) ?_)))))))))
  refine El (am (htm) Y ⟨H,H,Er⟩) ?_
  refine Em Y (El (ar Y Y) (El (ar Y Y) (En Y (En Y (Ep (aa (ae (ai (Em Y ?_)))))))))
  refine El (aX Y) ?_
  refine bV n n Y Y Y Y (Nat.le_refl _) Y Y X Y Y (fun bd => ?_)
  refine En Y (Ep (aa (ae (ae (ai (Em Y (El (aX Y) (Em Y (Ep ?_)))))))))
  refine aa (au (co (Γ' := [(0,_),(1,_),(2,_),(5,_),(6,_),(7,_),(9,_),(11,_),(38,_),(39,_),(40,_)]) Eg (SubM.refl _) ?_))
  refine bB (σ:=Nat) (Γk := [(0,_),(1,_),(2,_),(5,_),(6,_),(7,_),(9,_),(11,_),(38,_),(39,_)]) Eg (fun t => [(40,one (.int .i64 (t:Nat)))]) (fun t M0=>(M0.set 0 (aI (some bd) 37 (.agg 2) n n (fun q=>if q<t then aL (stR p n F R b (k+1) q) else bL)))) (fun t=>t≤n) (fun t=>n - t) (0) (Nat.zero_le _) Eh (.keep (ed fun q hq=>by rw [if_neg (Nat.not_lt_zero q)]; exact jN _) (.nil)) (fun t ht => ?_)
  refine bQ (Γ' := [(40,_),(0,_),(1,_),(2,_),(5,_),(6,_),(7,_),(9,_),(11,_),(38,_),(39,_)]) (M' := [_]) Y Y ?_
  by_cases hti:t<n
  ·have hsu:=lP (stR p n F R b k t) (bA n (fun q=>dgs p n R (stR p n F R b k) q*F q t)) (dn (hst t) U) (dn (zQ hp2 hp hn hs' t) U)
   have hdm:=dt (stR p n F R b k t - bA n (fun q=>dgs p n R (stR p n F R b k) q*F q t)) (p:Int) X (dn (hsl t) U) (dn (n:=2147483648) X U)
   refine ae (ai (El (sT X (a6 Y Y)) (Ep (aa (ae (aG Y (az (aa (ae ?_)))))))))
   refine au (ae (ai (Em Y (El (aC Y Y X) (El (aO Y) ?_)))))
   refine aH (T:=37) Y (ltN Y) (fun b13 => ?_)
   refine En Y (aA 0 Y Y Y Y Y (leN Y) Y (Ep (aa ?_)))
   apply iD (Γ1 := [(0,_),(1,_),(2,_),(5,_),(6,_),(7,_),(9,_),(11,_),(38,_),(39,_),(40,_)]) (M1 := [_,_]) 14 3 [] [12,13] aZ Z S
   ·refine Em Y (Em Y (El (ak 0 Y Y Y) (Em Y (Em Y (El (aC Y Y X) (El (aO Y) ?_))))))
    refine El (am (hsu) Y ⟨H,H,Er⟩) ?_
    refine El (aO Y) ?_
    refine El (am (hdm) Y ⟨H,H,Er⟩) ?_
    refine Em Y (El (ar Y Y) (El (ar Y Y) (El (ar Y Y) (Ep ?_))))
    refine nZ (Γe := [(0,_),(1,_),(2,_),(5,_),(6,_),(7,_),(9,_),(11,_),(38,_),(39,_),(40,_),(45,_),(46,_),(47,_),(56,_)]) (rem := [14,15]) Y Ej Y ?_
    refine an (rem' := [15]) (i:=14) Z Y Y ?_ (iC.cons Y (StepG.plain (ar Y Y) Y Y (ltN Y)) Y (iC.cons Y (StepG.plain (ar Y Y) Y Y (ltN Y)) Y iC.nil))
    refine El (ao Y Y X) (Ep ?_)
    refine ⟨rfl,?_⟩
    refine an (rem' := []) (i:=15) Z Y Y ?_ (iC.cons Y (StepG.plain (ar Y Y) Y Y (ltN Y)) Y (iC.cons Y (StepG.plain (ar Y Y) Y Y (ltN Y)) Y iC.nil))
    (refine aw 1 Y Y Y ?_ Y ?_;omega)
    refine Ep ?_
    refine ⟨rfl,?_⟩
    refine aU Ej (SubM.refl _) (iC.cons Y (StepG.plain (ar Y Y) Y Y (ltN Y)) Y (iC.cons Y (StepG.plain (ar Y Y) Y Y (ltN Y)) Y iC.nil))
   ·refine aE (aa (ai (El (bK _ 1 Y Y X) (Em Y (Ep ?_)))))
    refine aP (t+1) X X Eh (.drop (.keep (oJ (G:=fun q=>aL (stR p n F R b (k+1) q))) (.nil)))
  ·have htn:t=n:=by omega
   subst htn
   refine ae (ai (El (sF X (a6 Y Y)) (Ep (aa (ae (aB Y (aY (av (av ?_)))))))))
   refine aF (aa (ai (Em Y (En Y (Ep (aE ?_))))))
   refine iz (dI.refl _) (.keep (bh (ψ:=fun q=>aL (stR p t F R b (k+1) q)) (fun q hq=>by rw [if_pos X])) (SubM.refl _)) ?_
   refine cq (t:=7) (i:=0) Y Y ?_
   refine xp (s:=(k,Ec,W)) (μ:=fun s:DgZ=>N - s.1) (Ws:=fun s:DgZ=>s.2.2) (Zs:=fun s=>s.2.1) (ok:=fun s:DgZ=>J ((List.range s.1).map fun k=>dgs p _ R (stR p _ F R b k),s.2.1) s.2.2) ((k+1,Z',W'):DgZ) hJ' ?_ ?_ Y
   ·exact Nat.sub_lt_sub_left hkN (Nat.lt_succ_self k)
   ·repeat (first | exact dI.nil | refine dI.cons Y H ?_)
 ·intro W' hx'
  rw [fR] at hx'
  refine El (cS Y) (Ep (aa (aG Y (aD (aR (bI (aR (bI ?_))))))))
  exact zP Y hAx hx'
theorem qc (p n:Nat) (F:Nat→Nat→Int) (b:Nat→Int):Ok Tryz.prog 57 [bW n n F,bJ n b,one (.int .u64 (p:Nat))] (i7 91 [bR (.agg 3) (bW n n F),bR .one (one (.int .u64 (p:Nat))),bR .one (bJ n b)]):=by
 refine Ok.enter Tryz.func57 Y Tryz.ntmps57 Y (fun w O => ?_)
 refine ae (ai ?_)
 refine aV Y Y (ltN Y) (fun b3 => ?_)
 refine gL Y Y (ltN Y) (fun b4 => ?_)
 refine gL Y Y (ltN Y) (fun b5 => ?_)
 refine En Y (Ep (aa (ae (ai (El (kE Y) (En Y (Ep (aa (aD ?_)))))))))
 refine i6 [_,_,_] (Kp := []) (Kp' := []) (List.Perm.refl _) (EntM.refl []) (wv.set (t:=6) Y (Ent.clo3 (Ent.ptrW (List.mem_cons_of_mem _ (List.mem_cons_of_mem _ List.mem_cons_self)) (qt.same)) (Ent.ptr List.mem_cons_self List.mem_cons_self) (Ent.ptr (List.mem_cons_of_mem _ List.mem_cons_self) List.mem_cons_self))) ?_
 unfold bW bJ
 refine aS Tryz.results57 (.tmp Y H)
end Tor
end
section
set_option linter.unusedSectionVars false
namespace Tor
open Go Go.RowKit
section
variable {P:Program} {E:Env} {D:List Deferred} {Γ Γ1:Ctx} {M M1:Mem} {Q:Exit→Act→World→Prop}
theorem Db {c rest:Code} {l:Nat} (hE:E.R=none) (hf:findLabel c l=some rest) (h:J P E D Γ M c (Exit.jump l (St E D Γ1 M1) Q)) (h1:J P E D Γ1 M1 rest (Exit.jump l (fun _ _=>False) Q)) :
  J P E D Γ M (.scope c) Q:=fun a w hS hd=>by
 rw [hE]
 refine wpIn_wide.2 (wp_scope_jumps l (St E D Γ1 M1) (fun _ _=>0) hf ((h a w hS).wp hE) fun a' w' hS'=>((h1 a' w' hS').mono ?_).wp hE)
 rintro e a2 w2 hq
 cases e <;> first
  | exact hq
  | exact hq.2.elim
theorem BA {l:Nat} {Q:Exit→Act→World→Prop} (hg:dI Γ Γ1) (hm:SubM M M1):PJ E D Γ M (.goto l) (Exit.jump l (St E D Γ1 M1) Q):=fun a w hS=>⟨rfl,hS.sub hg hm⟩
theorem Dc {l:Nat} (h:PJ E D Γ M (.goto l) Q):J P E D Γ M (.goto l) Q:=fun a w hS _=>wpIn_goto (h a w hS)
theorem BB {id:Nat} {n:Act→World→Prop} (h:PJ E D Γ M (.goto id) Q):PJ E D Γ M (.goto id) (Exit.then n Q):=h
theorem BC {l:Nat} {K:Act→World→Prop} (h:PJ E D Γ M .ret Q):PJ E D Γ M .ret (Exit.jump l K Q):=h
end
end Tor
end
section
namespace Tor
open Go Go.RowKit Go.Proofs
attribute [local irreducible] J PJ aK one slT bR bC bv exT cj eP aT aI slV VT.le Ret bL
theorem xq (d:Int) (p q:Nat) (hd:bm d) (hp:bf cD 2147483648=p) (hq:bf cD p=q) (hq0:2<q) (hp':p<2147483648) (hqp:q<p) (h:d % (p:Int)=0) (h2:d % (q:Int)≠0):Ok Tryz.prog 56 [aL d] (one (.int .u64 (q:Nat))):=by
 have hb:=mE 2147483648 S
 rw [hp] at hb
 have hc:=mE p X
 rw [hq] at hc
 have hr:=ia p d X X hd
 have hr2:=ia q d X X hd
 have hz:(d % (q:Int)).toNat≠0:=by
  have:=Int.emod_nonneg d (show (q:Int)≠0 by omega)
  omega
 rw [h] at hr
 generalize (d % (q:Int)).toNat=k at *
 refine Ok.enter Tryz.func56 Y Tryz.ntmps56 Y (fun w O => ?_)
 refine ae (ai ?_)
 refine aV Y Y (ltN Y) (fun b1 => ?_)
 refine En Y (Ep (aa ?_))
 refine Db (l:=0) (Γ1 := [(3,one (.int .u64 (q:Nat))),(1,one (.pointer (some ⟨b1,0,none⟩)))]) (M1 := [aT b1 37 2 [(0, .one,one (.bool (decide (d<0)))),(1, .one,cp (aJ d.natAbs))]]) Y Y ?_ ?_
 ·refine ae (ai ?_)
  refine El (am (hb) Y ⟨H,Er⟩) ?_
  refine En Y (Ep (aa (ae (jZ (aa (ae (ae (ai (Em Y ?_)))))))))
  refine El (aN 0 Y Y) ?_
  refine El (am (hr) Y ⟨H,H,Er⟩) ?_
  refine El (sT X (cg Y Y)) (Em Y (Eo (ab Y) (Eo (sT X (cW Y Y)) (El (bk Y Y) (Ep (aa (aG Y (ae (ai ?_)))))))))
  refine Em Y ?_
  refine El (am (hc) Y ⟨H,Er⟩) ?_
  refine En Y (Ep (aa (Dc ?_)))
  refine BB (BA ?_ ?_)
  ·exact .cons Y H (.cons Y H .nil)
  ·exact SubM.refl _
 ·refine ae (az (aa (ae (ae (ai (Em Y (El (aN 0 Y Y) ?_)))))))
  refine El (am (hr2) Y ⟨H,H,Er⟩) ?_
  refine El (sF X (cg Y Y)) (Em Y (sn0 Y Y Y Y Y (sn0 Y Y Y Y Y (El (bE Y Y) (Ep (aa (aB Y (az (aa ?_)))))))))
  refine ae (ai (Em Y (En Y (Ep (aa (aD (BC ?_)))))))
  refine aS Tryz.results56 (.tmp Y H)
end Tor
end
section
namespace Tor
open Go Go.RowKit Go.Proofs
theorem gm.init {p n:Nat} {F:Nat→Nat→Int} {b:Nat→Int} {pre:List (Nat→Int)} {x:Nat→Int} (h:gm p n F b (pre ++ [x])):gm p n F b pre:=by
 obtain ⟨R,hR,he⟩:=h
 rw [List.length_append,show pre.length + [x].length=pre.length+1 from rfl, ← fR] at he
 exact ⟨R,hR,List.append_inj_left' he Y⟩
abbrev z0:Nat→Int:=fun _=>0
def oN (n:Nat) (l:List (Nat→Int)):VT:=slT .one l.length (fun i=>bJ n (l.getD i z0))
theorem xr {sv:Option Nat} {T:TypeId} {n cap:Nat} {x:Nat→Int} {l:List (Nat→Int)} : Own.le (aI sv T .one cap (l.length+1) (fun q=>if q<l.length then bJ n (l.getD q z0) else bJ n x)) (aI sv T .one cap (l ++ [x]).length (fun q=>bJ n ((l ++ [x]).getD q z0))):=by
 refine gY (by simp) (fun q hq => ?_)
 by_cases h:q<l.length
 ·rw [if_pos h]; simp only [List.getD]; rw [List.getElem?_append_left h]
 ·have:q=l.length:=by omega
  subst this;rw [if_neg h]; simp [List.getD]
theorem zR {b:Nat} {T:TypeId} : Own.le (aT b T 1 [(0, .one,one (.slice none 0 0))]) (aT b T 1 [(0, .one,one (slV none 0 0))]):=Own.le_refl _
theorem xt {b:Nat} {T:TypeId} {φ:VT} {sv:Option Nat} {l l' cap:Nat} (h:l+1=l'):Own.le (aT b T 1 (ku [(0, .one, φ)] 0 (one (slV sv (l+1) cap)))) (aT b T 1 [(0, .one,one (slV sv l' cap))]):=by
 subst h;exact Own.le_refl _
theorem s7 {n:Nat} {l:List (Nat→Int)} (h:l = []):VT.le (one (.slice none 0 0)) (oN n l):=by subst h;exact eV
attribute [local irreducible] J PJ aK one slT bR bC bv exT cj eP aT aI slV VT.le Ret bL
attribute [local irreducible] aL
theorem uK (n:Nat) (F:Nat→Nat→Int) (b:Nat→Int) (k:Int) (h:k<0∨64<k):Ok Tryz.prog 15 [bW n n F,bJ n b,one (.int .i64 k)] (bv [oN 0 [],one (.int .u64 0),one (.int .i64 1)]):=by
 have hf:=l4 n n n F b
 rw [decide_eq_true ⟨rfl,rfl⟩] at hf
 refine Ok.enterR Tryz.func15 Y Tryz.ntmps15 Y (fun w O => ?_)
 by_cases h1:k<0
 ·refine ae (ai ?_)
  refine aV Y Y (ltN Y) (fun b3 => ?_)
  refine gL Y Y (ltN Y) (fun b5 => ?_)
  refine En Y (En Y (En Y (Ep (aa (ae (ae (ai (El (aN 1 Y Y) (Em Y ?_)))))))))
  refine El (am (hf) Y ⟨H,H,Er⟩) ?_
  refine El (cS Y) (Ep (aa (aB Y (az (aa (ae (ae (ai (El (ak 0 Y Y Y) ?_)))))))))
  refine El (sT (by assumption) (a6 Y Y)) (Em Y (sn0 Y Y Y Y Y (sn0 Y Y Y Y Y (El (bk Y Y) (Ep (aa (aG Y (ae (ai ?_)))))))))
  refine En Y (En Y (En Y (Ep (aa (aD (aR (j8 ?_)))))))
  refine jp Tryz.results15 (.tmp Y (s7 Y)) (.tmp Y H) (.tmp Y H)
 ·have h2:64<k:=by omega
  refine ae (ai ?_)
  refine aV Y Y (ltN Y) (fun b3 => ?_)
  refine gL Y Y (ltN Y) (fun b5 => ?_)
  refine En Y (En Y (En Y (Ep (aa (ae (ae (ai (El (aN 1 Y Y) (Em Y ?_)))))))))
  refine El (am (hf) Y ⟨H,H,Er⟩) ?_
  refine El (cS Y) (Ep (aa (aB Y (az (aa (ae (ae (ai (El (ak 0 Y Y Y) ?_)))))))))
  refine El (sF (by assumption) (a6 Y Y)) (Em Y (Eo (ak 0 Y Y Y) (Eo (sT (by assumption) (cW Y Y)) (El (bE Y Y) (Ep (aa (aG Y (ae (ai ?_)))))))))
  refine En Y (En Y (En Y (Ep (aa (aD (aR (j8 ?_)))))))
  refine jp Tryz.results15 (.tmp Y (s7 Y)) (.tmp Y H) (.tmp Y H)
theorem xu (p n k:Nat) (F:Nat→Nat→Int) (b:Nat→Int) (d:Int) (hpb:cD p=true) (hp2:2≤p) (hp:p<2147483648) (hinv:uw p) (hF:uy p n F) (hn:n≤16) (hs : ∀ i j,(F i j).natAbs≤1099511627776) (hb : ∀ i,(b i).natAbs≤1152921504606846976)
  (hdet:Ok Tryz.prog 50 [bW n n F] (bv [aL d,one (.int .i64 0)])) (hd:d≠0) (hpr:Ok Tryz.prog 56 [aL d] (one (.int .u64 (p:Nat)))) (hk:k≤64) :
  Ok Tryz.prog 15 [bW n n F,bJ n b,one (.int .i64 (k:Nat))] (exT fun pre:List (Nat→Int)=>cj (gm p n F b pre∧pre.length=k) (bv [oN n pre,one (.int .u64 (p:Nat)),one (.int .i64 0)])):=by
 have hf:=l4 n n n F b
 rw [decide_eq_true ⟨rfl,rfl⟩] at hf
 have hdg:=qc p n F b
 have hit:=oM p n F b (k+1) hpb hp2 hp hinv hF hn hs hb
 have hsz:=eH d
 have hsg:=dc d
 have hsz':c9 d≠0:=fun e=>hd (hsz.1 e)
 refine Ok.enterR Tryz.func15 Y Tryz.ntmps15 Y (fun w O => ?_)
 refine ae (ai ?_)
 refine aV Y Y (ltN Y) (fun b3 => ?_)
 refine gL Y Y (ltN Y) (fun b5 => ?_)
 refine En Y (En Y (En Y (Ep (aa (ae (ae (ai (El (aN 1 Y Y) (Em Y ?_)))))))))
 refine El (am (hf) Y ⟨H,H,Er⟩) ?_
 refine El (cS Y) (Ep (aa (aB Y (az (aa (ae (ae (ai (El (ak 0 Y Y Y) ?_)))))))))
 refine El (sF X (a6 Y Y)) (Em Y (Eo (ak 0 Y Y Y) (Eo (sF X (cW Y Y)) (El (bE Y Y) (Ep (aa (aB Y (az (aa ?_)))))))))
 refine ae (ai (El (aN 1 Y Y) ?_))
 refine El (am (hdet) Y ⟨H,Er⟩) ?_
 refine Em Y (El (ar Y Y) (El (ar Y Y) ?_))
 refine aH (T:=37) Y (ltN Y) (fun b9 => ?_)
 refine aA 0 Y Y Y Y Y (leN Y) Y (En Y (Ep (aa (ae (ae (ai (El (ak 0 Y Y Y) ?_)))))))
 refine El (am (hsg) Y ⟨H,Er⟩) ?_
 refine El (sF (by assumption) (cg Y Y)) (Ep (aa (aB Y (az (aa (ae (ai (El (ak 0 Y Y Y) ?_))))))))
 refine El (am (hpr) Y ⟨H,Er⟩) ?_
 refine En Y (Ep (aa (ae (ai ?_))))
 refine aH (T:=43) Y (ltN Y) (fun b12 => ?_)
 refine Ep (aa (ae (ae (ai (El (aN 3 Y Y) (Em Y (Em Y ?_)))))))
 refine El (am (hdg) Y ⟨H,H,H,Er⟩) ?_
 refine Ep (aa (au ?_))
 refine gc (ConvM.nilSl0 (T:=33) (L := .one) (φ:=fun q=>bJ n (([]:List (Nat→Int)).getD q z0)) _) ?_
 refine s6 (σ:=Option Nat × Nat × List (Nat→Int)) hit (fun s => [aI s.1 33 .one s.2.1 s.2.2.length (fun q=>bJ n (s.2.2.getD q z0)),aT b12 43 1 [(0, .one,one (slV s.1 s.2.2.length s.2.1))],aT b5 3 1 [(0, .one,one (.int .i64 (k:Nat)))]])
  (fun pre s=>s.2.2=pre∧pre.length≤k) (fun e pre s=>e=some 0∧gm p n F b s.2.2∧s.2.2.length=k) (none,0, []) Y Y (fun pre s h=>Nat.lt_succ_of_le h.2) ⟨rfl,Nat.zero_le _⟩
  (.keep (bh (fun q hq=>absurd hq (Nat.not_lt_zero _))) (.keep zR (.drop (.keep Ek (SubM.nilR _))))) Y Y (by simp [fW,gb])
  (fun l W pre x s hs hgo => ?_) (fun pre s D hs=>absurd hs.1 (by simp)) (fun id pre s D hs => ?_)
 ·obtain ⟨sv,cap,m⟩:=s
  obtain ⟨hm,hl⟩:=hs
  dsimp only at hm hl ⊢
  subst hm
  by_cases he:m.length=k
  ·refine au (ae (ae (ai (El (ak 1 Y Y Y) (El (cw Y) (El (ak 2 Y Y Y) (El (sT X (cg Y Y)) (Ep (aa ?_)))))))))
   refine aG Y (aY (av (c8 Y ?_)))
   exact rT (sv,cap,m) ⟨rfl,hgo.init,he⟩ (SubM.refl _)
  ·refine au (ae (ae (ai (El (ak 1 Y Y Y) (El (cw Y) (El (ak 2 Y Y Y) (El (sF X (cg Y Y)) (Ep (aa ?_)))))))))
   refine aB Y (az (aa (ai (El (ak 1 Y Y Y) (Em Y (gv Y Y Y Y ?_))))))
   (refine cT 0 Y Y Y (leN Y) ?_ ?_ Y (ltN Y) (fun sv46 cap46 => ?_);omega;omega)
   refine aA 1 Y Y Y Y Y (leN Y) Y (Ep (aE ?_))
   exact nY (sv46,cap46,m ++ [x]) ⟨rfl,by simp;omega⟩ (.keep xr (.keep (xt (by simp)) (SubM.refl _)))
 ·obtain ⟨sv,cap,m⟩:=s
  obtain ⟨hid,hm,hl⟩:=hs
  cases hid
  dsimp only at hm hl ⊢
  refine aF (aa (ae (ai (El (ak 2 Y Y Y) (Em Y (En Y (En Y (En Y (Ep ?_)))))))))
  refine aa (aD (nn (cq (t:=6) (i:=0) Y Y ?_)))
  refine r7 (ψ:=bv [oN n m,one (.int .u64 (p:Nat)),one (.int .i64 0)]) (nN m (lg ⟨hm,hl⟩ H)) ?_
  refine jp Tryz.results15 (.tmp Y H) (.tmp Y H) (.tmp Y H)
end Tor
end
section
namespace Tor
open Go Go.RowKit Go.Proofs
def kS (s:Nat):Nat→Nat × Int→Nat × Int→Nat × Int
 | 0, _, y => y
 | f + 1, x, y => if s < y.1 then kS s f y (x.1 % y.1, x.2 - ((x.1 / y.1 : Nat) : Int) * y.2) else y
theorem mF (s:Nat) : ∀ (f g:Nat) (x y:Nat × Int),y.1<f→y.1<g→kS s f x y=kS s g x y
 | 0, _, _, _, h, _ => absurd h (Nat.not_lt_zero _)
 | _ + 1, 0, _, _, _, h => absurd h (Nat.not_lt_zero _)
 | f + 1, g + 1, x, y, h1, h2 => by
  rw [kS,kS]
  by_cases c:s<y.1
  ·rw [if_pos c,if_pos c]
   have:=Nat.mod_lt x.1 (show 0<y.1 by omega)
   exact mF s f g _ _ (by show x.1 % y.1<f;omega) (by show x.1 % y.1<g;omega)
  ·rw [if_neg c,if_neg c]
structure EucR (m s:Nat) (R:Nat × Int) (x y:Nat × Int):Prop where
 eq : ∀ f,y.1<f→kS s f x y=R
 lt:y.1<x.1
 le:x.1≤m
 w:x.2.natAbs*y.1+y.2.natAbs*x.1≤m
 u:x.2.natAbs≤m
 v:y.2.natAbs≤m
theorem EucR.step {m s:Nat} {R x y:Nat × Int} (h:EucR m s R x y) (hc:s<y.1):EucR m s R y (x.1 % y.1,x.2 - ((x.1 / y.1:Nat):Int)*y.2)∧(((x.1 / y.1:Nat):Int)*y.2).natAbs≤m:=by
 have hy:0<y.1:=by omega
 have hm:=Nat.mod_lt x.1 hy
 have hd:=Nat.div_add_mod x.1 y.1
 have hlt:=h.lt
 have hle:=h.le
 have hw:=h.w
 have e1:(((x.1 / y.1:Nat):Int)*y.2).natAbs=x.1 / y.1*y.2.natAbs:=by rw [Int.natAbs_mul,Int.natAbs_natCast]
 have e2:(x.2 - ((x.1 / y.1:Nat):Int)*y.2).natAbs≤x.2.natAbs+x.1 / y.1*y.2.natAbs:=by rw [← e1]; omega
 have e3:x.1 / y.1*y.2.natAbs≤y.2.natAbs*x.1:=by rw [Nat.mul_comm]; exact Nat.mul_le_mul_left _ (Nat.div_le_self _ _)
 have e4:y.2.natAbs*(x.1 % y.1)+(x.2 - ((x.1 / y.1:Nat):Int)*y.2).natAbs*y.1≤m:=by
  have k1:=Nat.mul_le_mul_right y.1 e2
  have k2:(x.2.natAbs+x.1 / y.1*y.2.natAbs)*y.1+y.2.natAbs*(x.1 % y.1)=x.2.natAbs*y.1+y.2.natAbs*x.1:=by
   conv=>rhs;rw [← hd]
   rw [Nat.add_mul,Nat.mul_add]
   have:x.1 / y.1*y.2.natAbs*y.1=y.2.natAbs*(y.1*(x.1 / y.1)):=by ac_rfl
   omega
  omega
 refine ⟨⟨fun f hf => ?_,hm,by omega,e4,h.v,?_⟩,by rw [e1]; omega⟩
 ·have:=h.eq (y.1+1) X
  rw [kS,if_pos hc] at this
  rw [← this]
  exact mF s _ _ _ _ hf hm
 ·have k3:(x.2 - ((x.1 / y.1:Nat):Int)*y.2).natAbs≤(x.2 - ((x.1 / y.1:Nat):Int)*y.2).natAbs*y.1:=Nat.le_mul_of_pos_right _ hy
  show (x.2 - ((x.1 / y.1:Nat):Int)*y.2).natAbs≤m
  omega
theorem EucR.start {m s r:Nat} (hr:r<m):EucR m s (kS s (m+1) (m,0) (r,1)) (m,0) (r,1) :=
 ⟨fun f hf=>mF s _ _ _ _ hf (by show r<m+1;omega),hr,Nat.le_refl _,by simp,by simp,by show (1:Int).natAbs≤m;omega⟩
theorem EucR.fin {m s:Nat} {R x y:Nat × Int} (h:EucR m s R x y) (hc : ¬ s<y.1):y=R:=by
 have:=h.eq (y.1+1) X
 rwa [kS,if_neg hc] at this
def ji (a:Int) (m s:Nat) (f:Rat):Bool:=decide (f.num.natAbs≤s) && (decide (f.den≤s) && (decide (Nat.gcd f.den m=1) && decide ((f.num - a*f.den) % (m:Int)=0)))
def uL (a:Int) (m s:Nat):Option Rat :=
 let y:=kS s (m+1) (m,0) ((a % (m:Int)).toNat,1)
 if y.2=0 then none else if ji a m s (Rat.divInt (y.1:Int) y.2)=true then some (Rat.divInt (y.1:Int) y.2) else none
def Dd:Option Rat→VT
 | some q => cB q
 | none => dE 0 0
theorem vZ {a b:Int} : (Rat.divInt a b).num.natAbs≤a.natAbs:=by
 rw [Rat.num_divInt]
 by_cases hb:b=0
 ·subst hb;simp
 ·have h1:b.sign*a=a∨b.sign*a = -a:=by
   rcases Int.lt_trichotomy b 0 with h | h | h
   ·right;rw [Int.sign_eq_neg_one_of_neg h]; omega
   ·exact absurd h hb
   ·left;rw [Int.sign_eq_one_of_pos h]; omega
  have h2:=Int.natAbs_ediv_le_natAbs (b.sign*a) ((b.gcd a:Nat):Int)
  rcases h1 with h | h <;> rw [h] at h2 ⊢ <;> omega
theorem zS {a b:Int} (hb:b≠0):(Rat.divInt a b).den≤b.natAbs:=by
 rw [Rat.den_divInt,if_neg hb]; exact Nat.div_le_self _ _
theorem eE {x:Int} {n:Nat} (h:x.natAbs≤2^n) (hn:n<2048):bm x:=dm (Nat.lt_of_le_of_lt h (Nat.pow_lt_pow_right (a:=2) (m:=n) (n:=2048) S hn))
theorem DO {a:Int} {m s:Nat} {f:Rat} : (decide (cY (f.num.natAbs:Int) (s:Int)≤0) == true && (decide (cY (f.den:Int) (s:Int)≤0) == true && (decide (cY ((Nat.gcd f.den m:Nat):Int) 1=0) == true && decide (c9 ((f.num - a*(f.den:Int)) % (m:Int))=0) == true)))=ji a m s f:=by
 unfold ji
 have h1 : ∀ x y:Int,cY x y≤0↔x≤y:=fun x y=>by unfold cY;split <;> (try split) <;> omega
 have h2 : ∀ x y:Int,cY x y=0↔x=y:=fun x y=>by unfold cY;split <;> (try split) <;> omega
 have h3 : ∀ x:Int,c9 x=0↔x=0:=fun x=>by unfold c9;split <;> (try split) <;> omega
 simp only [h1,h2,h3,beq_true]
 congr 1
 ·congr 1;simp
 ·congr 1
  ·congr 1;simp
  ·congr 1;congr 1;simp;omega
theorem De {x y:Nat} (h:x≤2^800) (h':y≤2^800):x*y≤2^1600:=by
 have h2:=CJ 800 1600 Y
 exact Nat.le_trans (Nat.mul_le_mul h h') (Nat.le_of_eq h2.symm)
theorem BD {b:Nat} {T:TypeId} {φ ψ φ' ψ':VT} (h:VT.le φ φ') (h':VT.le ψ ψ'):Own.le (aT b T 4 [(0, .agg 2, φ),(2, .agg 2, ψ)]) (aT b T 4 [(0, .agg 2, φ'),(2, .agg 2, ψ')]):=qq (fun q hq=>by
 rcases List.mem_cons.1 hq with rfl | hq
 ·exact ⟨_,List.mem_cons_self,h⟩
 ·rcases List.mem_cons.1 hq with rfl | hq
  ·exact ⟨_,List.mem_cons_of_mem _ List.mem_cons_self,h'⟩
  ·cases hq)
instance:QuadOf Tryz.prog 140 4:=QuadOf.by_info Z Z Z
attribute [local irreducible] J PJ aK one slT bR bC bv exT cj eP aT aI slV VT.le Ret bL
theorem s8 (a:Int) (m s:Nat) (hm:2≤m) (hm8:m≤2^800) (ha:a.natAbs≤2^800) (hs1:s*s≤(m - 1) / 2) (hs2:(m - 1) / 2<(s+1)*(s+1)) :
  Ok Tryz.prog 60 [aL a,aL (m:Int)] (bv [Dd (uL a m s),one (.int .i64 (if (uL a m s).isSome then 0 else 41))]):=by
 have h1:=js 1 S S
 have h2:=js 2 S S
 have hcm:=gB (m:Int) 2
 have hc : ¬ cY (m:Int) 2<0:=by unfold cY;split <;> (try split) <;> omega
 have sma:bm a:=eE ha S
 have smm:bm (m:Int):=eE (n:=800) hm8 S
 have sm1:bm 1:=dm U
 have sm2:bm 2:=dm U
 have hsu:=lP (m:Int) 1 smm sm1
 rw [show (m:Int) - 1=((m - 1:Nat):Int) by omega] at hsu
 have hd1:=dt ((m - 1:Nat):Int) 2 S (cO smm X) sm2
 rw [show ((m - 1:Nat):Int) / 2=(((m - 1) / 2:Nat):Int) from (Int.natCast_ediv _ _).symm,show ((m - 1:Nat):Int) % 2=(((m - 1) % 2:Nat):Int) from (Int.natCast_emod _ _).symm] at hd1
 have hro:Ok Tryz.prog 101 [aL (((m - 1) / 2:Nat):Int)] (bv [aL (s:Int),one (.int .i64 0)]):=by
  by_cases h0:(m - 1) / 2=0
  ·have:s=0:=by
    rcases Nat.eq_zero_or_pos s with h | h
    ·exact h
    ·have:=Nat.mul_le_mul h h;omega
   rw [h0,this]; exact su
  ·exact vJ _ s (Nat.lt_of_lt_of_le (show (m - 1) / 2<m by omega) hm8) h0 hs1 hs2
 have hd2:=dt a (m:Int) X sma smm
 have hr0:=Int.emod_nonneg a (show (m:Int)≠0 by omega)
 have hr1:=Int.emod_lt_of_pos a (show 0<(m:Int) by omega)
 refine Ok.enter Tryz.func60 Y Tryz.ntmps60 Y (fun w O => ?_)
 unfold uL
 dsimp only
 obtain ⟨r,hr⟩ : ∃ r,r=(a % (m:Int)).toNat:=⟨_,rfl⟩
 have hre:a % (m:Int)=(r:Int):=by omega
 have hd2':=hd2
 rw [hre] at hd2'
 rw [← hr]
 have hE:=EucR.start (m:=m) (s:=s) (r:=r) X
 generalize kS s (m+1) (m,0) (r,1)=R at *
 refine ae (ai ?_)
 refine aV Y Y (ltN Y) (fun b2 => ?_)
 refine aV Y Y (ltN Y) (fun b3 => ?_)
 refine bD (T:=58) Y Y Y (fun b4 => ?_)
 refine En Y (Ep (aa (ae (ai ?_))))
 refine El (am (h1) Y ⟨H,Er⟩) ?_
 refine El (am (h2) Y ⟨H,Er⟩) ?_
 refine aH (T:=37) Y (ltN Y) (fun b6 => ?_)
 refine aH (T:=37) Y (ltN Y) (fun b7 => ?_)
 refine aA 1 Y Y Y Y Y (leN Y) Y (aA 0 Y Y Y Y Y (leN Y) Y (Ep (aa (ae (ae (ai (El (aN 3 Y Y) (El (ak 0 Y Y Y) ?_))))))))
 refine El (am (hcm) Y ⟨H,H,Er⟩) ?_
 refine El (sF (by assumption) (a6 Y Y)) (Ep (aa (aB Y (az (aa (ae ?_))))))
 refine eG aZ Z Z ?_
 refine ux (fun B=>aN 3 Y Y) Y Y ?_
 refine ux (fun B=>ak 1 Y Y Y) Y Y ?_
 refine uxk (hsu) Y ⟨H,H,Er⟩ Y ?_
 refine ux (fun B=>ak 0 Y Y Y) Y Y ?_
 refine uxk (hd1) Y ⟨H,H,Er⟩ Y ?_
 refine ux (fun B=>ab Y) Y Y ?_
 refine ux (fun B=>ar Y Y) Y Y ?_
 refine ux (fun B=>ar Y Y) Y Y ?_
 refine ux (fun B=>ar Y Y) Y Y ?_
 refine ua Y (ua Y (us Y (us Y ?_)))
 refine ux (fun B=>ah Y) Y Y ?_
 refine RunU.nil (fun γ => ?_)
 refine cU (M' := [_,_,_,_,_,_,_]) Y (aa (ae (ai (El (ak 1 Y Y Y) ?_))))
 refine El (am (hro) Y ⟨H,Er⟩) ?_
 refine Em Y (El (ar Y Y) (El (ar Y Y) ?_))
 refine aH (T:=37) Y (ltN Y) (fun b11 => ?_)
 refine aA 0 Y Y Y Y Y (leN Y) Y (En Y (Ep (aa (ae (ai (El (aN 7 Y Y) (El (aN 6 Y Y) ?_)))))))
 refine El (am (hd2') Y ⟨H,H,Er⟩) ?_
 refine Em Y (El (ar Y Y) (El (ar Y Y) (El (ar Y Y) ?_)))
 refine aH (T:=37) Y (ltN Y) (fun b13 => ?_)
 refine aH (T:=37) Y (ltN Y) (fun b14 => ?_)
 refine aA 1 Y Y Y Y Y (leN Y) Y (aA 0 Y Y Y Y Y (leN Y) Y (En Y (Ep (aa (ae ?_)))))
 refine eG aZ Z Z ?_
 refine ux (fun B=>aN 8 Y Y) Y Y ?_
 refine uB Y Y Y (BuildK.nil (uB Y Y Y (BuildK.cons Y Y Y (BuildK.cons Y Y Y (BuildK.nil ?_)))))
 refine ux (fun B=>ak 0 Y Y Y) Y Y ?_
 refine ux (fun B=>ak 6 Y Y Y) Y Y ?_
 refine uB Y Y Y (BuildK.cons Y Y Y (BuildK.cons Y Y Y (BuildK.nil (ua Y (ua Y (us Y (us Y ?_)))))))
 refine RunU.nil (fun γ => ?_)
 refine cU (M' := [_,_,_,_,_,_,_,_,_,_,_,_]) Y (iz (dI.refl _) (.keep jK (.keep jK (SubM.refl _))) (aa (ae (au (co (Γ' := [(2,_),(3,_),(4,_),(5,_),(6,_),(11,_),(16,_),(17,_)]) Eg (SubM.refl _) ?_)))))
 refine bB (σ:=(Nat × Int) × (Nat × Int)) (Γk := [(2,_),(3,_),(4,_),(5,_),(6,_),(11,_),(16,_),(17,_)]) Eg (fun p => []) (fun p M0=>((M0.set 0 (aT (γ 17) 137 4 [(0, .agg 2,aL (p.2.1:Nat)),(2, .agg 2,aL p.2.2)])).set 1 (aT (γ 16) 137 4 [(0, .agg 2,aL (p.1.1:Nat)),(2, .agg 2,aL p.1.2)]))) (fun p=>EucR m s R p.1 p.2) (fun p=>p.2.1) (((m,0),(r,1))) (hE) Eh (.keep Ek (.keep (BD H iN) (.keep Ek (.keep Ek (.keep Ek (.keep Ek (.keep Ek (.keep Ek (.keep Ek (.keep Ek (.keep Ek (.keep Ek (.nil))))))))))))) (fun p hp => ?_)
 refine bQ (Γ' := [(2,_),(3,_),(4,_),(5,_),(6,_),(11,_),(16,_),(17,_)]) (M' := [_,_,_,_,_,_,_,_,_,_,_,_]) Y Y ?_
 obtain ⟨x,y⟩:=p
 dsimp only at hp ⊢
 have hcy:=gB (y.1:Int) (s:Int)
 have q1:=hp.lt
 have q2:=hp.le
 have q3:=hp.u
 have q4:=hp.v
 by_cases hys:s<y.1
 ·have hcc:0<cY (y.1:Int) (s:Int):=by unfold cY;rw [if_neg X,if_pos X]; decide
  obtain ⟨n1,n2⟩:=hp.step hys
  have q5:=Nat.div_le_self x.1 y.1
  have hnx:=Bc (x.1:Int) x.2 (y.1:Int) y.2 X (cO smm X) (cO smm X) (cO smm X) (cO smm X) (cO smm (by rw [← Int.natCast_ediv,Int.natAbs_natCast,Int.natAbs_natCast]; exact Nat.le_trans q5 q2)) (cO smm (by rw [← Int.natCast_ediv,Int.natAbs_natCast]; exact n2))
  rw [← Int.natCast_ediv, ← Int.natCast_emod] at hnx
  refine ae (ae (ai (El (aj Y) (El (ak 0 Y Y Y) (El (ak 4 Y Y Y) ?_)))))
  refine El (am (hcy) Y ⟨H,H,Er⟩) ?_
  refine El (sT (by assumption) (cW Y Y)) (Ep (aa (aG Y (az (aa (au (fo 4 aZ Z S (El (aN 0 Y Y) (El (aN 1 Y Y) ?_)))))))))
  refine El (aN 0 Y Y) ?_
  refine El (am (hnx) Y ⟨H,H,Er⟩) ?_
  refine Ep (a4 1 Y Y Y Y (a4 0 Y Y Y Y (Ep (aE ?_))))
  refine aP ((y,(x.1 % y.1,x.2 - ((x.1 / y.1:Nat):Int)*y.2))) (n1) (Nat.mod_lt _ X) Eh (.keep Ek (.keep Ek (.keep Ek (.keep Ek (.keep Ek (.keep Ek (.keep Ek (.keep Ek (.keep Ek (.keep Ek (.keep Ek (.keep Ek (.nil)))))))))))))
 ·have hcc : ¬ 0<cY (y.1:Int) (s:Int):=by unfold cY;split <;> (try split) <;> omega
  have hyR:=hp.fin hys
  subst hyR
  by_cases hy0:y.2=0
  ·rw [if_pos hy0]
   have hq:=Bb (y.1:Int)
   rw [hy0]
   unfold dE at hq
   unfold Dd dE
   refine ae (ae (ai (El (aj Y) (El (ak 0 Y Y Y) (El (ak 4 Y Y Y) ?_)))))
   refine El (am (hcy) Y ⟨H,H,Er⟩) ?_
   refine El (sF (by assumption) (cW Y Y)) (Ep (aa (aB Y (aY (av (av (aF (aa (ae ?_)))))))))
   refine ai (El (aj Y) (El (ak 0 Y Y Y) (El (aj Y) (El (ak 0 Y Y Y) ?_))))
   refine El (am (hq) Y ⟨H,H,Er⟩) ?_
   refine Em Y (El (ar Y Y) (El (ar Y Y) ?_))
   refine bD (T:=58) Y Y Y (fun b18 => ?_)
   refine a4 0 Y Y Y Y (En Y (Ep (aa (ae (ae (ai (Em Y (El (sT X (dy Y Y)) (Ep ?_)))))))))
   refine aa (aG Y (ae (ai (stB Y Y Y (BuildK.nil (a4 10 Y Y Y Y (En Y (Ep (aa ?_)))))))))
   refine aD (aR ?_)
   refine dg Tryz.results60 (.cellW 10 Y Y (t9)) (.tmp Y H)
  ·rw [if_neg hy0]
   have smy1:bm (y.1:Int):=cO smm X
   have smy2:bm y.2:=cO smm X
   have hq:=CK (y.1:Int) y.2 hy0 smy1 smy2
   have hnl:=vZ (a:=(y.1:Int)) (b:=y.2)
   have hdl:=zS (a:=(y.1:Int)) hy0
   have hden0:=(Rat.divInt (y.1:Int) y.2).den_nz
   generalize Rat.divInt (y.1:Int) y.2=f at *
   unfold cB dE at hq
   have smn:bm f.num:=cO smm X
   have smd:bm (f.den:Int):=cO smm X
   have hp1:(a*(f.den:Int)).natAbs≤2^1600:=by
    rw [Int.natAbs_mul]
    exact De ha X
   have hmu:=eW a (f.den:Int) sma smd
   have smp:=eE (n:=1600) hp1 S
   have hsb:=lP f.num (a*(f.den:Int)) smn smp
   have smq:bm (f.num - a*(f.den:Int)):=eE (n:=1601) (by
    have e:2^1601=2^1600+2^1600:=yT 1600 1601 Y
    have e2:2^800≤2^1600:=Nat.pow_le_pow_right (n:=2) (i:=800) (j:=1600) S S
    rw [e]
    generalize 2^1600=z at *
    generalize 2^800=z2 at *
    generalize a*(f.den:Int)=q at *
    omega) S
   have hdm:=dt (f.num - a*(f.den:Int)) (m:Int) X smq smm
   have hab:=AP f.num smn
   have hc1:=gB (f.num.natAbs:Int) (s:Int)
   have hc2:=gB (f.den:Int) (s:Int)
   have hgc:=yS (f.den:Int) (m:Int) smd smm
   rw [Int.natAbs_natCast,Int.natAbs_natCast] at hgc
   have hc3:=gB (Nat.gcd f.den m:Nat) 1
   have hsi:=dc ((f.num - a*(f.den:Int)) % (m:Int))
   refine ae (ae (ai (El (aj Y) (El (ak 0 Y Y Y) (El (ak 4 Y Y Y) ?_)))))
   refine El (am (hcy) Y ⟨H,H,Er⟩) ?_
   refine El (sF (by assumption) (cW Y Y)) (Ep (aa (aB Y (aY (av (av (aF (aa (ae ?_)))))))))
   refine ai (El (aj Y) (El (ak 0 Y Y Y) (El (aj Y) (El (ak 0 Y Y Y) ?_))))
   refine El (am (hq) Y ⟨H,H,Er⟩) ?_
   refine Em Y (El (ar Y Y) (El (ar Y Y) ?_))
   refine bD (T:=58) Y Y Y (fun b18 => ?_)
   refine a4 0 Y Y Y Y (En Y (Ep (aa (ae (ae (ai (Em Y (El (sF X (dy Y Y)) (Ep ?_)))))))))
   refine aa (aB Y (az (aa (ae ?_))))
   refine eG aZ Z Z ?_
   refine ux (fun B=>aj Y) Y Y ?_
   refine ux (fun B=>ak 0 Y Y Y) Y Y ?_
   refine ux (fun B=>aN 12 Y Y) Y Y ?_
   refine ux (fun B=>aj Y) Y Y ?_
   refine ux (fun B=>ak 0 Y Y Y) Y Y ?_
   refine uxk (hmu) Y ⟨H,H,Er⟩ Y ?_
   refine uxk (hsb) Y ⟨H,H,Er⟩ Y ?_
   refine ux (fun B=>aN 11 Y Y) Y Y ?_
   refine uxk (hdm) Y ⟨H,H,Er⟩ Y ?_
   refine ux (fun B=>ab Y) Y Y ?_
   refine ux (fun B=>ar Y Y) Y Y ?_
   refine ux (fun B=>ar Y Y) Y Y ?_
   refine ux (fun B=>ar Y Y) Y Y ?_
   refine ua Y (ua Y (us Y (us Y ?_)))
   refine ux (fun B=>ah Y) Y Y ?_
   refine RunU.nil (fun γ => ?_)
   refine cU (M' := [_,_,_,_,_,_,_,_,_,_,_,_,_,_,_]) Y (aa (ae ?_))
   refine eG aZ Z Z ?_
   refine ux (fun B=>aj Y) Y Y ?_
   refine ux (fun B=>ak 2 Y Y Y) Y Y ?_
   refine uxk (hab) Y ⟨H,Er⟩ Y ?_
   refine ux (fun B=>ak 7 Y Y Y) Y Y ?_
   refine uxk (hc1) Y ⟨H,H,Er⟩ Y ?_
   refine ux (fun B=>nC Y Y) Y Y ?_
   refine ux (fun B=>aj Y) Y Y ?_
   refine ux (fun B=>ak 2 Y Y Y) Y Y ?_
   refine ux (fun B=>ak 7 Y Y Y) Y Y ?_
   refine uxk (hc2) Y ⟨H,H,Er⟩ Y ?_
   refine ux (fun B=>nC Y Y) Y Y ?_
   refine ux (fun B=>aj Y) Y Y ?_
   refine ux (fun B=>ak 2 Y Y Y) Y Y ?_
   refine ux (fun B=>aN 13 Y Y) Y Y ?_
   refine uxk (hgc) Y ⟨H,H,Er⟩ Y ?_
   refine ux (fun B=>ak 11 Y Y Y) Y Y ?_
   refine uxk (hc3) Y ⟨H,H,Er⟩ Y ?_
   refine ux (fun B=>cg Y Y) Y Y ?_
   refine ux (fun B=>ak 0 Y Y Y) Y Y ?_
   refine uxk (hsi) Y ⟨H,Er⟩ Y ?_
   refine ux (fun B=>cg Y Y) Y Y ?_
   refine uB Y Y Y (BuildK.cons Y Y Y (BuildK.cons Y Y Y (BuildK.cons Y Y Y (BuildK.cons Y Y Y (BuildK.nil (ua Y (us Y ?_)))))))
   refine RunU.nil (fun γ => ?_)
   refine cU (M' := [_,_,_,_,_,_,_,_,_,_,_,_,_,_,_,_]) Y (iz (dI.refl _) (.keep jK (SubM.refl _)) (aa (ae (ae (ai (El (aN 0 Y Y) (stB Y Y Y (BuildK.cons Y Y Y (BuildK.cons Y Y Y ?_)))))))))
   refine BuildK.cons Y Y Y (BuildK.cons Y Y Y (BuildK.nil (El (DA Y Y) (Ep (aa (lc (t:=115) (ψ:=one (.bool (!ji a m s f))) Y (aq (by rw [DO])) ?_))))))
   unfold Dd cB dE
   cases hrc:ji a m s f
   ·rw [if_neg S]
    refine aG Y (ae (ai (stB Y Y Y (BuildK.nil (a4 13 Y Y Y Y (En Y (Ep (aa (aD ?_)))))))))
    refine aR ?_
    refine dg Tryz.results60 (.cellW 13 Y Y (t9)) (.tmp Y H)
   ·rw [if_pos Y]
    refine aB Y (az (aa (ae (ai (El (aN 3 Y Y) (a4 13 Y Y Y Y (En Y (Ep (aa ?_)))))))))
    refine aD ?_
    refine dg Tryz.results60 (.cellW 13 Y Y H) (.tmp Y H)
end Tor
end
section
namespace Tor
open Go Go.RowKit Go.Proofs
def mG (r c:Nat) (F:Nat→Nat→Int) (t:Nat):Nat:=(dH r (fun i=>(eR c (F i):Int)) t).toNat
theorem s9 {r c:Nat} {F:Nat→Nat→Int} {t:Nat} (ht:t<r) : ∃ i,i<r∧dH r (fun i=>(eR c (F i):Int)) t=(eR c (F i):Int):=by
 have h1:dH r (fun i=>(eR c (F i):Int)) t∈lst r (dH r (fun i=>(eR c (F i):Int))):=by
  unfold lst;exact List.mem_map.2 ⟨t,List.mem_range.2 ht,rfl⟩
 have h2:=(e6 (fun i=>(eR c (F i):Int)) (Nat.le_refl r)).mem_iff.1 h1
 unfold lst at h2
 obtain ⟨i,hi,e⟩:=List.mem_map.1 h2
 exact ⟨i,List.mem_range.1 hi,e.symm⟩
theorem qd {r c:Nat} {F:Nat→Nat→Int} {t:Nat} (ht:t<r):((mG r c F t:Nat):Int)=dH r (fun i=>(eR c (F i):Int)) t:=by
 obtain ⟨i,hi,e⟩:=s9 (c:=c) (F:=F) ht
 unfold mG;rw [e]; exact Int.toNat_of_nonneg (Int.natCast_nonneg _)
theorem v5 {r c B:Nat} {F:Nat→Nat→Int} (hl : ∀ i,i<r→eR c (F i)≤B) {t:Nat} (ht:t<r):mG r c F t≤B:=by
 obtain ⟨i,hi,e⟩:=s9 (c:=c) (F:=F) ht
 have:=hl i hi
 unfold mG;rw [e]; omega
attribute [local irreducible] J PJ aK one slT bR bC bv exT cj eP aT aI slV VT.le Ret bL
attribute [local irreducible] aL
end Tor
end
section
namespace Tor
open Go Go.RowKit Go.Proofs
theorem zT {sv:Option Nat} {T:TypeId} {cap n j:Nat} {g:Nat→Int} : Own.le (aI sv T (.agg 2) cap n (upd (upd (fun q=>aL (g q)) (j+1) (aL (g j))) j (aL (g (j+1))))) (aI sv T (.agg 2) cap n (fun q=>aL (iG j g q))):=bh fun q _=>by
 unfold upd iG
 by_cases h:q=j
 ·rw [if_pos h,if_pos h]
 ·rw [if_neg h,if_neg h]
  by_cases h2:q=j+1
  ·rw [if_pos h2,if_pos h2]
  ·rw [if_neg h2,if_neg h2]
def InL (n:Nat) (g h:Nat→Int):Prop := ∀ q,q<n → ∃ i,i<n∧h q=g i
theorem InL.sort {n i:Nat} {g:Nat→Int} (hi:i≤n):InL n g (dH i g):=fun q hq=>by
 have h1:dH i g q∈lst n (dH i g):=by unfold lst;exact List.mem_map.2 ⟨q,List.mem_range.2 hq,rfl⟩
 have h2:=(e6 g hi).mem_iff.1 h1
 unfold lst at h2
 obtain ⟨k,hk,e⟩:=List.mem_map.1 h2
 exact ⟨k,List.mem_range.1 hk,e.symm⟩
theorem InL.swp {n j:Nat} {g h:Nat→Int} (Ef:InL n g h) (hj:j+1<n):InL n g (iG j h):=fun q hq=>by
 unfold iG
 split
 ·exact Ef _ hj
 ·split
  ·exact Ef _ X
  ·exact Ef q hq
attribute [local irreducible] J PJ aK one slT bR bC bv exT cj eP aT aI slV VT.le Ret bL
attribute [local irreducible] aL
theorem ro (sv:Option Nat) (cap n:Nat) (g:Nat→Int) (cl:VT) (hn:n≤1048576) (hC : ∀ x y,(∃ i,i<n∧x=g i)→(∃ i,i<n∧y=g i)→fp Tryz.prog cl [aL x,aL y] (one (.int .i64 (cY y x)))) :
  OkI Tryz.prog 169 [one (slV sv n cap),one (.int .i64 0),one (.int .i64 (n:Nat)),cl] [aI sv 37 (.agg 2) cap n (fun q=>aL (g q))]
   (fun _:Unit=>bv []) (fun _ => [aI sv 37 (.agg 2) cap n (fun q=>aL (dH n g q))]):=by
 refine OkI.enter Tryz.func169 Y Tryz.ntmps169 Y (fun w O => ?_)
 refine k9 (i:=0) (F:=sv=none→n=0) Y (fun g h hp he=>iT hp he) (fun hsv => ?_)
 refine ae (ai (Em Y (El (cr Y Y (aQ X X)) (En Y (Ep (aa (au (co (Γ' := [(0,_),(1,_),(2,_),(3,_),(8,_)]) Eg (SubM.refl _) ?_))))))))
 refine bB (σ:=Nat) (Γk := [(0,_),(1,_),(2,_),(3,_)]) Eg (fun t => [(8,one (.int .i64 ((t+1:Nat):Int)))]) (fun t M0=>(M0.set 0 (aI sv 37 (.agg 2) cap n (fun q=>aL (dH (t+1) g q))))) (fun t=>t+1≤n∨t=0) (fun t=>n - t) (0) (.inr Y) Eh (.keep Ek (.nil)) (fun t ht => ?_)
 refine bQ (Γ' := [(8,_),(0,_),(1,_),(2,_),(3,_)]) (M' := [_]) Y Y ?_
 by_cases hlt:t+1<n
 ·obtain ⟨bs,rfl⟩:=gE hsv X
  refine ae (ae (ai (Em Y (Em Y (El (sT X (a6 Y Y)) (Ep (aa (aG Y (az ?_)))))))))
  refine aa (ae (au (ae (ai (Em Y (En Y (Ep (aa (au ?_)))))))))
  refine co (Γ' := [(0,_),(1,_),(2,_),(3,_),(8,_),(9,_)]) Eg (SubM.refl _) ?_
  refine bB (σ:=Nat × (Nat→Int)) (Γk := [(0,_),(1,_),(2,_),(3,_),(8,_)]) Eg (fun s => [(9,one (.int .i64 (s.1:Nat)))]) (fun s M0=>(M0.set 0 (aI (some bs) 37 (.agg 2) cap n (fun q=>aL (s.2 q))))) (fun s=>s.1≤t+1∧InL n g s.2∧ph s.1 s.2=dH (t+2) g) (fun s=>s.1) ((t+1,dH (t+1) g)) (⟨Nat.le_refl _,InL.sort X,rfl⟩) Eh (.keep Ek (.nil)) (fun s hs => ?_)
  refine bQ (Γ' := [(9,_),(0,_),(1,_),(2,_),(3,_),(8,_)]) (M' := [_]) Y Y ?_
  obtain ⟨j,h⟩:=s
  obtain ⟨hj,hin,hI⟩:=hs
  dsimp only at hj hin hI ⊢
  cases j with
  | zero =>
   have hI:h=dH (t+2) g:=hI
   subst hI
   refine ae (ae (a7 17 aZ Z S (Em Y (Em Y (El (sF X (cW Y Y)) (Em Y (sn0 Y Y Y Y Y (sn0 Y Y Y Y Y (sn0 Y Y Y Y Y ?_)))))))))
   refine sn0 Y Y Y Y Y (sn0 Y Y Y Y Y (sn0 Y Y Y Y Y (sn0 Y Y Y Y Y (sn0 Y Y Y Y Y (sn0 Y Y Y Y Y (sn0 Y Y Y Y Y (sn0 Y Y Y Y Y (sn0 Y Y Y Y Y (El (bE Y Y) ?_)))))))))
   refine Ep (Ep (aa (aB Y (aY (av (av (aF (aE (aa ?_)))))))))
   refine ai (Em Y (El (bK _ 1 Y Y X) (En Y (Ep ?_))))
   refine aP (t+1) X X Eh (.keep Ek (.nil))
  | succ j =>
   have hx:=hin (j+1) X
   have hy:=hin j X
   have hcl:=hC (h (j+1)) (h j) hx hy
   have hI:(if h j<h (j+1) then ph j (iG j h) else h)=dH (t+2) g:=hI
   by_cases hlt2:h j<h (j+1)
   ·rw [if_pos hlt2] at hI
    have hcc:cY (h j) (h (j+1))<0:=by unfold cY;split <;> (try split) <;> omega
    generalize cY (h j) (h (j+1))=cc at *
    refine ae (ae (a7 17 aZ Z S (Em Y (Em Y (El (sT X (cW Y Y)) (Em Y (Eo (ab Y) (Eo (ab Y) (Eo (ab Y) ?_)))))))))
    refine Eo (ao Y Y X) (Eo (bg 0 Y Y X) (Eo (ab Y) (Eo (ab Y) (Eo (ck _ 1 Y Y X X) (Eo (ao Y Y X) (Eo (bg 0 Y Y X) ?_))))))
    refine Eo (li hcl Y Y ⟨H,H,Er⟩) ?_
    refine Eo (sT (by assumption) (a6 Y Y)) (El (bk Y Y) (Ep (Ep (aa (aG Y (az (aa (ae (au ?_)))))))))
    apply iD (Γ1 := [(9,_),(0,_),(1,_),(2,_),(3,_),(8,_)]) (M1 := [_]) 15 6 [2,3,4] [] aZ Z S
    ·refine Em Y (Em Y (Em Y (Em Y (El (ck _ 1 Y Y X X) (Em Y (Em Y (El (ck _ 1 Y Y X X) (El (ao Y Y X) (El (bg 0 Y Y X) ?_)))))))))
     refine Em Y (Em Y (El (ao Y Y X) (El (bg 0 Y Y X) (El (ao Y Y X) (Ep ?_)))))
     refine Cu (Γa := [(9,_),(0,_),(1,_),(2,_),(3,_),(8,_),(51,_),(46,_),(50,_)]) (Γb := [(9,_),(0,_),(1,_),(2,_),(3,_),(8,_),(51,_),(46,_),(50,_),(41,_)]) (Γc := [(9,_),(0,_),(1,_),(2,_),(3,_),(8,_),(51,_),(46,_),(50,_),(40,_)]) (Γd := [(9,_),(0,_),(1,_),(2,_),(3,_),(8,_),(51,_),(46,_),(50,_),(40,_),(41,_)]) (Γe := [(9,_),(0,_),(1,_),(2,_),(3,_),(8,_),(51,_),(46,_),(50,_),(39,_)]) (Γf := [(9,_),(0,_),(1,_),(2,_),(3,_),(8,_),(51,_),(46,_),(50,_),(39,_),(41,_)]) (Γg := [(9,_),(0,_),(1,_),(2,_),(3,_),(8,_),(51,_),(46,_),(50,_),(39,_),(40,_)]) (Γh := [(9,_),(0,_),(1,_),(2,_),(3,_),(8,_),(51,_),(46,_),(50,_),(39,_),(40,_),(41,_)]) (rem := [15,16,17]) Y Ej Y Ej Y Ej Y Ej Y Ej Y Ej Y Ej Y Ej Y ?_ ?_ ?_ ?_ ?_ ?_ ?_ ?_
     ·refine eA (r1 := [3,4,15,16,17]) (r2 := [2,4,15,16,17]) (r3 := [2,3,4,16,17]) (i:=2) (j:=3) (k:=15) Z Y Y Y Y Y Y ?_ ?_ ?_ iC.nil
      refine Em Y (Ep ?_)
      refine ⟨rfl,?_⟩
      refine bM (rem' := [4,15,16,17]) (rem'' := [3,4,16,17]) (i:=3) (j:=15) Z Y Y Y Y ?_ ?_ iC.nil
      refine Em Y (Ep ?_)
      refine ⟨rfl,?_⟩
      refine bM (rem' := [15,16,17]) (rem'' := [4,16,17]) (i:=4) (j:=15) Z Y Y Y Y ?_ ?_ iC.nil
      refine El (ck _ 1 Y Y X X) (Ep ?_)
      refine ⟨rfl,?_⟩
      refine an (rem' := [16,17]) (i:=15) Z Y Y ?_ iC.nil
      (refine aw 0 Y Y Y ?_ Y ?_;omega)
      refine Ep ?_
      refine ⟨rfl,?_⟩
      refine an (rem' := [17]) (i:=16) Z Y Y ?_ iC.nil
      refine El (ao Y Y X) (Ep ?_)
      refine ⟨rfl,?_⟩
      refine an (rem' := []) (i:=17) Z Y Y ?_ iC.nil
      (refine aw 0 Y Y Y ?_ Y ?_;omega)
      refine Ep ?_
      refine ⟨rfl,?_⟩
      refine aU Ej (SubM.refl _) iC.nil
      (refine aw 0 Y Y Y ?_ Y ?_;omega)
      refine Ep ?_
      refine ⟨rfl,?_⟩
      refine an (rem' := [16,17]) (i:=4) Z Y Y ?_ iC.nil
      refine El (ck _ 1 Y Y X X) (Ep ?_)
      refine ⟨rfl,?_⟩
      refine an (rem' := [17]) (i:=16) Z Y Y ?_ iC.nil
      refine El (ao Y Y X) (Ep ?_)
      refine ⟨rfl,?_⟩
      refine an (rem' := []) (i:=17) Z Y Y ?_ iC.nil
      (refine aw 0 Y Y Y ?_ Y ?_;omega)
      refine Ep ?_
      refine ⟨rfl,?_⟩
      refine aU Ej (SubM.refl _) iC.nil
      (refine aw 0 Y Y Y ?_ Y ?_;omega)
      refine Ep ?_
      refine ⟨rfl,?_⟩
      refine an (rem' := [4,16,17]) (i:=3) Z Y Y ?_ iC.nil
      refine Em Y (Ep ?_)
      refine ⟨rfl,?_⟩
      refine an (rem' := [16,17]) (i:=4) Z Y Y ?_ iC.nil
      refine El (ck _ 1 Y Y X X) (Ep ?_)
      refine ⟨rfl,?_⟩
      refine an (rem' := [17]) (i:=16) Z Y Y ?_ iC.nil
      refine El (ao Y Y X) (Ep ?_)
      refine ⟨rfl,?_⟩
      refine an (rem' := []) (i:=17) Z Y Y ?_ iC.nil
      (refine aw 0 Y Y Y ?_ Y ?_;omega)
      refine Ep ?_
      refine ⟨rfl,?_⟩
      refine aU Ej (SubM.refl _) iC.nil
      refine Em Y (Ep ?_)
      refine ⟨rfl,?_⟩
      refine eA (r1 := [4,15,16,17]) (r2 := [2,15,16,17]) (r3 := [2,4,16,17]) (i:=2) (j:=4) (k:=15) Z Y Y Y Y Y Y ?_ ?_ ?_ iC.nil
      refine Em Y (Ep ?_)
      refine ⟨rfl,?_⟩
      refine bM (rem' := [15,16,17]) (rem'' := [4,16,17]) (i:=4) (j:=15) Z Y Y Y Y ?_ ?_ iC.nil
      refine El (ck _ 1 Y Y X X) (Ep ?_)
      refine ⟨rfl,?_⟩
      refine an (rem' := [16,17]) (i:=15) Z Y Y ?_ iC.nil
      (refine aw 0 Y Y Y ?_ Y ?_;omega)
      refine Ep ?_
      refine ⟨rfl,?_⟩
      refine an (rem' := [17]) (i:=16) Z Y Y ?_ iC.nil
      refine El (ao Y Y X) (Ep ?_)
      refine ⟨rfl,?_⟩
      refine an (rem' := []) (i:=17) Z Y Y ?_ iC.nil
      (refine aw 0 Y Y Y ?_ Y ?_;omega)
      refine Ep ?_
      refine ⟨rfl,?_⟩
      refine aU Ej (SubM.refl _) iC.nil
      (refine aw 0 Y Y Y ?_ Y ?_;omega)
      refine Ep ?_
      refine ⟨rfl,?_⟩
      refine an (rem' := [16,17]) (i:=4) Z Y Y ?_ iC.nil
      refine El (ck _ 1 Y Y X X) (Ep ?_)
      refine ⟨rfl,?_⟩
      refine an (rem' := [17]) (i:=16) Z Y Y ?_ iC.nil
      refine El (ao Y Y X) (Ep ?_)
      refine ⟨rfl,?_⟩
      refine an (rem' := []) (i:=17) Z Y Y ?_ iC.nil
      (refine aw 0 Y Y Y ?_ Y ?_;omega)
      refine Ep ?_
      refine ⟨rfl,?_⟩
      refine aU Ej (SubM.refl _) iC.nil
      refine El (ck _ 1 Y Y X X) (Ep ?_)
      refine ⟨rfl,?_⟩
      refine bM (rem' := [15,16,17]) (rem'' := [2,16,17]) (i:=2) (j:=15) Z Y Y Y Y ?_ ?_ iC.nil
      refine Em Y (Ep ?_)
      refine ⟨rfl,?_⟩
      refine an (rem' := [16,17]) (i:=15) Z Y Y ?_ iC.nil
      (refine aw 0 Y Y Y ?_ Y ?_;omega)
      refine Ep ?_
      refine ⟨rfl,?_⟩
      refine an (rem' := [17]) (i:=16) Z Y Y ?_ iC.nil
      refine El (ao Y Y X) (Ep ?_)
      refine ⟨rfl,?_⟩
      refine an (rem' := []) (i:=17) Z Y Y ?_ iC.nil
      (refine aw 0 Y Y Y ?_ Y ?_;omega)
      refine Ep ?_
      refine ⟨rfl,?_⟩
      refine aU Ej (SubM.refl _) iC.nil
      (refine aw 0 Y Y Y ?_ Y ?_;omega)
      refine Ep ?_
      refine ⟨rfl,?_⟩
      refine an (rem' := [16,17]) (i:=2) Z Y Y ?_ iC.nil
      refine Em Y (Ep ?_)
      refine ⟨rfl,?_⟩
      refine an (rem' := [17]) (i:=16) Z Y Y ?_ iC.nil
      refine El (ao Y Y X) (Ep ?_)
      refine ⟨rfl,?_⟩
      refine an (rem' := []) (i:=17) Z Y Y ?_ iC.nil
      (refine aw 0 Y Y Y ?_ Y ?_;omega)
      refine Ep ?_
      refine ⟨rfl,?_⟩
      refine aU Ej (SubM.refl _) iC.nil
      (refine aw 0 Y Y Y ?_ Y ?_;omega)
      refine Ep ?_
      refine ⟨rfl,?_⟩
      refine bM (rem' := [4,16,17]) (rem'' := [2,16,17]) (i:=2) (j:=4) Z Y Y Y Y ?_ ?_ iC.nil
      refine Em Y (Ep ?_)
      refine ⟨rfl,?_⟩
      refine an (rem' := [16,17]) (i:=4) Z Y Y ?_ iC.nil
      refine El (ck _ 1 Y Y X X) (Ep ?_)
      refine ⟨rfl,?_⟩
      refine an (rem' := [17]) (i:=16) Z Y Y ?_ iC.nil
      refine El (ao Y Y X) (Ep ?_)
      refine ⟨rfl,?_⟩
      refine an (rem' := []) (i:=17) Z Y Y ?_ iC.nil
      (refine aw 0 Y Y Y ?_ Y ?_;omega)
      refine Ep ?_
      refine ⟨rfl,?_⟩
      refine aU Ej (SubM.refl _) iC.nil
      refine El (ck _ 1 Y Y X X) (Ep ?_)
      refine ⟨rfl,?_⟩
      refine an (rem' := [16,17]) (i:=2) Z Y Y ?_ iC.nil
      refine Em Y (Ep ?_)
      refine ⟨rfl,?_⟩
      refine an (rem' := [17]) (i:=16) Z Y Y ?_ iC.nil
      refine El (ao Y Y X) (Ep ?_)
      refine ⟨rfl,?_⟩
      refine an (rem' := []) (i:=17) Z Y Y ?_ iC.nil
      (refine aw 0 Y Y Y ?_ Y ?_;omega)
      refine Ep ?_
      refine ⟨rfl,?_⟩
      refine aU Ej (SubM.refl _) iC.nil
      (refine aw 0 Y Y Y ?_ Y ?_;omega)
      refine Ep ?_
      refine ⟨rfl,?_⟩
      refine bM (rem' := [3,4,16,17]) (rem'' := [2,4,16,17]) (i:=2) (j:=3) Z Y Y Y Y ?_ ?_ iC.nil
      refine Em Y (Ep ?_)
      refine ⟨rfl,?_⟩
      refine an (rem' := [4,16,17]) (i:=3) Z Y Y ?_ iC.nil
      refine Em Y (Ep ?_)
      refine ⟨rfl,?_⟩
      refine an (rem' := [16,17]) (i:=4) Z Y Y ?_ iC.nil
      refine El (ck _ 1 Y Y X X) (Ep ?_)
      refine ⟨rfl,?_⟩
      refine an (rem' := [17]) (i:=16) Z Y Y ?_ iC.nil
      refine El (ao Y Y X) (Ep ?_)
      refine ⟨rfl,?_⟩
      refine an (rem' := []) (i:=17) Z Y Y ?_ iC.nil
      (refine aw 0 Y Y Y ?_ Y ?_;omega)
      refine Ep ?_
      refine ⟨rfl,?_⟩
      refine aU Ej (SubM.refl _) iC.nil
      refine Em Y (Ep ?_)
      refine ⟨rfl,?_⟩
      refine bM (rem' := [4,16,17]) (rem'' := [2,16,17]) (i:=2) (j:=4) Z Y Y Y Y ?_ ?_ iC.nil
      refine Em Y (Ep ?_)
      refine ⟨rfl,?_⟩
      refine an (rem' := [16,17]) (i:=4) Z Y Y ?_ iC.nil
      refine El (ck _ 1 Y Y X X) (Ep ?_)
      refine ⟨rfl,?_⟩
      refine an (rem' := [17]) (i:=16) Z Y Y ?_ iC.nil
      refine El (ao Y Y X) (Ep ?_)
      refine ⟨rfl,?_⟩
      refine an (rem' := []) (i:=17) Z Y Y ?_ iC.nil
      (refine aw 0 Y Y Y ?_ Y ?_;omega)
      refine Ep ?_
      refine ⟨rfl,?_⟩
      refine aU Ej (SubM.refl _) iC.nil
      refine El (ck _ 1 Y Y X X) (Ep ?_)
      refine ⟨rfl,?_⟩
      refine an (rem' := [16,17]) (i:=2) Z Y Y ?_ iC.nil
      refine Em Y (Ep ?_)
      refine ⟨rfl,?_⟩
      refine an (rem' := [17]) (i:=16) Z Y Y ?_ iC.nil
      refine El (ao Y Y X) (Ep ?_)
      refine ⟨rfl,?_⟩
      refine an (rem' := []) (i:=17) Z Y Y ?_ iC.nil
      (refine aw 0 Y Y Y ?_ Y ?_;omega)
      refine Ep ?_
      refine ⟨rfl,?_⟩
      refine aU Ej (SubM.refl _) iC.nil
     ·refine eA (r1 := [3,15,16,17]) (r2 := [2,15,16,17]) (r3 := [2,3,16,17]) (i:=2) (j:=3) (k:=15) Z Y Y Y Y Y Y ?_ ?_ ?_ iC.nil
      refine Em Y (Ep ?_)
      refine ⟨rfl,?_⟩
      refine bM (rem' := [15,16,17]) (rem'' := [3,16,17]) (i:=3) (j:=15) Z Y Y Y Y ?_ ?_ iC.nil
      refine Em Y (Ep ?_)
      refine ⟨rfl,?_⟩
      refine an (rem' := [16,17]) (i:=15) Z Y Y ?_ iC.nil
      (refine aw 0 Y Y Y ?_ Y ?_;omega)
      refine Ep ?_
      refine ⟨rfl,?_⟩
      refine an (rem' := [17]) (i:=16) Z Y Y ?_ iC.nil
      refine El (ao Y Y X) (Ep ?_)
      refine ⟨rfl,?_⟩
      refine an (rem' := []) (i:=17) Z Y Y ?_ iC.nil
      (refine aw 0 Y Y Y ?_ Y ?_;omega)
      refine Ep ?_
      refine ⟨rfl,?_⟩
      refine aU Ej (SubM.refl _) iC.nil
      (refine aw 0 Y Y Y ?_ Y ?_;omega)
      refine Ep ?_
      refine ⟨rfl,?_⟩
      refine an (rem' := [16,17]) (i:=3) Z Y Y ?_ iC.nil
      refine Em Y (Ep ?_)
      refine ⟨rfl,?_⟩
      refine an (rem' := [17]) (i:=16) Z Y Y ?_ iC.nil
      refine El (ao Y Y X) (Ep ?_)
      refine ⟨rfl,?_⟩
      refine an (rem' := []) (i:=17) Z Y Y ?_ iC.nil
      (refine aw 0 Y Y Y ?_ Y ?_;omega)
      refine Ep ?_
      refine ⟨rfl,?_⟩
      refine aU Ej (SubM.refl _) iC.nil
      refine Em Y (Ep ?_)
      refine ⟨rfl,?_⟩
      refine bM (rem' := [15,16,17]) (rem'' := [2,16,17]) (i:=2) (j:=15) Z Y Y Y Y ?_ ?_ iC.nil
      refine Em Y (Ep ?_)
      refine ⟨rfl,?_⟩
      refine an (rem' := [16,17]) (i:=15) Z Y Y ?_ iC.nil
      (refine aw 0 Y Y Y ?_ Y ?_;omega)
      refine Ep ?_
      refine ⟨rfl,?_⟩
      refine an (rem' := [17]) (i:=16) Z Y Y ?_ iC.nil
      refine El (ao Y Y X) (Ep ?_)
      refine ⟨rfl,?_⟩
      refine an (rem' := []) (i:=17) Z Y Y ?_ iC.nil
      (refine aw 0 Y Y Y ?_ Y ?_;omega)
      refine Ep ?_
      refine ⟨rfl,?_⟩
      refine aU Ej (SubM.refl _) iC.nil
      (refine aw 0 Y Y Y ?_ Y ?_;omega)
      refine Ep ?_
      refine ⟨rfl,?_⟩
      refine an (rem' := [16,17]) (i:=2) Z Y Y ?_ iC.nil
      refine Em Y (Ep ?_)
      refine ⟨rfl,?_⟩
      refine an (rem' := [17]) (i:=16) Z Y Y ?_ iC.nil
      refine El (ao Y Y X) (Ep ?_)
      refine ⟨rfl,?_⟩
      refine an (rem' := []) (i:=17) Z Y Y ?_ iC.nil
      (refine aw 0 Y Y Y ?_ Y ?_;omega)
      refine Ep ?_
      refine ⟨rfl,?_⟩
      refine aU Ej (SubM.refl _) iC.nil
      (refine aw 0 Y Y Y ?_ Y ?_;omega)
      refine Ep ?_
      refine ⟨rfl,?_⟩
      refine bM (rem' := [3,16,17]) (rem'' := [2,16,17]) (i:=2) (j:=3) Z Y Y Y Y ?_ ?_ iC.nil
      refine Em Y (Ep ?_)
      refine ⟨rfl,?_⟩
      refine an (rem' := [16,17]) (i:=3) Z Y Y ?_ iC.nil
      refine Em Y (Ep ?_)
      refine ⟨rfl,?_⟩
      refine an (rem' := [17]) (i:=16) Z Y Y ?_ iC.nil
      refine El (ao Y Y X) (Ep ?_)
      refine ⟨rfl,?_⟩
      refine an (rem' := []) (i:=17) Z Y Y ?_ iC.nil
      (refine aw 0 Y Y Y ?_ Y ?_;omega)
      refine Ep ?_
      refine ⟨rfl,?_⟩
      refine aU Ej (SubM.refl _) iC.nil
      refine Em Y (Ep ?_)
      refine ⟨rfl,?_⟩
      refine an (rem' := [16,17]) (i:=2) Z Y Y ?_ iC.nil
      refine Em Y (Ep ?_)
      refine ⟨rfl,?_⟩
      refine an (rem' := [17]) (i:=16) Z Y Y ?_ iC.nil
      refine El (ao Y Y X) (Ep ?_)
      refine ⟨rfl,?_⟩
      refine an (rem' := []) (i:=17) Z Y Y ?_ iC.nil
      (refine aw 0 Y Y Y ?_ Y ?_;omega)
      refine Ep ?_
      refine ⟨rfl,?_⟩
      refine aU Ej (SubM.refl _) iC.nil
     ·refine eA (r1 := [4,15,16,17]) (r2 := [2,15,16,17]) (r3 := [2,4,16,17]) (i:=2) (j:=4) (k:=15) Z Y Y Y Y Y Y ?_ ?_ ?_ iC.nil
      refine Em Y (Ep ?_)
      refine ⟨rfl,?_⟩
      refine bM (rem' := [15,16,17]) (rem'' := [4,16,17]) (i:=4) (j:=15) Z Y Y Y Y ?_ ?_ iC.nil
      refine El (ck _ 1 Y Y X X) (Ep ?_)
      refine ⟨rfl,?_⟩
      refine an (rem' := [16,17]) (i:=15) Z Y Y ?_ iC.nil
      (refine aw 0 Y Y Y ?_ Y ?_;omega)
      refine Ep ?_
      refine ⟨rfl,?_⟩
      refine an (rem' := [17]) (i:=16) Z Y Y ?_ iC.nil
      refine El (ao Y Y X) (Ep ?_)
      refine ⟨rfl,?_⟩
      refine an (rem' := []) (i:=17) Z Y Y ?_ iC.nil
      (refine aw 0 Y Y Y ?_ Y ?_;omega)
      refine Ep ?_
      refine ⟨rfl,?_⟩
      refine aU Ej (SubM.refl _) iC.nil
      (refine aw 0 Y Y Y ?_ Y ?_;omega)
      refine Ep ?_
      refine ⟨rfl,?_⟩
      refine an (rem' := [16,17]) (i:=4) Z Y Y ?_ iC.nil
      refine El (ck _ 1 Y Y X X) (Ep ?_)
      refine ⟨rfl,?_⟩
      refine an (rem' := [17]) (i:=16) Z Y Y ?_ iC.nil
      refine El (ao Y Y X) (Ep ?_)
      refine ⟨rfl,?_⟩
      refine an (rem' := []) (i:=17) Z Y Y ?_ iC.nil
      (refine aw 0 Y Y Y ?_ Y ?_;omega)
      refine Ep ?_
      refine ⟨rfl,?_⟩
      refine aU Ej (SubM.refl _) iC.nil
      refine El (ck _ 1 Y Y X X) (Ep ?_)
      refine ⟨rfl,?_⟩
      refine bM (rem' := [15,16,17]) (rem'' := [2,16,17]) (i:=2) (j:=15) Z Y Y Y Y ?_ ?_ iC.nil
      refine Em Y (Ep ?_)
      refine ⟨rfl,?_⟩
      refine an (rem' := [16,17]) (i:=15) Z Y Y ?_ iC.nil
      (refine aw 0 Y Y Y ?_ Y ?_;omega)
      refine Ep ?_
      refine ⟨rfl,?_⟩
      refine an (rem' := [17]) (i:=16) Z Y Y ?_ iC.nil
      refine El (ao Y Y X) (Ep ?_)
      refine ⟨rfl,?_⟩
      refine an (rem' := []) (i:=17) Z Y Y ?_ iC.nil
      (refine aw 0 Y Y Y ?_ Y ?_;omega)
      refine Ep ?_
      refine ⟨rfl,?_⟩
      refine aU Ej (SubM.refl _) iC.nil
      (refine aw 0 Y Y Y ?_ Y ?_;omega)
      refine Ep ?_
      refine ⟨rfl,?_⟩
      refine an (rem' := [16,17]) (i:=2) Z Y Y ?_ iC.nil
      refine Em Y (Ep ?_)
      refine ⟨rfl,?_⟩
      refine an (rem' := [17]) (i:=16) Z Y Y ?_ iC.nil
      refine El (ao Y Y X) (Ep ?_)
      refine ⟨rfl,?_⟩
      refine an (rem' := []) (i:=17) Z Y Y ?_ iC.nil
      (refine aw 0 Y Y Y ?_ Y ?_;omega)
      refine Ep ?_
      refine ⟨rfl,?_⟩
      refine aU Ej (SubM.refl _) iC.nil
      (refine aw 0 Y Y Y ?_ Y ?_;omega)
      refine Ep ?_
      refine ⟨rfl,?_⟩
      refine bM (rem' := [4,16,17]) (rem'' := [2,16,17]) (i:=2) (j:=4) Z Y Y Y Y ?_ ?_ iC.nil
      refine Em Y (Ep ?_)
      refine ⟨rfl,?_⟩
      refine an (rem' := [16,17]) (i:=4) Z Y Y ?_ iC.nil
      refine El (ck _ 1 Y Y X X) (Ep ?_)
      refine ⟨rfl,?_⟩
      refine an (rem' := [17]) (i:=16) Z Y Y ?_ iC.nil
      refine El (ao Y Y X) (Ep ?_)
      refine ⟨rfl,?_⟩
      refine an (rem' := []) (i:=17) Z Y Y ?_ iC.nil
      (refine aw 0 Y Y Y ?_ Y ?_;omega)
      refine Ep ?_
      refine ⟨rfl,?_⟩
      refine aU Ej (SubM.refl _) iC.nil
      refine El (ck _ 1 Y Y X X) (Ep ?_)
      refine ⟨rfl,?_⟩
      refine an (rem' := [16,17]) (i:=2) Z Y Y ?_ iC.nil
      refine Em Y (Ep ?_)
      refine ⟨rfl,?_⟩
      refine an (rem' := [17]) (i:=16) Z Y Y ?_ iC.nil
      refine El (ao Y Y X) (Ep ?_)
      refine ⟨rfl,?_⟩
      refine an (rem' := []) (i:=17) Z Y Y ?_ iC.nil
      (refine aw 0 Y Y Y ?_ Y ?_;omega)
      refine Ep ?_
      refine ⟨rfl,?_⟩
      refine aU Ej (SubM.refl _) iC.nil
     ·refine bM (rem' := [15,16,17]) (rem'' := [2,16,17]) (i:=2) (j:=15) Z Y Y Y Y ?_ ?_ iC.nil
      refine Em Y (Ep ?_)
      refine ⟨rfl,?_⟩
      refine an (rem' := [16,17]) (i:=15) Z Y Y ?_ iC.nil
      (refine aw 0 Y Y Y ?_ Y ?_;omega)
      refine Ep ?_
      refine ⟨rfl,?_⟩
      refine an (rem' := [17]) (i:=16) Z Y Y ?_ iC.nil
      refine El (ao Y Y X) (Ep ?_)
      refine ⟨rfl,?_⟩
      refine an (rem' := []) (i:=17) Z Y Y ?_ iC.nil
      (refine aw 0 Y Y Y ?_ Y ?_;omega)
      refine Ep ?_
      refine ⟨rfl,?_⟩
      refine aU Ej (SubM.refl _) iC.nil
      (refine aw 0 Y Y Y ?_ Y ?_;omega)
      refine Ep ?_
      refine ⟨rfl,?_⟩
      refine an (rem' := [16,17]) (i:=2) Z Y Y ?_ iC.nil
      refine Em Y (Ep ?_)
      refine ⟨rfl,?_⟩
      refine an (rem' := [17]) (i:=16) Z Y Y ?_ iC.nil
      refine El (ao Y Y X) (Ep ?_)
      refine ⟨rfl,?_⟩
      refine an (rem' := []) (i:=17) Z Y Y ?_ iC.nil
      (refine aw 0 Y Y Y ?_ Y ?_;omega)
      refine Ep ?_
      refine ⟨rfl,?_⟩
      refine aU Ej (SubM.refl _) iC.nil
     ·refine bM (rem' := [4,15,16,17]) (rem'' := [3,4,16,17]) (i:=3) (j:=15) Z Y Y Y Y ?_ ?_ iC.nil
      refine Em Y (Ep ?_)
      refine ⟨rfl,?_⟩
      refine bM (rem' := [15,16,17]) (rem'' := [4,16,17]) (i:=4) (j:=15) Z Y Y Y Y ?_ ?_ iC.nil
      refine El (ck _ 1 Y Y X X) (Ep ?_)
      refine ⟨rfl,?_⟩
      refine an (rem' := [16,17]) (i:=15) Z Y Y ?_ iC.nil
      (refine aw 0 Y Y Y ?_ Y ?_;omega)
      refine Ep ?_
      refine ⟨rfl,?_⟩
      refine an (rem' := [17]) (i:=16) Z Y Y ?_ iC.nil
      refine El (ao Y Y X) (Ep ?_)
      refine ⟨rfl,?_⟩
      refine an (rem' := []) (i:=17) Z Y Y ?_ iC.nil
      (refine aw 0 Y Y Y ?_ Y ?_;omega)
      refine Ep ?_
      refine ⟨rfl,?_⟩
      refine aU Ej (SubM.refl _) iC.nil
      (refine aw 0 Y Y Y ?_ Y ?_;omega)
      refine Ep ?_
      refine ⟨rfl,?_⟩
      refine an (rem' := [16,17]) (i:=4) Z Y Y ?_ iC.nil
      refine El (ck _ 1 Y Y X X) (Ep ?_)
      refine ⟨rfl,?_⟩
      refine an (rem' := [17]) (i:=16) Z Y Y ?_ iC.nil
      refine El (ao Y Y X) (Ep ?_)
      refine ⟨rfl,?_⟩
      refine an (rem' := []) (i:=17) Z Y Y ?_ iC.nil
      (refine aw 0 Y Y Y ?_ Y ?_;omega)
      refine Ep ?_
      refine ⟨rfl,?_⟩
      refine aU Ej (SubM.refl _) iC.nil
      (refine aw 0 Y Y Y ?_ Y ?_;omega)
      refine Ep ?_
      refine ⟨rfl,?_⟩
      refine an (rem' := [4,16,17]) (i:=3) Z Y Y ?_ iC.nil
      refine Em Y (Ep ?_)
      refine ⟨rfl,?_⟩
      refine an (rem' := [16,17]) (i:=4) Z Y Y ?_ iC.nil
      refine El (ck _ 1 Y Y X X) (Ep ?_)
      refine ⟨rfl,?_⟩
      refine an (rem' := [17]) (i:=16) Z Y Y ?_ iC.nil
      refine El (ao Y Y X) (Ep ?_)
      refine ⟨rfl,?_⟩
      refine an (rem' := []) (i:=17) Z Y Y ?_ iC.nil
      (refine aw 0 Y Y Y ?_ Y ?_;omega)
      refine Ep ?_
      refine ⟨rfl,?_⟩
      refine aU Ej (SubM.refl _) iC.nil
     ·refine bM (rem' := [15,16,17]) (rem'' := [3,16,17]) (i:=3) (j:=15) Z Y Y Y Y ?_ ?_ iC.nil
      refine Em Y (Ep ?_)
      refine ⟨rfl,?_⟩
      refine an (rem' := [16,17]) (i:=15) Z Y Y ?_ iC.nil
      (refine aw 0 Y Y Y ?_ Y ?_;omega)
      refine Ep ?_
      refine ⟨rfl,?_⟩
      refine an (rem' := [17]) (i:=16) Z Y Y ?_ iC.nil
      refine El (ao Y Y X) (Ep ?_)
      refine ⟨rfl,?_⟩
      refine an (rem' := []) (i:=17) Z Y Y ?_ iC.nil
      (refine aw 0 Y Y Y ?_ Y ?_;omega)
      refine Ep ?_
      refine ⟨rfl,?_⟩
      refine aU Ej (SubM.refl _) iC.nil
      (refine aw 0 Y Y Y ?_ Y ?_;omega)
      refine Ep ?_
      refine ⟨rfl,?_⟩
      refine an (rem' := [16,17]) (i:=3) Z Y Y ?_ iC.nil
      refine Em Y (Ep ?_)
      refine ⟨rfl,?_⟩
      refine an (rem' := [17]) (i:=16) Z Y Y ?_ iC.nil
      refine El (ao Y Y X) (Ep ?_)
      refine ⟨rfl,?_⟩
      refine an (rem' := []) (i:=17) Z Y Y ?_ iC.nil
      (refine aw 0 Y Y Y ?_ Y ?_;omega)
      refine Ep ?_
      refine ⟨rfl,?_⟩
      refine aU Ej (SubM.refl _) iC.nil
     ·refine bM (rem' := [15,16,17]) (rem'' := [4,16,17]) (i:=4) (j:=15) Z Y Y Y Y ?_ ?_ iC.nil
      refine El (ck _ 1 Y Y X X) (Ep ?_)
      refine ⟨rfl,?_⟩
      refine an (rem' := [16,17]) (i:=15) Z Y Y ?_ iC.nil
      (refine aw 0 Y Y Y ?_ Y ?_;omega)
      refine Ep ?_
      refine ⟨rfl,?_⟩
      refine an (rem' := [17]) (i:=16) Z Y Y ?_ iC.nil
      refine El (ao Y Y X) (Ep ?_)
      refine ⟨rfl,?_⟩
      refine an (rem' := []) (i:=17) Z Y Y ?_ iC.nil
      (refine aw 0 Y Y Y ?_ Y ?_;omega)
      refine Ep ?_
      refine ⟨rfl,?_⟩
      refine aU Ej (SubM.refl _) iC.nil
      (refine aw 0 Y Y Y ?_ Y ?_;omega)
      refine Ep ?_
      refine ⟨rfl,?_⟩
      refine an (rem' := [16,17]) (i:=4) Z Y Y ?_ iC.nil
      refine El (ck _ 1 Y Y X X) (Ep ?_)
      refine ⟨rfl,?_⟩
      refine an (rem' := [17]) (i:=16) Z Y Y ?_ iC.nil
      refine El (ao Y Y X) (Ep ?_)
      refine ⟨rfl,?_⟩
      refine an (rem' := []) (i:=17) Z Y Y ?_ iC.nil
      (refine aw 0 Y Y Y ?_ Y ?_;omega)
      refine Ep ?_
      refine ⟨rfl,?_⟩
      refine aU Ej (SubM.refl _) iC.nil
     ·refine an (rem' := [16,17]) (i:=15) Z Y Y ?_ iC.nil
      (refine aw 0 Y Y Y ?_ Y ?_;omega)
      refine Ep ?_
      refine ⟨rfl,?_⟩
      refine an (rem' := [17]) (i:=16) Z Y Y ?_ iC.nil
      refine El (ao Y Y X) (Ep ?_)
      refine ⟨rfl,?_⟩
      refine an (rem' := []) (i:=17) Z Y Y ?_ iC.nil
      (refine aw 0 Y Y Y ?_ Y ?_;omega)
      refine Ep ?_
      refine ⟨rfl,?_⟩
      refine aU Ej (SubM.refl _) iC.nil
    ·refine aE (aa (ai (Em Y (El (ck _ 1 Y Y X X) (En Y (Ep ?_))))))
     refine aP ((j,iG j h)) (⟨by omega,hin.swp X,hI⟩) X Eh (.keep (zT) (.nil))
   ·rw [if_neg hlt2] at hI
    have hcc : ¬ cY (h j) (h (j+1))<0:=by unfold cY;split <;> (try split) <;> omega
    generalize cY (h j) (h (j+1))=cc at *
    subst hI
    refine ae (ae (a7 17 aZ Z S (Em Y (Em Y (El (sT X (cW Y Y)) (Em Y (Eo (ab Y) (Eo (ab Y) (Eo (ab Y) ?_)))))))))
    refine Eo (ao Y Y X) (Eo (bg 0 Y Y X) (Eo (ab Y) (Eo (ab Y) (Eo (ck _ 1 Y Y X X) (Eo (ao Y Y X) (Eo (bg 0 Y Y X) ?_))))))
    refine Eo (li hcl Y Y ⟨H,H,Er⟩) ?_
    refine Eo (sF (by assumption) (a6 Y Y)) (El (bk Y Y) (Ep (Ep (aa (aB Y (aY (av (av (aF ?_)))))))))
    refine aE (aa (ai (Em Y (El (bK _ 1 Y Y X) (En Y (Ep ?_))))))
    refine aP (t+1) X X Eh (.keep Ek (.nil))
 ·refine ae (ae (ai (Em Y (Em Y (El (sF X (a6 Y Y)) (Ep (aa (aB Y (aY ?_)))))))))
  refine av (av (aF (ja ?_)))
  exact lA (σ:=Unit) (ψ:=fun _=>bv []) () Tryz.results169 H (.keep (bh fun q hq=>by rw [show t+1=n by omega]) .nil)
end Tor
end
section
namespace Tor
open Go Go.RowKit Go.Proofs
theorem BE:VT.le (one (.slice none 0 0)) (one (slV none 0 0)):=VT.le_refl _
attribute [local irreducible] J PJ aK one slT bR bC bv exT cj eP aT aI slV VT.le Ret bL
attribute [local irreducible] aL
theorem xv (x:Nat) (hx:x<256):Ok Tryz.prog 177 [one (.int .u64 (x:Nat))] (one (.int .i64 (f8 x))):=by
 have k2:f8 x≤8:=kd (n:=8) X S
 refine Ok.enter Tryz.func177 Y Tryz.ntmps177 Y (fun w O => ?_)
 refine ae (ai (En Y (Ep (aa (ae (ae (ai (Em Y (El (sF X (ff Y Y)) ?_)))))))))
 refine Ep (aa (aB Y (az (aa (ae (ae (ai (Em Y (El (sF X (ff Y Y)) ?_)))))))))
 refine Ep (aa (aB Y (az (aa (ae (ae (ai (Em Y (El (sF X (ff Y Y)) ?_)))))))))
 refine Ep (aa (aB Y (az (aa (ae (ai (Em Y (Em Y (El (ln Y X X) ?_)))))))))
 refine El (gP Z Y Y (oo U X)) (El (dZ Y X X) (El (cr Y Y (aQ X X)) (En Y (Ep (aa (aD ?_))))))
 refine aS Tryz.results177 (.tmp Y (aq (by congr 1;omega)))
theorem BF (x:Nat) (hx:x<256):Ok Tryz.prog 155 [one (.int .u64 (x:Nat))] (one (.int .i64 (f8 x))):=by
 have h:=xv x hx
 refine Ok.enter Tryz.func155 Y Tryz.ntmps155 Y (fun w O => ?_)
 refine ae (ai (En Y (Ep (aa (ae (aB Y (az (aa (ae ?_)))))))))
 refine ai (Em Y ?_)
 refine El (am (h) Y ⟨H,Er⟩) ?_
 refine En Y (Ep (aa (aD ?_)))
 refine aS Tryz.results155 (.tmp Y H)
theorem Df (sv:Option Nat) (cap n:Nat) (lim:Int) (g:Nat→Int) (cl:VT) (hn:n≤12) (hC : ∀ x y,(∃ i,i<n∧x=g i)→(∃ i,i<n∧y=g i)→fp Tryz.prog cl [aL x,aL y] (one (.int .i64 (cY y x)))) :
  OkI Tryz.prog 154 [one (slV sv n cap),one (.int .i64 0),one (.int .i64 (n:Nat)),one (.int .i64 lim),cl] [aI sv 37 (.agg 2) cap n (fun q=>aL (g q))]
   (fun _:Unit=>bv []) (fun _ => [aI sv 37 (.agg 2) cap n (fun q=>aL (dH n g q))]):=by
 have hi:=ro sv cap n g cl X hC
 refine OkI.enter Tryz.func154 Y Tryz.ntmps154 Y (fun w O => ?_)
 refine ae (ai (En Y (Ep (aa (ae (ai (En Y (Ep (aa ?_)))))))))
 refine au ?_
 refine yd 0 ?_
 refine au (ae (ai (Em Y (Em Y (El (ck _ 0 Y Y X X) (En Y (Ep (aa (ae ?_)))))))))
 refine ae (ai (Em Y (El (sT X (nC Y Y)) (Ep (aa (aG Y (ae (ai (Em Y ?_)))))))))
 refine Em Y (Em Y (Em Y ?_))
 refine gy (Kp := []) hi Y ⟨H,H,H,H,Er⟩ (List.Perm.refl _) Y Y (fun _ => ?_)
 refine Ep (aa (aD (aR (bI (aR (bI ?_))))))
 exact lA (σ:=Unit) (ψ:=fun _=>bv []) () Tryz.results154 H (SubM.refl _)
theorem tb (sv:Option Nat) (cap n:Nat) (g:Nat→Int) (cl:VT) (hn:n≤12) (hC : ∀ x y,(∃ i,i<n∧x=g i)→(∃ i,i<n∧y=g i)→fp Tryz.prog cl [aL x,aL y] (one (.int .i64 (cY y x)))) :
  OkI Tryz.prog 131 [one (slV sv n cap),cl] [aI sv 37 (.agg 2) cap n (fun q=>aL (g q))]
   (fun _:Unit=>bv []) (fun _ => [aI sv 37 (.agg 2) cap n (fun q=>aL (dH n g q))]):=by
 have hp:=fun lim=>Df sv cap n lim g cl hn hC
 have hL:=BF n X
 refine OkI.enter Tryz.func131 Y Tryz.ntmps131 Y (fun w O => ?_)
 refine ae (ai (Em Y (El (cw Y) (En Y (Ep (aa (ai (Em Y (Em Y ?_)))))))))
 refine Em Y (El (bT Y X) ?_)
 refine El (am (hL) Y ⟨H,Er⟩) ?_
 refine Em Y ?_
 refine gy (Kp := []) (hp _) Y ⟨H,H,H,H,H,Er⟩ (List.Perm.refl _) Y Y (fun _ => ?_)
 refine Ep (ja ?_)
 exact lA (σ:=Unit) (ψ:=fun _=>bv []) () Tryz.results131 H (SubM.refl _)
theorem xw (x y:Int):Ok Tryz.prog 132 [aL x,aL y] (one (.int .i64 (cY y x))):=by
 have h:=gB y x
 refine Ok.enter Tryz.func132 Y Tryz.ntmps132 Y (fun w O => ?_)
 refine ae (ai ?_)
 refine gL Y Y (ltN Y) (fun b2 => ?_)
 refine gL Y Y (ltN Y) (fun b3 => ?_)
 refine En Y (Ep (aa (ae (ai (El (ak 0 Y Y Y) (El (ak 1 Y Y Y) ?_))))))
 refine El (am (h) Y ⟨H,H,Er⟩) ?_
 refine En Y (Ep (aa (aD ?_)))
 refine aS Tryz.results132 (.tmp Y H)
theorem Dg {r c:Nat} {F:Nat→Nat→Int} : VT.le (slT (.agg 2) r (fun q=>aL (dH r (fun i=>(eR c (F i):Int)) q))) (slT (.agg 2) r (fun t=>aL (mG r c F t:Int))):=d5 fun q hq=>gN (by rw [qd hq])
theorem uM (r c:Nat) (F:Nat→Nat→Int) (hr:r≤12) (hc:c≤1048576) (hF : ∀ i j,ol (F i j)):Ok Tryz.prog 85 [bW r c F] (slT (.agg 2) r (fun t=>aL (mG r c F t:Int))):=by
 have hd:=fun i=>CS c c (F i) (F i) hc hc (hF i) (hF i)
 have hd' : ∀ i,Ok Tryz.prog 130 [bJ c (F i),bJ c (F i)] (bv [aL (eR c (F i):Int),one (.int .i64 0)]):=fun i=>by
  have h:=hd i
  rw [if_pos Y,if_pos Y, ← vY] at h;exact h
 clear hd
 unfold bW bJ at *
 refine Ok.enter Tryz.func85 Y Tryz.ntmps85 Y (fun w O => ?_)
 refine ae (ai ?_)
 refine aV Y Y (ltN Y) (fun b1 => ?_)
 refine En Y (Ep (aa (ae (ai (En Y (Ep (aa (ae (ae ?_)))))))))
 refine ai (El (aj Y) (El (ak 0 Y Y Y) (El (aX Y) (Em Y (Ep (aa (au ?_)))))))
 refine gc (ConvM.nilSl0 (T:=37) (L := .agg 2) (φ:=fun _=>bL) _) ?_
 refine co (Γ' := [(2,_),(3,_),(9,_),(10,_),(11,_)]) Eg (SubM.refl _) ?_
 refine bB (σ:=Nat × Option Nat × Nat) (Γk := [(2,_),(9,_),(10,_)]) Eg (fun s => [(11,one (.int .i64 (s.1:Nat))),(3,one (slV s.2.1 s.1 s.2.2))]) (fun s M0=>(M0.set 0 (aI s.2.1 37 (.agg 2) s.2.2 s.1 (fun q=>aL (eR c (F q):Int))))) (fun s=>s.1≤r) (fun s=>r - s.1) ((0,none,0)) (Nat.zero_le _) (by (repeat (first | exact dI.nil | refine dI.cons Y H ?_ | refine dI.cons Y BE ?_))) (.keep (bh (fun q hq=>absurd hq (Nat.not_lt_zero _))) (.keep Ek (.nil))) (fun s hs => ?_)
 refine bQ (Γ' := [(11,_),(3,_),(2,_),(9,_),(10,_)]) (M' := [_,_]) Y Y ?_
 obtain ⟨i,sv,cap⟩:=s
 dsimp only at hs ⊢
 by_cases hi:i<r
 ·refine ae (ai (El (sT X (a6 Y Y)) (Ep (aa (ae (aG Y (az (aa (ae ?_)))))))))
  refine au (ae (ai (El (aC Y Y X) (El (aO Y) (En Y (Ep (aa (ae (ai ?_)))))))))
  refine Em Y (Em Y ?_)
  refine El (am (hd' _) Y ⟨H,H,Er⟩) ?_
  refine Em Y (El (ar Y Y) (El (ar Y Y) ?_))
  refine aH (T:=37) Y (ltN Y) (fun b6 => ?_)
  refine aA 0 Y Y Y Y Y (leN Y) Y (En Y (Ep (aa (ai (Em Y (El (ak 0 Y Y Y) (gv Y Y Y Y ?_)))))))
  (refine cT 1 Y Y Y (leN Y) ?_ ?_ Y (ltN Y) (fun sv24 cap24 => ?_);omega;omega)
  refine En Y (Ep (aE (aa (ai (El (bK _ 1 Y Y X) (Em Y (Ep ?_)))))))
  refine aP ((i+1,sv24,cap24)) (hi) X Eh (.drop (.keep (xi (h:=fun q=>(eR c (F q):Int)) Y) (.keep Ek (.nil))))
 ·have he:i=r:=by omega
  subst he
  have hso:=tb sv cap i (fun q=>(eR c (F q):Int)) (one (.func (.func 132) #[] #[])) hr (fun x y _ _=>fp.fn (xw x y))
  refine ae (ai (El (sF X (a6 Y Y)) (Ep (aa (ae (aB Y (aY (av (av ?_)))))))))
  refine aF (aa (ae (ai (Em Y ?_))))
  refine gy (Kp := [_]) hso Y ⟨H,H,Er⟩ (List.Perm.refl _) Y Y (fun _ => ?_)
  refine Ep (aa (ae (ai (Em Y (En Y (Ep (aa (aD (cq (t:=2) (i:=0) Y Y ?_)))))))))
  refine aS Tryz.results85 (.tmp Y (Dg))
theorem BG (n:Nat) (g:Nat→Nat) (B:Nat) (hn:n≤1048576) (hB:1≤B) (hp:B^n<2^800) (hg : ∀ i,i<n→g i≤B):Ok Tryz.prog 84 [slT (.agg 2) n (fun t=>aL (g t:Int))] (aL (upN (prN n g):Int)):=by
 have h1:=js 1 S S
 refine Ok.enter Tryz.func84 Y Tryz.ntmps84 Y (fun w O => ?_)
 refine ae (ai ?_)
 refine aH (T:=37) Y (ltN Y) (fun b2 => ?_)
 refine Ep (aa (ae (ai ?_)))
 refine El (am (h1) Y ⟨H,Er⟩) ?_
 refine aH (T:=37) Y (ltN Y) (fun b3 => ?_)
 refine aA 0 Y Y Y Y Y (leN Y) Y (Ep (aa (ae (ae (ai (Em Y (El (aX Y) (Em Y (Ep ?_)))))))))
 refine aa (au (co (Γ' := [(2,_),(3,_),(9,_),(10,_),(11,_)]) Eg (SubM.refl _) ?_))
 refine bB (σ:=Nat) (Γk := [(2,_),(3,_),(9,_),(10,_)]) Eg (fun i => [(11,one (.int .i64 (i:Nat)))]) (fun i M0=>(M0.set 0 (aT b3 37 2 [(0, .agg 2,aL (prN i g:Int))]))) (fun i=>i≤n) (fun i=>n - i) (0) (Nat.zero_le _) Eh (.keep Ek (.keep Ek (.nil))) (fun i hi => ?_)
 refine bQ (Γ' := [(11,_),(2,_),(3,_),(9,_),(10,_)]) (M' := [_,_]) Y Y ?_
 by_cases hi:i<n
 ·have hB8:=DY hB hp X
  have hm:=eW (prN i g:Int) (g i:Int) (zG (zH (zI hB hp hg (Nat.le_of_lt hi)))) (zG (zH (Nat.lt_of_le_of_lt (hg i hi) hB8)))
  have hs:((prN (i+1) g:Nat):Int)=(prN i g:Int)*(g i:Int):=by rw [prN,Int.natCast_mul]
  refine ae (ai (El (sT X (a6 Y Y)) (Ep (aa (ae (aG Y (az (aa (ae ?_)))))))))
  refine au (ae (ai (El (aC Y Y X) (El (aO Y) ?_))))
  refine aH (T:=37) Y (ltN Y) (fun b5 => ?_)
  refine aA 0 Y Y Y Y Y (leN Y) Y (Ep (aa (ai (El (ak 1 Y Y Y) (El (ak 0 Y Y Y) ?_)))))
  refine El (am (hm) Y ⟨H,H,Er⟩) ?_
  refine aA 1 Y Y Y Y Y (leN Y) Y (Ep (aE (aa (ai (El (bK _ 1 Y Y X) (Em Y (Ep ?_)))))))
  refine aP (i+1) (hi) X Eh (.drop (.keep Ek (.keep Ek (.nil))))
 ·have he:i=n:=by omega
  subst he
  have ha:=zI hB hp hg (Nat.le_refl i)
  generalize prN i g=a at *
  have h2:=jU a
  have hs:=C7 a
  have hro:Ok Tryz.prog 101 [aL (a:Int)] (bv [aL (isq a:Int),one (.int .i64 0)]):=by
   by_cases h0:a=0
   ·subst h0;exact su
   ·exact vJ a (isq a) ha h0 h2.1 h2.2
  have hsm:bm (isq a:Int):=zG (Nat.le_trans hs (zH ha))
  have hm:=eW (isq a:Int) (isq a:Int) hsm hsm
  have hq:(isq a:Int)*(isq a:Int)=((isq a*isq a:Nat):Int):=(Int.natCast_mul _ _).symm
  have hc:=gB ((isq a:Int)*(isq a:Int)) (a:Int)
  have had:=kb (isq a:Int) 1 hsm kc
  unfold upN
  by_cases hlt:isq a*isq a<a
  ·have hcc:cY ((isq a:Int)*(isq a:Int)) (a:Int)<0:=by rw [hq]; unfold cY;rw [if_pos X]; decide
   rw [if_pos hlt]
   generalize cY ((isq a:Int)*(isq a:Int)) (a:Int)=cc at *
   refine ae (ai (El (sF X (a6 Y Y)) (Ep (aa (ae (aB Y (aY (av (av ?_)))))))))
   refine aF (aa (ae (ai (El (ak 0 Y Y Y) ?_))))
   refine El (am (hro) Y ⟨H,Er⟩) ?_
   refine Em Y (El (ar Y Y) (El (ar Y Y) ?_))
   refine aH (T:=37) Y (ltN Y) (fun b6 => ?_)
   refine aA 0 Y Y Y Y Y (leN Y) Y (En Y (Ep (aa (ae (ae (a7 6 aZ Z S (El (ak 0 Y Y Y) (El (ak 0 Y Y Y) ?_))))))))
   refine El (am (hm) Y ⟨H,H,Er⟩) ?_
   refine El (ak 1 Y Y Y) ?_
   refine El (am (hc) Y ⟨H,H,Er⟩) ?_
   refine El (sT (by assumption) (a6 Y Y)) (Ep (Ep (aa (aG Y (a7 2 aZ Z S (El (ak 0 Y Y Y) ?_))))))
   refine El (am (h1) Y ⟨H,Er⟩) ?_
   refine Ep ?_
   refine El (am (had) Y ⟨H,H,Er⟩) ?_
   refine aA 0 Y Y Y Y Y (leN Y) Y (Ep (aa (ae (ai (El (ak 0 Y Y Y) (aA 2 Y Y Y Y Y (leN Y) Y (Ep (aa (aD ?_)))))))))
   refine aS Tryz.results84 (.cellB 2 Y Y Y (xm X))
  ·have hcc : ¬ cY ((isq a:Int)*(isq a:Int)) (a:Int)<0:=by
    rw [hq]; unfold cY;rw [if_neg X]; split <;> decide
   rw [if_neg hlt]
   generalize cY ((isq a:Int)*(isq a:Int)) (a:Int)=cc at *
   refine ae (ai (El (sF X (a6 Y Y)) (Ep (aa (ae (aB Y (aY (av (av ?_)))))))))
   refine aF (aa (ae (ai (El (ak 0 Y Y Y) ?_))))
   refine El (am (hro) Y ⟨H,Er⟩) ?_
   refine Em Y (El (ar Y Y) (El (ar Y Y) ?_))
   refine aH (T:=37) Y (ltN Y) (fun b6 => ?_)
   refine aA 0 Y Y Y Y Y (leN Y) Y (En Y (Ep (aa (ae (ae (a7 6 aZ Z S (El (ak 0 Y Y Y) (El (ak 0 Y Y Y) ?_))))))))
   refine El (am (hm) Y ⟨H,H,Er⟩) ?_
   refine El (ak 1 Y Y Y) ?_
   refine El (am (hc) Y ⟨H,H,Er⟩) ?_
   refine El (sF (by assumption) (a6 Y Y)) (Ep (Ep (aa (aB Y (az (aa (ae (ai (El (ak 0 Y Y Y) ?_)))))))))
   refine aA 2 Y Y Y Y Y (leN Y) Y (Ep (aa (aD ?_)))
   refine aS Tryz.results84 (.cellB 2 Y Y Y H)
end Tor
end
section
namespace Tor
open Go Go.RowKit Go.Proofs
attribute [local irreducible] J PJ aK one slT bR bC bv exT cj eP aT aI slV VT.le Ret bL
attribute [local irreducible] aL
theorem xx (r c:Nat) (F:Nat→Nat→Int) (k:Int) (hk:k≤0):Ok Tryz.prog 53 [bW r c F,one (.int .i64 k)] (aL 1):=by
 have h0:=js 1 S S
 unfold bW
 refine Ok.enter Tryz.func53 Y Tryz.ntmps53 Y (fun w O => ?_)
 refine ae (ai ?_)
 refine aV Y Y (ltN Y) (fun b2 => ?_)
 refine aH (T:=37) Y (ltN Y) (fun b4 => ?_)
 refine Ep (aa (ae (au (ae (ai (Em Y (El (sT (by assumption) (nC Y Y)) (En Y (Ep ?_)))))))))
 refine aa (aG Y (ae (ai ?_)))
 refine El (am (h0) Y ⟨H,Er⟩) ?_
 refine aA 0 Y Y Y Y Y (leN Y) Y (Ep (aa (aD (bI (aR ?_)))))
 refine aS Tryz.results53 (.cellB 0 Y Y Y H)
theorem zU (r c:Nat) (F:Nat→Nat→Int) (k B:Nat) (hr:r≤12) (hc:c≤1048576) (hk0:0<k) (hk:k≤r) (hF : ∀ i j,ol (F i j)) (hB:1≤B) (hn:B^r<2^800) (hl : ∀ i,i<r→eR c (F i)≤B) :
  Ok Tryz.prog 53 [bW r c F,one (.int .i64 (k:Nat))] (aL (upN (prN k (mG r c F)):Int)):=by
 have hle:=uM r c F hr hc hF
 have hro:=BG k (mG r c F) B X hB (Nat.lt_of_le_of_lt (Nat.pow_le_pow_right hB hk) hn) (fun i hi=>v5 hl X)
 unfold bW at *
 refine Ok.enter Tryz.func53 Y Tryz.ntmps53 Y (fun w O => ?_)
 refine ae (ai ?_)
 refine aV Y Y (ltN Y) (fun b2 => ?_)
 refine aH (T:=37) Y (ltN Y) (fun b4 => ?_)
 refine Ep (aa (ae (au (ae (ai (Em Y (El (sF X (nC Y Y)) (En Y (Ep ?_)))))))))
 refine aa (aB Y (ae (ai (Em Y (El (aj Y) (El (ak 1 Y Y Y) (El (aX Y) (El (sF X (cW Y Y)) (En Y ?_)))))))))
 refine Ep (aa (aB Y (az (aE (aa (ae (ai (El (aN 1 Y Y) ?_))))))))
 refine El (am (hle) Y ⟨H,Er⟩) ?_
 refine Em Y ?_
 refine El (gq Y Y Y Y (fun _=>rfl) X X X X) ?_
 refine jd (t:=19) (ψ:=slT (.agg 2) k (fun t=>aL (mG r c F t:Int))) Y (cC X (fun q hq=>by rw [show Int.toNat 0+q=q by simp])) ?_
 refine El (am (hro) Y ⟨H,Er⟩) ?_
 refine aA 0 Y Y Y Y Y (leN Y) Y (Ep (aa (aD ?_)))
 refine aS Tryz.results53 (.cellB 0 Y Y Y H)
end Tor
end
