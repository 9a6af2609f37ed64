/-
  Theorems that the proofs of laws of this seat rest on.
  No condition.
-/
import Derived.Test.YtbgloceimmbliaaGreatEB8
import Derived.ScopeJumps
set_option maxHeartbeats 20000000
set_option linter.unusedVariables false
set_option linter.unusedSimpArgs false
section
namespace Tor
open Go Go.RowKit Go.Proofs
abbrev U64:=Fin 18446744073709551616
def Ew (x:U64):Value := .int .u64 (x.val:Nat)
def dnL (c k:Nat):List U64:=(List.range k).map fun i=>⟨(c - 1 - i) % 18446744073709551616,Nat.mod_lt _ U⟩
theorem kJ {c k:Nat} : dnL c (k+1)=dnL c k ++ [⟨(c - 1 - k) % 18446744073709551616,Nat.mod_lt _ U⟩]:=by simp [dnL,List.range_succ]
theorem CG {c k:Nat} : (dnL c k).length=k:=by simp [dnL]
theorem pR {p:Nat→Bool} {c:Nat} (hc:c<18446744073709551616) : ∀ k,k≤c→(∀ y∈dnL c k,p y.val=false)→iM p c=iM p (c - k)
 | 0, _, _ => rfl
 | k + 1, hk, h => by
  rw [pR hc k X (fun y hy=>h y (by rw [kJ]; exact List.mem_append.2 (.inl hy)))]
  have h1:=h ⟨(c - 1 - k) % 18446744073709551616,Nat.mod_lt _ U⟩ (by rw [kJ]; exact List.mem_append.2 (.inr (List.mem_singleton.2 Y)))
  have h1:p ((c - 1 - k) % 18446744073709551616)=false:=h1
  rw [Nat.mod_eq_of_lt X] at h1
  rw [show c - k=(c - 1 - k)+1 by omega,iM,if_neg (by rw [h1]; simp),show c - (k+1)=c - 1 - k by omega]
attribute [local irreducible] J PJ aM one slT bW bH bj exT cn eP aX aH slV VT.le Ret bP
theorem AS (n:Nat) (hn:n<18446744073709551616):OkY Tryz.prog 157 [bW .one (one (.int .u64 (n:Nat)))] Ew (fun xs=>xs=dnL (min n 2147483648) (min n 2147483648)) (fun pre => ∃ k,k<min n 2147483648∧pre=dnL (min n 2147483648) (k+1)) (min n 2147483648):=by
 refine OkY.enter Tryz.func157 Y Tryz.ntmps157 Y (fun w0 l J Jx B hA hAx hY h0 => ?_)
 refine ae (ai (FH (aN Y) (FH (wa Y Y) (FJ Y (FL (aa (au ?_)))))))
 obtain ⟨c,hc⟩ : ∃ c:Nat,c=min n 2147483648:=⟨_,rfl⟩
 have hcl:c<18446744073709551616:=by omega
 have hci:(min (n:Int) 2147483648)=(c:Int):=by omega
 rw [hci]
 rw [← hc] at hY ⊢
 refine EZ [(0,one (.func (.yield l) #[] #[])),(3,one (.int .u64 (c:Nat)))] (.cons Y S (.cons Y S .nil)) (.cons (.cons .nil)) (fun w1 hw1 => ?_)
 refine cO (σ:=Nat × World) (fun s => [(0,one (.func (.yield l) #[] #[])),(3,one (.int .u64 ((c - s.1:Nat):Int)))]) (fun s => [yO s.2]) (fun s=>s.1≤c∧SameW w1 s.2∧J (dnL c s.1) s.2) (fun s=>c - s.1) (0,w1)
  ⟨Nat.zero_le _,SameW.refl _,qE hA h0 hw1⟩ (dV.refl _) (SubM.refl _) (fun s hs => ?_)
 obtain ⟨k,W⟩:=s
 obtain ⟨hk,hsw,hJ⟩:=hs
 dsimp only at hk hsw hJ ⊢
 by_cases hlt:k<c
 ·have hv:one (.int .u64 ((c - k - 1:Nat):Int))=one (Ew ⟨(c - 1 - k) % 18446744073709551616,Nat.mod_lt _ U⟩):=by
   have e:(c - 1 - k) % 18446744073709551616=c - k - 1:=by omega
   show _=one (.int .u64 (((c - 1 - k) % 18446744073709551616:Nat):Int))
   rw [e]
  refine ae (ae (ai ?_))
  refine FI Y (FH (sT X (cU Y Y)) (FL ?_))
  refine aa (aD Y (aw (aa (ae (au (ae ?_))))))
  refine DP (m:=3) ⟨(c - 1 - k) % 18446744073709551616,Nat.mod_lt _ U⟩ [(0,one (.func (.yield l) #[] #[])),(3,one (.int .u64 ((c - k:Nat):Int)))] hY hA hsw hJ (by rw [CG]; exact hlt) Y Y (.cons (.cons .nil)) ?_ (fun W' hJ' hw' => ?_) (fun W' hx' => ?_)
  ·refine FI Y (FI Y (FH (jj 1 Y Y X X) (FL ?_)))
   exact ⟨rfl,rfl,rfl,congrArg some hv, .cons Y S (.cons Y S .nil)⟩
  ·rw [← kJ] at hJ'
   refine FH (dk Y) (FL (aa (aA Y (aw (aF (aa (ai (FI Y (FH (jj 1 Y Y X X) ?_)))))))))
   refine FJ Y (FL ?_)
   refine aK (k+1,W') ?_ ?_ ?_ (SubM.refl _)
   ·exact ⟨hlt,hw',hJ'⟩
   ·show c - (k+1)<c - k;omega
   ·exact .cons Y S (.cons Y (ar (by rw [Nat.sub_sub])) .nil)
  ·rw [← kJ] at hx'
   refine FH (dk Y) (FL (aa (aD Y (aG (bJ (aS (aS (bJ ?_))))))))
   exact zA Y hAx hx' ⟨k,hlt,rfl⟩ (SameW.refl _)
 ·obtain rfl:k=c:=by omega
  refine ae (ae (ai (FI Y (FH (sF X (cU Y Y)) (FL (aa (aA Y (aV (av ?_)))))))))
  refine av (aE ?_)
  exact zy Y hA hJ Y hsw
theorem AT (n:Nat) (hn:n<18446744073709551616):Ok Tryz.prog 133 [jI 157 [bW .one (one (.int .u64 (n:Nat)))]] (one (.int .u64 (bf cJ n:Nat))):=by
 refine Ok.enterR Tryz.func133 Y Tryz.ntmps133 Y (fun w O => ?_)
 refine ae (ai ?_)
 refine aJ (T:=44) Y (ltN Y) (fun b2 => ?_)
 refine FL (aa (ae (ae (ai (FI Y (FL (aa (au ?_))))))))
 refine BR (α:=U64) (σ:=Nat) (AS n hn) (fun v => [aX b2 44 1 [(0, .one,one (.int .u64 (v:Nat)))]]) (fun pre v=>v=0 ∧ ∀ x∈pre,cJ x.val=false)
  (fun e pre v=>e=none ∧ ∃ init x,pre=init ++ [x]∧v=x.val∧cJ x.val=true ∧ ∀ y∈init,cJ y.val=false) 0 Y Y ⟨rfl,fun x h=>by cases h⟩ (SubM.refl _) Y Y (by simp [gD,gL])
  (fun l W pre x v hv hlen => ?_) (fun xs v D hxs hv => ?_) (fun pre v D hpre hv => ?_) (fun id pre v D hpre hv=>absurd hv.1 (by simp))
 ·obtain ⟨rfl,hv⟩:=hv
  have hx:=x.isLt
  unfold Ew
  cases hp:cJ x.val with
  | true =>
   refine au (ae (ai (FI Y ?_)))
   refine FH (sBt (by assumption) (am (kX _ (by assumption)) Y ⟨S,FM⟩)) ?_
   refine FL (aa (aD Y (ae (ai (FI Y (aB 0 Y Y Y Y Y (leN Y) Y (FL (aa (aG ?_)))))))))
   refine bJ ?_
   exact BS (x.val:Nat) ⟨rfl,pre,x,rfl,rfl,hp,hv⟩ (SubM.refl _)
  | false =>
   refine au (ae (ai (FI Y ?_)))
   refine FH (sBf (by assumption) (am (kX _ (by assumption)) Y ⟨S,FM⟩)) ?_
   refine FL (aa (aA Y (aw (aF ?_))))
   exact o7 0 ⟨rfl,fun y hy=>by rcases List.mem_append.1 hy with h | h;exact hv y h;rw [List.mem_singleton.1 h]; exact hp⟩ (SubM.refl _)
 ·have hz:bf cJ n=0:=by
   have:=pR (p:=cJ) (c:=min n 2147483648) X (min n 2147483648) (Nat.le_refl _) (fun y hy=>hv.2 y (hxs▸hy))
   rw [Nat.sub_self] at this
   exact this
  refine aF (aa (ae (ai (aB 1 Y Y Y Y Y (leN Y) Y (FL (aa (aG ?_)))))))
  rw [hz]
  refine ow ?_
  refine aT Tryz.results133 (.cellB 0 Y Y Y S)
 ·obtain ⟨k,hk,hpre⟩:=hpre
  obtain ⟨_,init,x,h1,rfl,h3,h4⟩:=hv
  have hz:bf cJ n=x.val:=by
   rw [hpre,kJ] at h1
   obtain ⟨e1,e2⟩:=List.append_inj' h1 Y
   have e2:(⟨(min n 2147483648 - 1 - k) % 18446744073709551616,Nat.mod_lt _ U⟩:U64)=x:=by simpa using e2
   have hb:=pR (p:=cJ) (c:=min n 2147483648) X k X (fun y hy=>h4 y (e1▸hy))
   have e3:x.val=min n 2147483648 - 1 - k:=by rw [← e2]; show (min n 2147483648 - 1 - k) % 18446744073709551616=_;omega
   show iM cJ (min n 2147483648)=_
   rw [hb,show min n 2147483648 - k=(min n 2147483648 - 1 - k)+1 by omega,iM,if_pos (by rw [← e3]; exact h3),e3]
  refine bJ (aS ?_)
  rw [hz]
  refine ow ?_
  refine aT Tryz.results133 (.cellB 0 Y Y Y S)
theorem ud (n:Nat) (hn:n<18446744073709551616):Ok Tryz.prog 134 [one (.int .u64 (n:Nat))] (jI 157 [bW .one (one (.int .u64 (n:Nat)))]):=by
 refine Ok.enter Tryz.func134 Y Tryz.ntmps134 Y (fun w O => ?_)
 refine ae (ai ?_)
 refine gF Y Y (ltN Y) (fun b1 => ?_)
 refine FJ Y (FL (aa (ae (ai (FH (lL Y) (FJ Y (FL (aa (aG ?_)))))))))
 refine iW [aX b1 44 1 [(0, .one,one (.int .u64 (n:Nat)))]] (Kp := []) (Kp' := []) (List.Perm.refl _) (EntM.refl []) (xw.set (t:=2) Y (Ent.clo1 (Ent.ptr List.mem_cons_self List.mem_cons_self))) ?_
 refine aT Tryz.results134 (.tmp Y S)
theorem nD (n:Nat) (hn:n<18446744073709551616):Ok Tryz.prog 89 [one (.int .u64 (n:Nat))] (one (.int .u64 (bf cJ n:Nat))):=by
 refine Ok.enter Tryz.func89 Y Tryz.ntmps89 Y (fun w O => ?_)
 have h1:=ud n hn
 have h2:=AT n hn
 refine ae (ai (FJ Y (FL (aa (ae (ai (FI Y ?_)))))))
 refine FH (am (h1) Y ⟨S,FM⟩) ?_
 refine FH (am (h2) Y ⟨S,FM⟩) ?_
 refine FJ Y (FL (aa (aG ?_)))
 refine aT Tryz.results89 (.tmp Y S)
end Tor
end
section
namespace Tor
open Go Go.RowKit Go.Proofs
def sr (p n:Nat) (F:Nat→Nat→Int) (R:Nat→Nat→Nat):Prop:=(∀ i j,i<n→j<n→R i j<p) ∧ ∀ i j,i<n→j<n→(p:Int)∣bD n (fun t=>(R i t:Int)*F t j) - (if i=j then 1 else 0)
def Fs (p n:Nat) (F:Nat→Nat→Int):VT:=exT fun R:Nat→Nat→Nat=>cn (sr p n F R) (slT .one n (fun i=>jQ n (R i)))
theorem AU {p n:Nat} {F:Nat→Nat→Int} (hp:1<p):EchI p n F 0 (oh p (fZ n F)):=by
 refine EchI.start X (fun i j hi hj => ?_) (fun i t hi ht => ?_) hp
 ·unfold oh fZ
  rw [if_pos hj,Int.toNat_of_nonneg (Int.emod_nonneg _ X)]
 ·unfold oh fZ
  rw [if_neg X,show n+t - n=t by omega]
  by_cases e:i=t
  ·rw [if_pos e,if_pos e,Int.emod_eq_of_lt U X]; rfl
  ·rw [if_neg e,if_neg e]; simp
theorem AV {p n:Nat} {F:Nat→Nat→Int} {W:Nat→Nat→Nat} (h:EchI p n F n W):sr p n F (fun i j=>W i (n+j)) :=
 ⟨fun i j hi hj=>h.lt i (n+j) hi X,h.done⟩
def e7 (p n:Nat) (R:Nat→Nat→Nat) (r:Nat→Int):Nat→Nat→Nat
 | 0, _ => 0
 | i + 1, j => (e7 p n R r i j + (r i % (p : Int)).toNat * R i j % p) % p
theorem jS {p n:Nat} {R:Nat→Nat→Nat} {r:Nat→Int} (hp:2≤p) : ∀ i j,e7 p n R r i j<p
 | 0, _ => by show 0 < p; omega
 | i + 1, j => Nat.mod_lt _ X
theorem AW {bz n i:Nat} {W:Nat→Nat→Nat} : Own.le (aH (some bz) 173 .one n n (upd (fun q=>if q<i then jQ n (fun j=>W q (n+j)) else bP) i (slT .one (((n+n:Nat):Int) - (n:Int)).toNat (fun j=>one (.int .u64 (W i (Int.toNat (n:Int)+j):Nat)))))) (aH (some bz) 173 .one n n (fun q=>if q<i+1 then jQ n (fun j=>W q (n+j)) else bP)):=a7 fun q _=>by
 unfold upd
 by_cases h:q=i
 ·subst h;rw [if_pos Y,if_pos (Nat.lt_succ_self q),show (((n+n:Nat):Int) - (n:Int)).toNat=n by omega,show Int.toNat (n:Int)=n from rfl]
 ·rw [if_neg h]
  dsimp only
  by_cases h2:q<i
  ·rw [if_pos h2,if_pos X]
  ·rw [if_neg h2,if_neg X]
theorem pS {sv:Option Nat} {T:TypeId} {L:Lay} {cap n t:Nat} {G:Nat→VT} : Own.le (aH sv T L cap n (upd (fun q=>if q<t then G q else bP) t (G t))) (aH sv T L cap n (fun q=>if q<t+1 then G q else bP)):=a7 fun q _=>by
 unfold upd
 by_cases h:q=t
 ·subst h;rw [if_pos Y,if_pos (Nat.lt_succ_self q)]
 ·rw [if_neg h]
  dsimp only
  by_cases h2:q<t
  ·rw [if_pos h2,if_pos X]
  ·rw [if_neg h2,if_neg X]
attribute [local irreducible] J PJ aM one slT bW bH bj exT cn eP aX aH slV VT.le Ret bP
attribute [local irreducible] aO
theorem jT (r c k:Nat) (F:Nat→Nat→Int) (f:Nat→Int):Ok Tryz.prog 49 [bO r c F,bw k f] (one (.bool (decide (r=c∧k=c)))):=by
 have hv:=fX r c F
 unfold bO bw at *
 refine Ok.enter Tryz.func49 Y Tryz.ntmps49 Y (fun w O => ?_)
 by_cases h1:r=c
 ·by_cases h2:k=c
  ·rw [decide_eq_true ⟨h1,h2⟩]
   refine ae (ai ?_)
   refine aQ Y Y (ltN Y) (fun b2 => ?_)
   refine FJ Y (FL (aa (ae (ai (FH (aI 0 Y Y) ?_)))))
   refine FH (am (hv) Y ⟨S,FM⟩) ?_
   refine FI Y (FK (aj Y) (FK (ak 0 Y Y Y) (FK (aj Y) (FK (ak 0 Y Y Y) (FK (sT X (bV Y Y)) (FH (a5 Y Y) (FI Y (FK (ab Y) (FK (aY Y) ?_)))))))))
   refine FK (aj Y) (FK (ak 0 Y Y Y) (FK (sT X (bV Y Y)) (FH (a5 Y Y) (FJ Y (FL (aa (aG ?_)))))))
   refine aT Tryz.results49 (.tmp Y S)
  ·rw [decide_eq_false (fun h=>h2 h.2)]
   refine ae (ai ?_)
   refine aQ Y Y (ltN Y) (fun b2 => ?_)
   refine FJ Y (FL (aa (ae (ai (FH (aI 0 Y Y) ?_)))))
   refine FH (am (hv) Y ⟨S,FM⟩) ?_
   refine FI Y (FK (aj Y) (FK (ak 0 Y Y Y) (FK (aj Y) (FK (ak 0 Y Y Y) (FK (sT X (bV Y Y)) (FH (a5 Y Y) (FI Y (FK (ab Y) (FK (aY Y) ?_)))))))))
   refine FK (aj Y) (FK (ak 0 Y Y Y) (FK (sF X (bV Y Y)) (FH (a5 Y Y) (FJ Y (FL (aa (aG ?_)))))))
   refine aT Tryz.results49 (.tmp Y S)
 ·rw [decide_eq_false (fun h=>h1 h.1)]
  refine ae (ai ?_)
  refine aQ Y Y (ltN Y) (fun b2 => ?_)
  refine FJ Y (FL (aa (ae (ai (FH (aI 0 Y Y) ?_)))))
  refine FH (am (hv) Y ⟨S,FM⟩) ?_
  refine FI Y (FK (aj Y) (FK (ak 0 Y Y Y) (FK (aj Y) (FK (ak 0 Y Y Y) (FK (sF X (bV Y Y)) (FH (a5 Y Y) (FI Y (sn0 Y Y Y Y Y (sn0 Y Y Y Y Y ?_)))))))))
  refine sn0 Y Y Y Y Y (sn0 Y Y Y Y Y (sn0 Y Y Y Y Y (FH (bG Y Y) (FJ Y (FL (aa (aG ?_)))))))
  refine aT Tryz.results49 (.tmp Y S)
theorem vH (p n:Nat) (F:Nat→Nat→Int) (hpb:cJ p=true) (hp2:2≤p) (hp:p<2147483648) (hinv:vA p) (hF:vB p n F) (hn:n≤1024) (hs : ∀ i j,bE (F i j)) :
  Ok Tryz.prog 92 [bO n n F,one (.int .u64 (p:Nat))] (Fs p n F):=by
 have hid:=tU n X
 have hbe:Ok Tryz.prog 136 [bO n n F,bO n n (fun i j=>if i=j then 1 else 0)] (bj [bO n (n+n) (fZ n F),one (.int .i64 0)]):=by
  have h:=x7 n n F n n (fun i j=>if i=j then 1 else 0) X X X hs (fun i j=>by split;exact nr;exact lX)
  rw [decide_eq_true Y] at h
  unfold tV at h
  rw [if_pos Y,if_pos Y,if_pos Y] at h
  exact h
 have hre:=t4 p n (n+n) (fZ n F) hpb X hp X X (fun i j=>by
  unfold fZ;split
  ·exact hs _ _
  ·split
   ·exact nr
   ·exact lX)
 have hrr:=(Cx p n F (oh p (fZ n F)) hpb hp2 hp hinv hF hn (AU X)).toM
 unfold bO at *
 refine Ok.enter Tryz.func92 Y Tryz.ntmps92 Y (fun w O => ?_)
 refine ae (ai ?_)
 refine aQ Y Y (ltN Y) (fun b2 => ?_)
 refine FJ Y (FL (aa (ae (ai (FH (aj Y) (FH (ak 0 Y Y Y) (FJ Y (FL (aa ?_)))))))))
 refine ae ?_
 refine eh a4 Z Z ?_
 refine ux (fun B=>aI 0 Y Y) Y Y ?_
 refine ux (fun B=>ab Y) Y Y ?_
 refine uxk (hid) Y ⟨S,FM⟩ Y ?_
 refine uxk (hbe) Y ⟨S,S,FM⟩ Y ?_
 refine ux (fun B=>ab Y) Y Y ?_
 refine ux (fun B=>an Y Y) Y Y ?_
 refine ux (fun B=>an Y Y) Y Y ?_
 refine ua Y (us Y ?_)
 refine ux (fun B=>ah Y) Y Y ?_
 refine RunU.nil (fun γ => ?_)
 refine cR (M' := [_,_]) Y (io (dV.refl _) (.keep jt (SubM.refl _)) (aa (ae (ai (FI Y (FH (aI 0 Y Y) ?_))))))
 refine FH (am (hre) Y ⟨S,S,FM⟩) ?_
 refine gz (hrr) Y ⟨S,FM⟩ Y Y (fun s25 => ?_)
 refine FI Y (FH (an Y Y) (FH (an Y Y) ?_))
 refine bF (T:=169) Y Y Y (fun b8 => ?_)
 refine a8 0 Y Y Y Y (FJ Y (FL (aa (ae (ai (FI Y ?_))))))
 refine bY n n Y Y Y Y (Nat.le_refl _) Y Y X Y Y (fun bz => ?_)
 refine FJ Y (FL (aa (ae (ae (ai (FI Y (FH (cB Y) (FI Y (FL ?_)))))))))
 refine aa (au ?_)
 obtain ⟨W,hI⟩:=s25
 dsimp only
 refine cf (Γ' := [(4,_),(5,_),(8,_),(10,_),(31,_),(32,_)]) FC (SubM.refl _) ?_
 refine bk (σ:=Nat) (Γk := [(4,_),(5,_),(8,_),(10,_),(31,_)]) FC (fun i => [(32,one (.int .i64 (i:Nat)))]) (fun i M0=>(M0.set 0 (aH (some bz) 173 .one n n (fun q=>if q<i then jQ n (fun j=>W q (n+j)) else bP)))) (fun i=>i≤n) (fun i=>n - i) (0) (Nat.zero_le _) FD (.keep (ez fun q hq=>by rw [if_neg (Nat.not_lt_zero q)]; exact kC _) (.keep FG (.keep FG (.keep FG (.nil))))) (fun i hi => ?_)
 refine bI (Γ' := [(32,_),(4,_),(5,_),(8,_),(10,_),(31,_)]) (M' := [_,_,_,_]) Y Y ?_
 by_cases hi2:i<n
 ·refine ae (ai (FH (sT X (a6 Y Y)) (FL (aa (ae (aD Y (aw (aa (ae ?_)))))))))
  refine au (ae (ai (FI Y (FJ Y (FL (aa (ai (FI Y (FI Y ?_)))))))))
  refine FH (aj Y) (FH (ak 1 Y Y Y) (FI Y (FH (aC Y Y X) (FH (aN Y) (FI Y ?_)))))
  refine FH (gS Y Y Y Y (fun h=>nomatch h) X X X X) ?_
  refine FH (aq Y Y X) ?_
  (refine az 0 Y Y Y ?_ Y ?_;omega)
  refine FL (aF (aa (ai (FH (bC _ 1 Y Y X) (FI Y (FL ?_))))))
  refine aK (i+1) X X FD (.keep (AW) (.keep FG (.keep FG (.keep FG (.nil)))))
 ·have hin:i=n:=by omega
  subst hin
  refine ae (ai (FH (sF X (a6 Y Y)) (FL (aa (ae (aA Y (aV (av (av ?_)))))))))
  refine aE (aa (ae (ai (FI Y (FJ Y (FL (aa (aG ?_))))))))
  refine io (dV.refl _) (.keep (a7 (ψ:=fun q=>jQ i (fun j=>W q (i+j))) (fun q hq=>by rw [if_pos hq])) (SubM.refl _)) ?_
  refine bZ (t:=4) (i:=0) Y Y ?_
  refine aT Tryz.results92 (.tmp Y (oT (fun a b=>W a (i+b)) (mf (AV hI) S)))
theorem vI (p n:Nat) (R:Nat→Nat→Nat) (r:Nat→Int) (hp2:2≤p) (hp:p<2147483648) (hR : ∀ i j,i<n→j<n→R i j<p) (hn:n≤1024) (hs : ∀ i,bE (r i)) :
  Ok Tryz.prog 93 [bw n r,slT .one n (fun i=>jQ n (R i)),one (.int .u64 (p:Nat))] (bw n (fun j=>(e7 p n R r n j:Int))):=by
 unfold bw
 refine Ok.enter Tryz.func93 Y Tryz.ntmps93 Y (fun w O => ?_)
 refine ae (ai (FJ Y (FL (aa (ae (ai (FI Y (FH (aY Y) ?_))))))))
 refine bY n n Y Y Y Y (Nat.le_refl _) Y Y X Y Y (fun bs => ?_)
 refine FJ Y (FL (aa (ae (ae (ai (FI Y (FH (aY Y) (FI Y (FL ?_)))))))))
 refine aa (au (cf (Γ' := [(0,_),(1,_),(2,_),(6,_),(7,_),(19,_),(20,_),(21,_)]) FC (SubM.refl _) ?_))
 refine bk (σ:=Nat) (Γk := [(0,_),(1,_),(2,_),(6,_),(7,_),(19,_),(20,_)]) FC (fun i => [(21,one (.int .i64 (i:Nat)))]) (fun i M0=>(M0.set 0 (aH (some bs) 44 .one n n (fun j=>one (.int .u64 (e7 p n R r i j:Nat)))))) (fun i=>i≤n) (fun i=>n - i) (0) (Nat.zero_le _) FD (.keep FG (.nil)) (fun i hi => ?_)
 refine bI (Γ' := [(21,_),(0,_),(1,_),(2,_),(6,_),(7,_),(19,_),(20,_)]) (M' := [_]) Y Y ?_
 by_cases hi2:i<n
 ·have hre:=iF p (r i) X X (hs i)
  have hk:(r i % (p:Int)).toNat<p:=by
   have:=Int.emod_nonneg (r i) (show (p:Int)≠0 by omega)
   have:=Int.emod_lt_of_pos (r i) (show 0<(p:Int) by omega)
   omega
  generalize hkk:(r i % (p:Int)).toNat=k at *
  refine ae (ai (FH (sT X (a6 Y Y)) (FL (aa (ae (aD Y (aw (aa (ae ?_)))))))))
  refine au (ae (ai (FI Y (FH (aC Y Y X) (FH (aN Y) ?_)))))
  refine aJ (T:=37) Y (ltN Y) (fun b9 => ?_)
  refine FJ Y (aB 0 Y Y Y Y Y (leN Y) Y (FL (aa (ae (ai (FI Y (FH (ak 0 Y Y Y) ?_)))))))
  refine FH (am (hre) Y ⟨S,S,FM⟩) ?_
  refine FJ Y (FL (aa (ae (ai (FI Y (FI Y (FH (aC Y Y X) (FH (aN Y) (FH (aY Y) ?_)))))))))
  refine FI Y (FL (aa (au (cf (Γ' := [(0,_),(1,_),(2,_),(6,_),(7,_),(10,_),(19,_),(20,_),(21,_),(32,_),(33,_),(34,_)]) FC (SubM.refl _) ?_))))
  refine bk (σ:=Nat) (Γk := [(0,_),(1,_),(2,_),(6,_),(7,_),(10,_),(19,_),(20,_),(21,_),(32,_),(33,_)]) FC (fun j => [(34,one (.int .i64 (j:Nat)))]) (fun j M0=>(M0.set 1 (aH (some bs) 44 .one n n (fun q=>one (.int .u64 ((if q<j then (e7 p n R r i q+k*R i q % p) % p else e7 p n R r i q:Nat))))))) (fun j=>j≤n) (fun j=>n - j) (0) (Nat.zero_le _) FD (.keep FG (.keep FG (.nil))) (fun j hj => ?_)
  refine bI (Γ' := [(34,_),(0,_),(1,_),(2,_),(6,_),(7,_),(10,_),(19,_),(20,_),(21,_),(32,_),(33,_)]) (M' := [_,_]) Y Y ?_
  by_cases hjn:j<n
  ·have h1:=hR i j hi2 hjn
   have h2:e7 p n R r i j<p:=jS hp2 i j
   have h3:k*R i j % p<p:=Nat.mod_lt _ X
   have hm:=i6 p k (R i j) X X X X
   have ha:=wN p (e7 p n R r i j) (k*R i j % p) X X X X
   refine ae (ai (FH (sT X (a6 Y Y)) (FL (aa (ae (aD Y (aw (aa (ae ?_)))))))))
   refine au (ae (ai (FI Y (FH (aC Y Y X) (FH (aN Y) (FJ Y (FJ Y (FL (aa ?_)))))))))
   refine be 12 a4 Z U (FI Y (FI Y (FI Y (FI Y (FI Y (FH (aq Y Y X) (FH (bg 1 Y Y X) (FI Y (FI Y ?_)))))))))
   refine FI Y ?_
   refine FH (am (hm) Y ⟨S,S,S,FM⟩) ?_
   refine FH (am (ha) Y ⟨S,(ar (by rw [if_neg (Nat.lt_irrefl j)])),S,FM⟩) ?_
   refine FL (FH (aq Y Y X) ?_)
   (refine az 1 Y Y Y ?_ Y ?_;omega)
   refine FL (aF (aa (ai (FH (bC _ 1 Y Y X) (FI Y (FL ?_))))))
   refine aK (j+1) X X FD (.keep FG (.keep (nx (G:=fun q=>(e7 p n R r i q+k*R i q % p) % p) (FA:=fun q=>e7 p n R r i q)) (.nil)))
  ·have hjn2:j=n:=by omega
   refine ae (ai (FH (sF X (a6 Y Y)) (FL (aa (ae (aA Y (aV (av (av ?_)))))))))
   refine aE (aF (aa (ai (FH (bC _ 1 Y Y X) (FI Y (FL ?_))))))
   refine aK (i+1) X X FD (.drop (.keep (a7 (fun q hq=>by rw [if_pos X, ← hkk]; rfl)) (.nil)))
 ·have hin:i=n:=by omega
  subst hin
  refine ae (ai (FH (sF X (a6 Y Y)) (FL (aa (ae (aA Y (aV (av (av ?_)))))))))
  refine aE (aa (ae (ai (FI Y (FH (aY Y) ?_)))))
  refine bY i i Y Y Y Y (Nat.le_refl _) Y Y X Y Y (fun bd => ?_)
  refine FJ Y (FL (aa (ae (ae (ai (FI Y (FH (cB Y) (FI Y (FL ?_)))))))))
  refine aa (au (cf (Γ' := [(6,_),(13,_),(57,_),(58,_),(59,_)]) FC (SubM.refl _) ?_))
  refine bk (σ:=Nat) (Γk := [(6,_),(13,_),(57,_),(58,_)]) FC (fun t => [(59,one (.int .i64 (t:Nat)))]) (fun t M0=>(M0.set 0 (aH (some bd) 37 (.agg 2) i i (fun q=>if q<t then aO (e7 p i R r i q:Int) else bP)))) (fun t=>t≤i) (fun t=>i - t) (0) (Nat.zero_le _) FD (.keep (ez fun q hq=>by rw [if_neg (Nat.not_lt_zero q)]; exact kC _) (.keep FG (.nil))) (fun t ht => ?_)
  refine bI (Γ' := [(59,_),(6,_),(13,_),(57,_),(58,_)]) (M' := [_,_]) Y Y ?_
  by_cases hti:t<i
  ·have h2:e7 p i R r i t<p:=jS hp2 i t
   have ho:=kd (e7 p i R r i t:Int) X X
   refine ae (ai (FH (sT X (a6 Y Y)) (FL (aa (ae (aD Y (aw (aa (ae ?_)))))))))
   refine au (ae (ai (FI Y (FH (aq Y Y X) (FH (bg 1 Y Y X) (FJ Y (FJ Y (FL (aa ?_)))))))))
   refine ai (FI Y (FI Y (FI Y (FH (c6 Y X X) ?_))))
   refine FH (am (ho) Y ⟨S,FM⟩) ?_
   refine FH (aq Y Y X) ?_
   (refine az 0 Y Y Y ?_ Y ?_;omega)
   refine FL (aF (aa (ai (FH (bC _ 1 Y Y X) (FI Y (FL ?_))))))
   refine aK (t+1) X X FD (.keep (pS (G:=fun q=>aO (e7 p i R r i q:Int))) (.keep FG (.nil)))
  ·refine ae (ai (FH (sF X (a6 Y Y)) (FL (aa (ae (aA Y (aV (av (av ?_)))))))))
   refine aE (aa (ae (ai (FI Y (FJ Y (FL (aa (aG ?_))))))))
   refine io (dV.refl _) (.keep (a7 (ψ:=fun q=>aO (e7 p i R r i q:Int)) (fun q hq=>by rw [if_pos X])) (SubM.refl _)) ?_
   refine bZ (t:=6) (i:=0) Y Y ?_
   refine aT Tryz.results93 (.tmp Y S)
theorem ys (d:Int) (p:Nat) (hd:bE d) (hp:bf cJ 2147483648=p) (hp0:0<p) (hp':p<2147483648) (h:d % (p:Int)≠0):Ok Tryz.prog 56 [aO d] (one (.int .u64 (p:Nat))):=by
 have hb:=nD 2147483648 U
 rw [hp] at hb
 have hr:=iF p d hp0 X hd
 have hz:(d % (p:Int)).toNat≠0:=by
  have:=Int.emod_nonneg d (show (p:Int)≠0 by omega)
  omega
 generalize (d % (p:Int)).toNat=k at *
 refine Ok.enter Tryz.func56 Y Tryz.ntmps56 Y (fun w O => ?_)
 refine ae (ai ?_)
 refine gF Y Y (ltN Y) (fun b1 => ?_)
 refine FJ Y (FL (aa (iR (ae (ai ?_)))))
 refine FH (am (hb) Y ⟨S,FM⟩) ?_
 refine FJ Y (FL (aa (ae (kP (aa (ae (ae (ai (FI Y ?_)))))))))
 refine FH (ak 0 Y Y Y) ?_
 refine FH (am (hr) Y ⟨S,S,FM⟩) ?_
 refine FH (sF X (bV Y Y)) (FI Y (sn0 Y Y Y Y Y (sn0 Y Y Y Y Y (FH (bG Y Y) (FL (aa (aA Y (aw (aa ?_)))))))))
 refine ae (ai (FI Y (FJ Y (FL (aa (aG (eA ?_)))))))
 refine aT Tryz.results56 (.tmp Y S)
end Tor
end
section
namespace Tor
open Go Go.RowKit Go.Proofs
theorem dF (l:List Int) (n:Nat):(dig l n).natAbs≤9:=by
 unfold dig;rw [Int.natAbs_tmod]
 show (l.getD n 0).natAbs % 10≤9
 omega
theorem pT {B:Nat} {f:Nat→Int} (h : ∀ k,(f k).natAbs≤B) : ∀ n,(bD n f).natAbs≤n*B
 | 0 => Nat.zero_le _
 | n + 1 => by
  have h1:=pT h n
  have h2:=h n
  rw [lc,Nat.succ_mul]
  omega
theorem yt (r c:Nat) (l:List Int):Ok Tryz.prog 10 [jR r c l] (bO (r % 5) (c % 5) (fun i j=>dig l (i*(c % 5)+j))):=(ym r c l).ok fun s=>pG _ s
attribute [local irreducible] J PJ aM one slT bW bH bj exT cn eP aX aH slV VT.le Ret bP xO
attribute [local irreducible] aO bw
theorem vJ (r c:Nat) (l:List Int):Ok Tryz.prog 9 [jR r c l] (bO (r % 5) (r % 5) (fun i j=>dig l (i*(r % 5)+j))):=by
 have h:=pH (r % 5) (r % 5) l X X
 have h5:=AJ r
 have hr:r % 5<5:=Nat.mod_lt _ U
 unfold jR bO at *
 refine Ok.enter Tryz.func9 Y Tryz.ntmps9 Y (fun w O => ?_)
 refine ae (ai ?_)
 refine aQ Y Y (ltN Y) (fun b1 => ?_)
 refine bF (T:=30) Y Y Y (fun b2 => ?_)
 refine FL (aa (ae (ai (FH (aj Y) (FH (ak 1 Y Y Y) (FH (eE 5 Y Y Y U) (FH (c6 Y X X) (FH (aj Y) (FH (ak 1 Y Y Y) ?_)))))))))
 refine FH (eE 5 Y Y Y U) (FH (c6 Y X X) (FH (aj Y) (FH (ak 1 Y Y Y) ?_)))
 refine FH (am (h) Y ⟨S,S,S,FM⟩) ?_
 refine a8 0 Y Y Y Y (FL (aa (aG ?_)))
 refine aT Tryz.results9 (.cellW 0 Y Y S)
end Tor
end
section
namespace Tor
open Go Go.RowKit Go.Proofs
theorem CH (n m:Nat) (f:Nat→Nat→Int):bD n (fun i=>bD m (fun j=>f i j))=bD m (fun j=>bD n (fun i=>f i j)):=by
 induction n with
 | zero => exact ((dO (n := m) (f := fun _ => (0 : Int)) (g := fun _ => (0 : Int) * 0) (fun _ _ => rfl)).trans ((dS m 0 _).trans (Int.zero_mul _))).symm
 | succ n ih => rw [bD, ih, ← g7]; rfl
abbrev dgs (p n:Nat) (R:Nat→Nat→Nat) (r:Nat→Int):Nat→Int:=fun j=>(e7 p n R r n j:Int)
def stR (p n:Nat) (F:Nat→Nat→Int) (R:Nat→Nat→Nat) (b:Nat→Int):Nat→Nat→Int
 | 0 => b
 | k + 1 => fun i => (stR p n F R b k i - bD n (fun t => dgs p n R (stR p n F R b k) t * F t i)) / (p : Int)
theorem q8 {p n:Nat} {R:Nat→Nat→Nat} {r:Nat→Int} (hp:0<p) : ∀ m j,(p:Int)∣(e7 p n R r m j:Int) - bD m (fun i=>r i*(R i j:Int))
 | 0, j => ⟨0, by simp [e7, bD]⟩
 | m + 1, j => by
  have h1:=q8 (n:=n) (R:=R) (r:=r) hp m j
  have h2:(p:Int)∣(e7 p n R r (m+1) j:Int) - ((e7 p n R r m j:Int)+(((r m % (p:Int)).toNat*R m j % p:Nat):Int)):=by
   have:=er (e7 p n R r m j+(r m % (p:Int)).toNat*R m j % p) p
   rwa [Int.natCast_add] at this
  have h3:=er ((r m % (p:Int)).toNat*R m j) p
  have h4:(p:Int)∣(((r m % (p:Int)).toNat*R m j:Nat):Int) - r m*(R m j:Int):=by
   rw [Int.natCast_mul,Int.toNat_of_nonneg (Int.emod_nonneg _ X)]
   refine dh _ ⟨-(r m / (p:Int)),?_⟩
   have:=Int.mul_ediv_add_emod (r m) (p:Int)
   rw [Int.mul_neg]; omega
  obtain ⟨a,ha⟩:=h1
  obtain ⟨c,hc⟩:=h2
  obtain ⟨d,hd⟩:=fY h3 h4
  refine ⟨a+c+d,?_⟩
  rw [bD,Int.mul_add,Int.mul_add]
  omega
theorem yu {p n:Nat} {F:Nat→Nat→Int} {R:Nat→Nat→Nat} {r:Nat→Int} (hp:0<p) (hR:sr p n F R) {i:Nat} (hi:i<n):(p:Int)∣r i - bD n (fun t=>dgs p n R r t*F t i):=by
 have h1:(p:Int)∣bD n (fun t=>dgs p n R r t*F t i) - bD n (fun t=>bD n (fun k=>r k*(R k t:Int))*F t i):=gJ fun t _=>dh _ (q8 hp n t)
 have h2:bD n (fun t=>bD n (fun k=>r k*(R k t:Int))*F t i)=bD n (fun k=>r k*bD n (fun t=>(R k t:Int)*F t i)):=by
  have e1:(fun t=>bD n (fun k=>r k*(R k t:Int))*F t i)=fun t=>bD n (fun k=>r k*((R k t:Int)*F t i)):=by
   funext t
   rw [Int.mul_comm, ← dS]
   exact congrArg (bD n) (funext fun k=>by rw [Int.mul_comm (F t i),Int.mul_assoc])
  have e2:(fun k=>r k*bD n (fun t=>(R k t:Int)*F t i))=fun k=>bD n (fun t=>r k*((R k t:Int)*F t i)):=by
   funext k
   rw [dS]
  rw [e1,e2]
  exact CH n n _
 have h3:(p:Int)∣bD n (fun k=>r k*bD n (fun t=>(R k t:Int)*F t i)) - bD n (fun k=>r k*(if k=i then 1 else 0)):=gJ fun k hk=>by
  have:=dh (r k) (hR.2 k i hk hi)
  rwa [Int.mul_comm _ (r k),Int.mul_comm _ (r k)] at this
 have h4:bD n (fun k=>r k*(if k=i then (1:Int) else 0))=r i:=by
  rw [iH hi fun k _ hne=>by rw [if_neg hne,Int.mul_zero],if_pos Y,Int.mul_one]
 rw [h4] at h3
 rw [h2] at h1
 exact gw (fY h1 h3)
theorem ue {p n:Nat} {F:Nat→Nat→Int} {R:Nat→Nat→Nat} {b:Nat→Int} (hp:0<p) (hR:sr p n F R) (k:Nat) {i:Nat} (hi:i<n) :
  stR p n F R b k i=bD n (fun t=>dgs p n R (stR p n F R b k) t*F t i)+(p:Int)*stR p n F R b (k+1) i:=by
 have h:=Int.mul_ediv_cancel' (yu (r:=stR p n F R b k) hp hR hi)
 show _=_+(p:Int)*((stR p n F R b k i - bD n (fun t=>dgs p n R (stR p n F R b k) t*F t i)) / (p:Int))
 rw [h]; omega
theorem AX {p n:Nat} {F:Nat→Nat→Int} {R:Nat→Nat→Nat} {b:Nat→Int} (hp:2≤p) (hn:n≤16) (hF : ∀ i j,(F i j).natAbs≤1099511627776) (hb : ∀ i,(b i).natAbs≤1152921504606846976) : ∀ k i,(stR p n F R b k i).natAbs≤2305843009213693952
 | 0, i => Nat.le_trans (hb i) U
 | k + 1, i => by
  have h1:=AX (R:=R) hp hn hF hb k i
  have h2:=pT (B:=p*1099511627776) (f:=fun t=>dgs p n R (stR p n F R b k) t*F t i) (fun t=>by
   rw [Int.natAbs_mul]
   have h3:e7 p n R (stR p n F R b k) n t<p:=jS hp n t
   exact Nat.mul_le_mul (by show (e7 p n R (stR p n F R b k) n t:Int).natAbs≤p;omega) (hF t i)) n
  replace h2:=Nat.le_trans h2 (Nat.mul_le_mul_right (p*1099511627776) hn)
  show ((stR p n F R b k i - bD n (fun t=>dgs p n R (stR p n F R b k) t*F t i)) / (p:Int)).natAbs≤_
  generalize bD n (fun t=>dgs p n R (stR p n F R b k) t*F t i)=s at *
  generalize stR p n F R b k i=r at *
  have h4:=Int.mul_ediv_add_emod (r - s) (p:Int)
  have h5:=Int.emod_nonneg (r - s) (show (p:Int)≠0 by omega)
  have h6:=Int.emod_lt_of_pos (r - s) (show 0<(p:Int) by omega)
  generalize (r - s) / (p:Int)=q at *
  generalize (r - s) % (p:Int)=m at *
  by_cases hq:0≤q - 17592186044416
  ·have h7:2*(q - 17592186044416)≤(p:Int)*(q - 17592186044416):=Int.mul_le_mul_of_nonneg_right X hq
   rw [Int.mul_sub (p:Int)] at h7
   omega
  ·by_cases hq2:0 ≤ -(q+17592186044417)
   ·have h7:2*(-(q+17592186044417))≤(p:Int)*(-(q+17592186044417)):=Int.mul_le_mul_of_nonneg_right X hq2
    rw [Int.mul_neg (p:Int),Int.mul_add (p:Int)] at h7
    omega
   ·omega
def gQ (p n:Nat) (F:Nat→Nat→Int) (b:Nat→Int) (pre:List (Nat→Int)):Prop := ∃ R,sr p n F R∧pre=(List.range pre.length).map fun k=>dgs p n R (stR p n F R b k)
def smL (p:Nat) (pre:List (Nat→Int)) (j:Nat):Int:=bD pre.length (fun i=>(p:Int)^i*pre.getD i (fun _=>0) j)
theorem CI {p j:Nat} : smL p [] j=0:=rfl
theorem pU {p:Nat} {pre:List (Nat→Int)} {x:Nat→Int} {j:Nat} : smL p (pre ++ [x]) j=smL p pre j+(p:Int)^pre.length*x j:=by
 unfold smL
 rw [List.length_append,show pre.length + [x].length=pre.length+1 from rfl,bD]
 congr 1
 ·exact dO fun i hi=>by rw [List.getD_eq_getElem?_getD,List.getElem?_append_left hi, ← List.getD_eq_getElem?_getD]
 ·rw [List.getD_eq_getElem?_getD,List.getElem?_append_right (Nat.le_refl _),Nat.sub_self]; rfl
theorem gQ.snoc {p n:Nat} {F:Nat→Nat→Int} {b:Nat→Int} {R:Nat→Nat→Nat} (hR:sr p n F R) (k:Nat):gQ p n F b ((List.range k).map fun k=>dgs p n R (stR p n F R b k)):=⟨R,hR,by rw [List.length_map,List.length_range]⟩
theorem gy {α:Type} {f:Nat→α} {k:Nat} : (List.range k).map f ++ [f k]=(List.range (k+1)).map f:=by rw [List.range_succ,List.map_append]; rfl
theorem gQ.last {p n:Nat} {F:Nat→Nat→Int} {b:Nat→Int} {pre:List (Nat→Int)} {x:Nat→Int} (hp:2≤p) (h:gQ p n F b (pre ++ [x])) : ∀ j,0≤x j∧x j<p:=by
 obtain ⟨R,hR,he⟩:=h
 rw [List.length_append,show pre.length + [x].length=pre.length+1 from rfl, ← gy] at he
 have:=List.append_inj_right' he Y
 cases this
 intro j
 have h3:e7 p n R (stR p n F R b pre.length) n j<p:=jS hp n j
 exact ⟨by show 0≤(e7 p n R (stR p n F R b pre.length) n j:Int);omega,by show (e7 p n R (stR p n F R b pre.length) n j:Int)<p;omega⟩
theorem gQ.sum {p n:Nat} {F:Nat→Nat→Int} {b:Nat→Int} {pre:List (Nat→Int)} (hp:0<p) (h:gQ p n F b pre) : ∀ i,i<n→((p:Int)^pre.length)∣b i - bD n (fun t=>smL p pre t*F t i):=by
 obtain ⟨R,hR,he⟩:=h
 generalize pre.length=k at *
 subst he
 intro i hi
 refine ⟨stR p n F R b k i,?_⟩
 induction k with
 | zero => rw [dO (g := fun _ => (0 : Int) * 0) (fun t _ => by rw [List.range_zero, List.map_nil, CI, Int.zero_mul, Int.zero_mul]), dS]; simp [stR]
 | succ k ih =>
  rw [← gy]
  have e:(fun t=>smL p ((List.range k).map (fun k=>dgs p n R (stR p n F R b k)) ++ [dgs p n R (stR p n F R b k)]) t*F t i)=fun t=>smL p ((List.range k).map fun k=>dgs p n R (stR p n F R b k)) t*F t i+(p:Int)^k*(dgs p n R (stR p n F R b k) t*F t i):=by
   funext t
   rw [pU,Int.add_mul,List.length_map,List.length_range,Int.mul_assoc]
  rw [e,g7,dS, ← Int.sub_sub,ih,ue hp hR k hi,Int.pow_succ,Int.mul_add,Int.mul_assoc]
  omega
end Tor
end
section
set_option linter.unusedSectionVars false
namespace Tor
open Go Go.RowKit
structure KeepZ (Fy:List Nat) (W:World) (Z':List Nat) (W':World):Prop where
 os:W'.os=W.os
 tape:W'.tape=W.tape
 output:W'.output=W.output
 size:W.heap.size≤W'.heap.size
 block : ∀ b,b<W.heap.size→b ∉ Fy→W'.heap[b]? = W.heap[b]?
 own : ∀ b∈Z',b<W'.heap.size∧(b∈Fy∨W.heap.size≤b)
section
variable {P:Program} {E:Env} {D:List Deferred} {Γ:Ctx} {M:Mem} {Q:Exit→Act→World→Prop} {α σ:Type}
def ss (P:Program) (l:Nat) (Ψ:α→VT) (Good:List α→Prop) (J:List α × List Nat→World→Prop) (Jx:List α→World→Prop):Prop :=
 ∀ pre x v Fy W,J (pre,Fy) W→Good (pre ++ [x])→(Ψ x).p v (hid Fy (cx W))→YieldAt Fence.wide 7 P l #[v] W fun e W'=>(e = .returned (.bool true) ∧ ∃ Z',J (pre ++ [x],Z') W'∧KeepZ Fy W Z' W')∨(e = .returned (.bool false)∧Jx (pre ++ [x]) W')
def OkZ (P:Program) (gf:FuncId) (cs:List VT) (Ψ:α→VT) (Good:List α→Prop) (N:Nat):Prop :=
 ∀ (w:World) (O:List Nat) (ca:List Value),fH cs ca (hid O (cx w)) →
 ∀ (l:Nat) (J:List α × List Nat→World→Prop) (Jx:List α→World→Prop) (Fy:List Nat) (W:World),Ext w W→(∀ b∈Fy,b<W.heap.size∧(b∈O∨w.heap.size≤b))→AbidesFrom W.heap.size J→AbidesFrom W.heap.size Jx →
  (∀ s W1,J s W1→s.1.length<N)→ss P l Ψ Good J Jx→J ([],Fy) W →
  CallsIn Fence.wide 8 P gf (#[.func (.yield l) #[] #[]] ++ ca.toArray) W fun e W'=>(∃ v,e = .returned v) ∧ ∃ pre,Jx pre W'
def Fd (I:List α→List Nat→World→Prop) (Ix:Code→List α→World→Prop) (xs:List α) (Fy:List Nat) (W:World):Exit→Act→World→Prop
 | .normal, _, W' => KeepsOthers W W' ∧ ∃ Z', KeepZ Fy W Z' W' ∧ I xs Z' W'
 | .ret, _, W' => KeepsOthers W W' ∧ Ix .ret xs W'
 | .exit id, _, W' => KeepsOthers W W' ∧ Ix (.exit id) xs W'
 | _, _, _ => False
theorem Ex {g:Operand} {ps:Array Tmp} {assign body:Code} {a:Act} {w:World} {gf:Nat} {ca:List Value} (hg:a.eval g = .func (.func gf) #[] ca.toArray) (eg : ∀ args w,(callFunc gf args).run P w = .ok (.enter gf args) w)
  {Ψ:α→VT} {Good:List α→Prop} {N:Nat} {cs:List VT} {O:List Nat} (hseq:OkZ P gf cs Ψ Good N) (hca:fH cs ca (hid O (cx w))) (hps:ps.size=1)
  (I:List α→List Nat→World→Prop) (Ix:Code→List α→World→Prop) (hI : ∀ Fy,OwnFrom w.heap.size (fun pre=>I pre Fy)) (hIx : ∀ c,OwnFrom w.heap.size (Ix c)) (hN : ∀ pre Fy W,I pre Fy W→pre.length<N)
  (hZ : ∀ b∈O,b<w.heap.size) (h0:I [] O w) (a1:Value→Act)
  (hassign : ∀ (l:Nat) (x:Value) (W:World) (K:Act→World→Prop),K (a1 x) W→assign.wpIn (Fence.wide.inRound l) 7 P (Exit.then K (fun _ _ _=>False)) { tmps:=(ps.zip #[x]).foldl (fun t (p,v)=>t.setIfInBounds p v) a.tmps,defers := [] } W)
  (hbody : ∀ (l:Nat) (pre:List α) (x:α) (v:Value) (Fy:List Nat) (W:World),I pre Fy W→Good (pre ++ [x])→(Ψ x).p v (hid Fy (cx W))→body.wpIn (Fence.wide.inRound l) 7 P (Fd I Ix (pre ++ [x]) Fy W) (a1 v) W)
  (hstop : ∀ (D:Nat) (c:Code) (pre:List α) (W:World),w.heap.size≤D→Ix c pre W→W.heap[D]? = some (.deferred (some []))→c.wpIn Fence.wide 9 P Q { a with defers := { target := .collected D,args := #[] } :: a.defers } W) :
  (Code.rangeFunc g ps assign body).wpIn Fence.wide 9 P Q a w:=by
 refine wpIn_rangeFunc fun fn hfn => ?_
 let B:=w.heap.size
 let rec0:LoopState→Option Code→Loop:=fun st pe => { state:=st,pending:=pe,fn,tmps:=a.tmps,params:=ps,assign,body,defers:=B }
 let cl:LoopState→Option Code→World→Prop:=fun st pe W=>W.heap[B+1]? = some (.loop (rec0 st pe))∧W.heap[B]? = some (.deferred (some []))
 let W1:=(w.alloc (.deferred (some []))).alloc (.loop (rec0 .ready none))
 have c1:cl .ready none W1 :=
  ⟨by have:=World.alloc_heap_new (w.alloc (.deferred (some []))) (.loop (rec0 .ready none));rwa [World.size_alloc] at this,(Below.heap_alloc _ _ _ (by simp [B])).trans (World.alloc_heap_new w _)⟩
 have hs1:W1.heap.size=B+2:=by show ((w.alloc _).alloc _).heap.size=_;rw [World.size_alloc,World.size_alloc]
 have hb1:Ext w W1:=⟨rfl,rfl,rfl,by rw [hs1]; exact Nat.le_add_right B 2,fun k hk=>(Below.heap_alloc _ _ _ (by rw [World.size_alloc]; omega)).trans (Below.heap_alloc _ _ _ hk)⟩
 have keepL : ∀ {st pe} {W W':World} {row:Option Nat},cl st pe W→W.grownBy W' row→(∀ r,row=some r → ∃ o:Obj,W.heap[r]? = some o∧o.isCells=false∧o.isWalk=true)→cl st pe W':=fun hc hg hr =>
  ⟨(grownBy_keeps hg (fun r e=>let ⟨o,h1,_,h3⟩:=hr r e;⟨o,h1,h3⟩) hc.1 Y).trans hc.1,(grownBy_keeps hg (fun r e=>let ⟨o,h1,_,h3⟩:=hr r e;⟨o,h1,h3⟩) hc.2 Y).trans hc.2⟩
 have rows : ∀ {W:World} {row:Option Nat},(∀ r,row=some r→W1.heap.size≤r ∧ ∃ o:Obj,W.heap[r]? = some o∧o.isWalk=true) →
   (∀ r,row=some r→w.heap.size≤r ∧ ∃ o:Obj,W.heap[r]? = some o∧o.isCells=false)∧(∀ r,row=some r → ∃ o:Obj,W.heap[r]? = some o∧o.isCells=false∧o.isWalk=true):=fun hr =>
  ⟨fun r e=>let ⟨h1,o,h2,h3⟩:=hr r e;⟨by rw [hs1] at h1;show B≤r;omega,o,h2,Obj.not_cells_of_walk h3⟩,fun r e=>let ⟨_,o,h2,h3⟩:=hr r e;⟨o,h2,Obj.not_cells_of_walk h3,h3⟩⟩
 refine ⟨B+1, [{ target := .collected B,args := #[] }],W1, { target := .fn (.func gf) ca.toArray,args := #[.func (.yield (B+1)) #[] #[]] },W1,gf, #[.func (.yield (B+1)) #[] #[]] ++ ca.toArray,W1,
  run_enterLoop_outer _ _ _ _ _,by simp only [resolve,hg]; simp [go_sem],fun f' hf'=>trivial,by simp [invoke,go_sem,eg],fun _=>by omega,?_⟩
 refine (hseq w O ca hca (B+1) (fun s W => ∃ Zc,s.2=(B+1) :: B :: Zc∧I s.1 Zc W∧cl .ready none W) (fun pre W => ∃ c,Ix c pre W∧cl .done (some c) W) ((B+1) :: B :: O) W1 hb1 (fun b hb => ?_)
  (fun s A A' row hs hg' hr=>let ⟨Zc,e,h1,h2⟩:=hs;⟨Zc,e,hI Zc s.1 A A' row h1 hg' (rows hr).1,keepL h2 hg' (rows hr).2⟩) (fun s A A' row hs hg' hr=>let ⟨c,h1,h2⟩:=hs;⟨c,hIx c s A A' row h1 hg' (rows hr).1,keepL h2 hg' (rows hr).2⟩)
  (fun s W hs=>let ⟨Zc,_,h1,_⟩:=hs;hN s.1 Zc W h1) ?_ ⟨O,rfl,(hI O).alloc _ ((hI O).alloc _ h0),c1⟩).mono ?_
 ·rw [hs1]
  rcases List.mem_cons.1 hb with rfl | hb
  ·exact ⟨by omega, .inr (by show B≤B+1;omega)⟩
  ·rcases List.mem_cons.1 hb with rfl | hb
   ·exact ⟨by omega, .inr (Nat.le_refl _)⟩
   ·have:=hZ b hb
    exact ⟨by show b<w.heap.size+2;omega, .inl hb⟩
 ·rintro pre x v Fy W ⟨Zc,rfl,hi,hl,hk⟩ hgo hx
  dsimp only at hi
  have hlt:B+1<W.heap.size:=(Array.getElem?_eq_some_iff.1 hl).1
  refine ⟨fn,_,assign,body,run_yield (P:=P) (args := #[v]) hl hps.symm,roundIn_of_wpIn hfn (hassign _ v W _ ⟨_,run_beginRound hl Y,?_⟩)⟩
  have hl2:(W.putObj (B+1) (.loop { rec0 .ready none with state := .busy })).heap[B+1]? = some (.loop { rec0 .ready none with state := .busy }):=World.putObj_heap_same hlt
  have hk2:(W.putObj (B+1) (.loop { rec0 .ready none with state := .busy })).heap[B]? = some (.deferred (some [])):=(World.putObj_heap_other X).trans hk
  have hx2:(Ψ x).p v (hid Zc (cx (W.putObj (B+1) (.loop { rec0 .ready none with state := .busy })))):=(Ψ x).mono (fun b y e=>by
   obtain ⟨h1,h2⟩:=dx e
   refine e9 (fun h=>h1 (List.mem_cons_of_mem _ (List.mem_cons_of_mem _ h))) ?_
   rw [fm (World.putObj_heap_other (fun e=>h1 (by rw [e]; exact List.mem_cons_self)))]
   exact h2) hx
  refine wpIn_mono (hbody _ pre x v Zc _ ((hI Zc).putObj _ hi X hl Y) hgo hx2) ?_
  have fin : ∀ (jump:Option Code) (W3:World),KeepsOthers (W.putObj (B+1) (.loop { rec0 .ready none with state := .busy })) W3 →
    (Instr.endRound (B+1) jump).run P W3 = .ok (.bool jump.isNone) (W3.putObj (B+1) (.loop (rec0 (if jump.isNone then .ready else .done) jump))) ∧
    W3.heap[B+1]? = some (.loop { rec0 .ready none with state := .busy })∧cl (if jump.isNone then .ready else .done) jump (W3.putObj (B+1) (.loop (rec0 (if jump.isNone then .ready else .done) jump))):=fun jump W3 hk3=>by
   have hl3:=hk3.same _ _ hl2 Y
   exact ⟨run_endRound (P:=P) jump hl3,hl3,World.putObj_heap_same (Array.getElem?_eq_some_iff.1 hl3).1,(World.putObj_heap_other X).trans (hk3.same _ _ hk2 Y)⟩
  have leave : ∀ (c:Code) (W3:World),KeepsOthers (W.putObj (B+1) (.loop { rec0 .ready none with state := .busy })) W3→Ix c (pre ++ [x]) W3 → ∃ v W4,(Instr.endRound (B+1) (some c)).run P W3 = .ok v W4 ∧
    ((Ending.returned v = .returned (.bool true) ∧ ∃ Z',(∃ Zc,Z'=(B+1) :: B :: Zc∧I (pre ++ [x]) Zc W4∧cl .ready none W4)∧KeepZ ((B+1) :: B :: Zc) W Z' W4)∨(Ending.returned v = .returned (.bool false) ∧ ∃ c,Ix c (pre ++ [x]) W4∧cl .done (some c) W4)):=fun c W3 hk3 hi3=>by
   obtain ⟨hr,hl3,hc4⟩:=fin (some c) W3 hk3
   exact ⟨_,_,hr, .inr ⟨rfl,c,(hIx _).putObj _ hi3 X hl3 Y,hc4⟩⟩
  rintro e a3 W3 hp
  cases e with
  | normal =>
   obtain ⟨hk3,Z',kz,hi3⟩:=hp
   obtain ⟨hr,hl3,hc4⟩:=fin none W3 hk3
   refine ⟨_,_,hr, .inl ⟨rfl,(B+1) :: B :: Z',⟨Z',rfl,(hI Z').putObj _ hi3 X hl3 Y,hc4⟩,kz.os,kz.tape,kz.output,?_,fun b hb hn => ?_,fun b hb => ?_⟩⟩
   ·have:=kz.size;simp only [World.putObj_size] at this ⊢; exact this
   ·have h1:b≠B+1:=fun e=>hn (by rw [e]; exact List.mem_cons_self)
    exact (World.putObj_heap_other h1).trans ((kz.block b (by rw [World.putObj_size]; exact hb) fun h=>hn (List.mem_cons_of_mem _ (List.mem_cons_of_mem _ h))).trans (World.putObj_heap_other h1))
   ·have hlt3:=(Array.getElem?_eq_some_iff.1 hl3).1
    rw [World.putObj_size]
    rcases List.mem_cons.1 hb with rfl | hb
    ·exact ⟨hlt3, .inl List.mem_cons_self⟩
    ·rcases List.mem_cons.1 hb with rfl | hb
     ·exact ⟨by omega, .inl (List.mem_cons_of_mem _ List.mem_cons_self)⟩
     ·obtain ⟨h1,h2⟩:=kz.own b hb
      rw [World.putObj_size] at h2
      exact ⟨h1,h2.imp (fun h=>List.mem_cons_of_mem _ (List.mem_cons_of_mem _ h)) id⟩
  | ret => exact leave .ret W3 hp.1 hp.2
  | exit id => exact leave (.exit id) W3 hp.1 hp.2
  | goto t => exact hp.elim
  | panic ch => exact hp.elim
  | outgrown => exact hp.elim
 ·rintro e W2 ⟨⟨v,rfl⟩,pre,c,hi,hl,hk⟩
  exact ⟨some c,_,run_endLoop (P:=P) hl (by simp [rec0]),hstop _ c pre _ (Nat.le_refl _) ((hIx c).putObj _ hi X hl Y) ((World.putObj_heap_other X).trans hk)⟩
theorem uf {g:Operand} {p q id:Nat} {T:TypeId} {pos:String} {body:Code} {gf:FuncId} {cs:List VT} {Ψ:α→VT} {Good:List α→Prop} {N:Nat} [hF:Fn P gf]
  (hit:OkZ P gf cs Ψ Good N) (Ms:σ→Mem) [hc : ∀ s,CellM (Ms s)] (ok:List α→σ→Prop) (okx:Option Nat→List α→σ→Prop) (s0:σ) (hE:E.R=none) (hg:aP Γ g=some (jI gf cs)) (hN : ∀ pre s,ok pre s→pre.length<N) (h0:ok [] s0) (hm:SubM M (Ms s0))
  (hp:Nat.ble (p+1) E.N=true) (hq:Nat.ble (q+1) E.N=true) (hnd:gD body=true)
  (hround : ∀ (l:Nat) (W:World) (pre:List α) (x:α) (s:σ),ok pre s→Good (pre ++ [x]) →
   J P ⟨W,E.O,aZ (Ms s),E.N,some l⟩ [] ((q, Ψ x) :: (p, Ψ x) :: Γ) (Ms s) body (td ⟨W,E.O,aZ (Ms s),E.N,some l⟩ Ms ok okx (pre ++ [x])))
  (hret : ∀ (pre:List α) (s:σ) (b:Nat),okx none pre s→PJ E [oe b] Γ (dfO b :: Ms s) .ret Q)
  (hexit : ∀ (id:Nat) (pre:List α) (s:σ) (b:Nat),okx (some id) pre s→PJ E [oe b] Γ (dfO b :: Ms s) (.exit id) Q) :
  J P E [] Γ M (.rangeFunc g #[p] (.region id #[⟨some q, .assign (.tmp p),T,pos, #[],none⟩] false) body) Q:=by
 intro a w hS _
 rw [hE]
 show Code.wpIn Fence.wide 9 P _ Q a w
 obtain ⟨ca,hg0,hca⟩:=cL hS hg
 have hp:=Nat.le_of_ble_eq_true hp
 have hq:=Nat.le_of_ble_eq_true hq
 let E1:Env:=⟨w,E.O,aZ M,E.N,none⟩
 have hS0:St E1 [] Γ M a w:=⟨⟨hS.base.mem,hS.base.nd,hS.base.dis,fun b hb => .inr hb,hS.base.ex,Fr.refl _ _⟩,hS.sz,hS.df,hS.tm⟩
 have own : ∀ (s:σ) (W W':World) (row:Option Nat),St E1 [] Γ (Ms s) a W→W.grownBy W' row→(∀ r,row=some r→w.heap.size≤r ∧ ∃ o:Obj,W.heap[r]? = some o∧o.isCells=false)→St E1 [] Γ (Ms s) a W':=fun s W W' row hs hgr hr=>St.grown (hc s) hs hgr (Nat.le_refl _) hr
 have fin : ∀ (s:σ) (b:Nat) (W:World),w.heap.size≤b→W.heap[b]? = some (.deferred (some []))→St E1 [] Γ (Ms s) a W→St E [oe b] Γ (dfO b :: Ms s) { a with defers:=oe b :: a.defers } W:=fun s b W hb hh hs =>
  St.mark (hc s) (hs.from_ hS.base) (Nat.le_trans hS.base.fr.size hb) (fun h=>by have:=hS.base.ex b (List.mem_append.2 (.inl h));omega) hh
 have hS1:St E1 [] Γ (Ms s0) a w:=hS0.sub (dV.refl _) hm
 refine Ex (O:=E.O ++ aZ M) hg0 (fun args w=>hF.run args w) hit hca Y
  (fun pre Fy W => ∃ s,(∀ b∈E.O ++ aZ (Ms s),b∈Fy)∧ok pre s∧St E1 [] Γ (Ms s) a W)
  (fun c pre W=>match c with
   | .ret => ∃ s, okx none pre s ∧ St E1 [] Γ (Ms s) a W
   | .exit id => ∃ s, okx (some id) pre s ∧ St E1 [] Γ (Ms s) a W
   | _ => False)
  (fun Fy pre W W' row hs hgr hr=>let ⟨s,h0,h1,h2⟩:=hs;⟨s,h0,h1,own s W W' row h2 hgr hr⟩) ?_ (fun pre Fy W hs=>let ⟨s,_,h1,_⟩:=hs;hN pre s h1) hS.base.ex ⟨s0,fun b hb => ?_,h0,hS1⟩
  (fun v=>({ tmps:=a.tmps.setIfInBounds p v,defers := [] } : Act).put (some q) v) ?_ ?_ ?_
 ·rintro c pre W W' row hs hgr hr
  cases c <;> first
   | exact hs.elim
   | (obtain ⟨s, h1, h2⟩ := hs; exact ⟨s, h1, own s W W' row h2 hgr hr⟩)
 ·rcases List.mem_append.1 hb with h | h
  ·exact List.mem_append.2 (.inl h)
  ·exact List.mem_append.2 (.inr ((hS1.base.lo b h).resolve_left fun h3=>by
    have:=hS1.base.ex b (List.mem_append.2 (.inr h))
    have h3:w.heap.size≤b:=h3
    omega))
 ·intro l x W K hK
  refine wpIn_region (F:=fen (some l)) (mb (r:=some l) (.inr (by simp [gL])) (fun ⟨_,_,h⟩=>h) _ _ _ ?_)
  have hv':(a.tmps.setIfInBounds p x).getD p undef=x:=by
   have:=hS.sz
   simp [Array.getD_eq_getD_getElem?,show p<a.tmps.size by omega]
  have e:List.range 1 = [0]:=rfl
  simp [wpOps,e,Oper.wp,Region.wanted,execOp,Act.eval,hv',Oper.upon,Exit.then]
  exact .inl hK
 ·rintro l pre x v Fy W ⟨s,hz,hs,hSs⟩ hgo hx
  have hx:(Ψ x).p v (hid (E.O ++ aZ (Ms s)) (cx W)):=(Ψ x).mono (l9 hz) hx
  have hS1:St ⟨W,E.O,aZ (Ms s),E.N,some l⟩ [] Γ (Ms s) { tmps:=a.tmps,defers := [] } W :=
   ⟨⟨hSs.base.mem,hSs.base.nd,hSs.base.dis,fun b hb => .inr hb,hSs.base.ex,Fr.refl _ _⟩,hSs.sz,rfl,hSs.tm⟩
  have hS2:=(hS1.put (Ext.refl W) (d:=p) hp (ψ:=Ψ x) (v:=v) hx).put (Ext.refl W) (d:=q) hq (ψ:=Ψ x) (v:=v) hx
  refine wpIn_mono (o6 (m:=7) (hround l W pre x s hs hgo _ W hS2 (.inr hnd))) ?_
  have keep : ∀ (s':σ) (a':Act) (W':World),St ⟨W,E.O,aZ (Ms s),E.N,some l⟩ [] [] (Ms s') a' W'→KeepsOthers W W'∧KeepZ Fy W (E.O ++ aZ (Ms s')) W'∧St E1 [] Γ (Ms s') a W':=by
   intro s' a' W' h'
   have hf:=h'.base.fr
   refine ⟨⟨hf.size,fun k o hk ho=>(hf.block k (Array.getElem?_eq_some_iff.1 hk).1 fun hm' => ?_).trans hk⟩,⟨hf.os,hf.tape,hf.output,hf.size,fun b hb hn=>hf.block b hb fun hm'=>hn (hz b (List.mem_append.2 (.inr hm'))),fun b hb=>⟨h'.base.ex b hb,?_⟩⟩,hSs.slots h'⟩
   ·obtain ⟨c,T,f,e⟩:=(hc s).get hSs.base hm'
    rw [hk] at e;cases e;cases ho
   ·rcases List.mem_append.1 hb with h | h
    ·exact .inl (hz b (List.mem_append.2 (.inl h)))
    ·rcases h'.base.lo b h with h3 | h3
     ·exact .inr h3
     ·exact .inl (hz b (List.mem_append.2 (.inr h3)))
  rintro e a' W' hp'
  cases e with
  | normal => obtain ⟨s', h1, h2⟩ := hp'; obtain ⟨k1, k2, k3⟩ := keep s' a' W' h2; exact ⟨k1, _, k2, s', fun b hb => hb, h1, k3⟩
  | ret => obtain ⟨s', h1, h2⟩ := hp'; obtain ⟨k1, k2, k3⟩ := keep s' a' W' h2; exact ⟨k1, s', h1, k3⟩
  | exit id => obtain ⟨s', h1, h2⟩ := hp'; obtain ⟨k1, k2, k3⟩ := keep s' a' W' h2; exact ⟨k1, s', h1, k3⟩
  | goto t => exact hp'.elim
  | panic ch => exact hp'.elim
  | outgrown => exact hp'.elim
 ·rintro b c pre W hb hx hh
  cases c <;> first
   | exact hx.elim
   | (obtain ⟨s, hs, hSs⟩ := hx; exact wpIn_ret (hret pre s b hs _ W (fin s b W hb hh hSs)))
   | (obtain ⟨s, hs, hSs⟩ := hx; exact wpIn_exit (hexit _ pre s b hs _ W (fin s b W hb hh hSs)))
/-! ### The function that yields -/
def RZ (Jx:List α→World→Prop) (e:Ending) (W:World):Prop:=(∃ v,e = .returned v) ∧ ∃ pre,Jx pre W
theorem OkZ.enter {Ψ:α→VT} {Good:List α→Prop} {f:FuncId} {fn:Func} {c:Code} {N Nr:Nat} {cs:List VT} (hf:P.funcs[f]? = some fn) (hb:fn.body=some c) (hN:fn.ntmps=N) (hle:Nat.ble (cs.length+1) N=true)
  (h : ∀ (W:World) (l:Nat) (J:List α × List Nat→World→Prop) (Jx:List α→World→Prop) (B:Nat) (Fy:List Nat),AbidesFrom B J→AbidesFrom B Jx→(∀ s W,J s W→s.1.length<Nr)→ss P l Ψ Good J Jx→J ([],Fy) W →
   Tor.J P ⟨W,Fy, [],N,none⟩ [] ((0,one (.func (.yield l) #[] #[])) :: fJ 1 cs) [] c (bodyPost P fn (RZ Jx))):OkZ P f cs Ψ Good Nr:=by
 intro w O ca hca l J Jx Fy W hW hZ hA hAx hl hY h0
 have hv':fH (one (.func (.yield l) #[] #[]) :: cs) (.func (.yield l) #[] #[] :: ca) (hid Fy (cx W)) :=
  ⟨rfl,jq (fun b x e=>by
   obtain ⟨h1,h2⟩:=dx e
   have:=eV h2
   exact e9 (fun h=>(hZ b h).2.elim h1 (fun h3=>by omega)) (Ext.view hW _ _ h2)) hca⟩
 have hc:=Tor.j9 (R:=RZ Jx) hf hb hN (O:=Fy) (fun b hb=>(hZ b hb).1) hv' (Nat.le_of_ble_eq_true hle) (h W l J Jx _ Fy hA hAx hl hY h0)
 have he:(#[Value.func (.yield l) #[] #[]] ++ ca.toArray)=(Value.func (.yield l) #[] #[] :: ca).toArray:=by simp
 rw [he]
 exact callsIn_wide.2 hc
theorem CJ {ops:Array Oper} {Ψ:α→VT} {Good:List α→Prop} {J:List α × List Nat→World→Prop} {Jx:List α→World→Prop} {l id m d N:Nat} {t x:Operand} {ats:Array TypeId} {ty:TypeId} {pos:String} {af:Array Edge} {pre:List α} {B:Nat} {W:World} {Fy:List Nat} (v:α) (Γk:Ctx)
  (hY:ss P l Ψ Good J Jx) (hA:AbidesFrom B J) (hJ:J (pre,Fy) W) (hgo:Good (pre ++ [v]))
  (hm:ops[m]? = some ⟨some d, .call ⟨.value t, #[x],ats⟩,ty,pos,af,none⟩) (hd:Nat.ble (d+1) N=true)
  (h:Run P ⟨W,Fy, [],N,none⟩ ops false 0 [] Γ [] (ops.toList.take m) (fun D' Γ' M'=>D' = []∧M' = []∧aP Γ' t=some (one (.func (.yield l) #[] #[]))∧aP Γ' x=some (Ψ v)∧dV Γ' Γk))
  (h1 : ∀ W' Z',J (pre ++ [v],Z') W'→Run P ⟨W',Z', [],N,none⟩ ops false (m+1) [] ((d,one (.bool true)) :: Γk) [] (ops.toList.drop (m+1)) (fun D' Γ' M'=>PJ ⟨W',Z', [],N,none⟩ D' Γ' M' .normal Q))
  (h2 : ∀ W',Jx (pre ++ [v]) W'→Run P ⟨W', [], [],N,none⟩ ops false (m+1) [] [(d,one (.bool false))] [] (ops.toList.drop (m+1)) (fun D' Γ' M'=>PJ ⟨W', [], [],N,none⟩ D' Γ' M' .normal Q)) :
  Tor.J P ⟨W,Fy, [],N,none⟩ [] Γ [] (.region id ops false) Q:=by
 intro a w hS _
 have hlt:m<ops.size:=(Array.getElem?_eq_some_iff.1 hm).1
 have hd:=Nat.le_of_ble_eq_true hd
 show Code.wpIn (fen none) 9 P _ Q a w
 refine wpIn_mono (wpIn_region ?_) rq
 have e:List.range ops.size=List.range' 0 (ops.toList.take m).length ++ (m :: List.range' (m+1) (ops.size - (m+1))):=by
  rw [List.range_eq_range',show (ops.toList.take m).length=m by simp;omega, ← List.range'_succ,show ops.size - (m+1)+1=ops.size - m by omega]
  have := @List.range'_append 0 m (ops.size - m) 1
  simp only [Nat.one_mul,Nat.zero_add] at this
  rw [this]; congr 1;omega
 rw [e]
 refine h.seqIn (.inl Y) (nrm Q) _ (fun j hj => ?_) kO (fun D' Γ' M' a w hK hS => ?_) a w hS
 ·have hj':j<m:=by simp at hj;omega
  simp [List.getElem?_take,hj']
 ·obtain ⟨rfl,rfl,ht,hx,hg⟩:=hK
  have e1:a.eval t = .func (.yield l) #[] #[]:=cL hS ht
  have e2:(Ψ v).p (a.eval x) (hid (Fy ++ aZ []) (cx w)):=cL hS hx
  rw [show Fy ++ aZ []=Fy from List.append_nil Fy] at e2
  obtain ⟨fn,tmps,assign,body,hy,hR⟩:=hY pre v _ Fy w (qE hA hJ hS.base.fr.toExt) hgo e2
  have tail : ∀ (E':Env) (b:Bool) (Γ':Ctx) (a':Act) (W':World),E'.N=N→St E' [] ((d,one (.bool b)) :: Γ') [] a' W' →
    Run P E' ops false (m+1) [] ((d,one (.bool b)) :: Γ') [] (ops.toList.drop (m+1)) (fun D' Γ' M'=>PJ E' D' Γ' M' .normal Q) →
    wpOpsIn (fen none) 9 P ops (nrm Q) (List.range' (m+1) (ops.size - (m+1))) a' W':=by
   intro E' b Γ' a' W' hE' hS' hr
   have:=hr.seqIn (n:=9) (.inl Y) (nrm Q) [] (fun j _=>by simp [List.getElem?_drop]) kO (fun D' Γ' M' a w hK hS=>by simpa [wpOpsIn] using hK a w hS) a' W' hS'
   simpa using this
  rw [wpOpsIn_cons]
  unfold wpOpIn
  simp only [hm,cX (o:=⟨some d, .call ⟨.value t, #[x],ats⟩,ty,pos,af,none⟩) Y,if_true]
  refine ⟨fun f _=>rp f,?_⟩
  have hr:(Oper.semAt (fen none).round a.eval ⟨some d, .call ⟨.value t, #[x],ats⟩,ty,pos,af,none⟩).run P w = .ok (.round l fn tmps assign body) w:=by
   rw [m9,Oper.semAt_none]
   simpa [execOp,resolve,Deferred.ofValue,invoke,e1] using hy
  rw [hr]
  refine ⟨fun h=>(by cases h),RoundIn.mono (n:=8) (F:=Fence.wide) ⟨hR.1,fun c cs _=>hR.2 c cs (room_wide _)⟩ ?_⟩
  rintro e W' (⟨rfl,Z',hJ',hk⟩ | ⟨rfl,hJx'⟩)
  ·have hS':St ⟨W',Z', [],N,none⟩ [] Γk [] a W':=by
    refine ⟨⟨fun o ho=>(by cases ho),List.nodup_nil,fun b hb=>(by cases hb),fun b hb=>(by cases hb),fun b hb=>(hk.own b (by simpa using hb)).1,Fr.refl _ _⟩,hS.sz,hS.df,fun t φ ht => ?_⟩
    obtain ⟨φ',h3,h4⟩:=hg t φ ht
    refine φ.mono (fun b y e => ?_) (h4 _ _ (hS.tm t φ' h3))
    obtain ⟨h5,h6⟩:=dx e
    have h7:=eV h6
    have h8:b ∉ Fy:=fun h=>h5 (List.mem_append.2 (.inl h))
    refine e9 (fun h => ?_) (by rw [fm (hk.block b h7 h8)]; exact h6)
    rcases (hk.own b (by simpa using h)).2 with h9 | h9
    ·exact h8 h9
    ·omega
   exact tail _ true _ _ W' Y (hS'.put (Ext.refl _) (d:=d) (show d<N from hd) (ψ:=one (.bool true)) Y) (h1 W' Z' hJ')
  ·have hS':St ⟨W', [], [],N,none⟩ [] [] [] a W' :=
    ⟨⟨fun o ho=>(by cases ho),List.nodup_nil,fun b hb=>(by cases hb),fun b hb=>(by cases hb),fun b hb=>(by cases hb),Fr.refl _ _⟩,hS.sz,hS.df,fun t φ ht=>(by cases ht)⟩
   exact tail _ false _ _ W' Y (hS'.put (Ext.refl _) (d:=d) (show d<N from hd) (ψ:=one (.bool false)) Y) (h2 W' hJx')
theorem AY {fn:Func} {B N:Nat} {W:World} {Fy:List Nat} {Jx:List α→World→Prop} (hr:fn.results = #[]) (hA:AbidesFrom B Jx) {pre:List α} (hJ:Jx pre W):PJ ⟨W,Fy, [],N,none⟩ [] Γ [] .ret (bodyPost P fn (RZ Jx)):=by
 intro a w hSt
 exact ⟨hSt.df, .tuple #[],by simp [results,hr],⟨_,rfl⟩,pre,qE hA hJ hSt.base.fr.toExt⟩
theorem CK {c:Code} {N:Nat} {W0:World} {Z0:List Nat} (Ws:σ→World) (Zs:σ→List Nat) (G:σ→Ctx) (ok:σ→Prop) (μ:σ→Nat) (s0:σ) (hW:Ws s0=W0) (hZ:Zs s0=Z0) (h0:ok s0) (hg:dV Γ (G s0))
  (round : ∀ s,ok s→Tor.J P ⟨Ws s,Zs s, [],N,none⟩ [] (G s) [] c (Exit.then (fun a w => ∃ s',ok s'∧μ s'<μ s∧St ⟨Ws s',Zs s', [],N,none⟩ [] (G s') [] a w) Q)):Tor.J P ⟨W0,Z0, [],N,none⟩ [] Γ [] (.loop c) Q:=by
 subst hW hZ
 intro a w hS hd b k cs hro hb hr
 have key : ∀ n s,ok s→μ s=n → ∀ a w,St ⟨Ws s,Zs s, [],N,none⟩ [] (G s) [] a w →
   ∃ e a' w',Q e a' w'∧ArrivesIn (Machine.fenced P (fen none)) P (lone (b.atR a (.code c :: .inLoop c :: k)) cs w) b k cs e a' w':=by
  intro n
  induction n using Nat.strongRecOn with
  | _ n ih =>
   intro s hs hn a w hS
   obtain ⟨e,a1,w1,hq,harr⟩:=round s hs a w hS (.inl Y) b (.inLoop c :: k) cs hro hb hr
   cases e with
   | normal =>
    obtain ⟨s',hs',hlt,hS'⟩:=hq
    obtain ⟨e2,a2,w2,hq2,harr2⟩:=ih (μ s') (hn▸hlt) s' hs' Y a1 w1 hS'
    exact ⟨e2,a2,w2,hq2, .of_steps (StepsIn.trans harr (.one (fenced_calm hb hr Y) stepR_inLoop)) harr2⟩
   | exit id => exact ⟨_, a1, w1, hq, .pass (x := .inLoop c) Y (fun _ _ => .inl (by simp)) harr⟩
   | goto l => exact ⟨_, a1, w1, hq, .pass (x := .inLoop c) Y (fun _ _ => .inl (by simp)) harr⟩
   | ret => exact ⟨_, a1, w1, hq, .pass (x := .inLoop c) Y (fun _ _ => .inl (by simp)) harr⟩
   | panic ch => exact ⟨_, a1, w1, hq, .pass (x := .inLoop c) Y (fun _ _ => .inl (by simp)) harr⟩
   | outgrown => exact ⟨_, a1, w1, hq, .pass (x := .inLoop c) Y (fun _ _ => .inl (by simp)) harr⟩
 obtain ⟨e,a',w',hq,harr⟩:=key _ s0 h0 Y a w (hS.sub hg (SubM.refl _))
 exact ⟨e,a',w',hq, .of_steps (.one (fenced_calm hb hr Y) stepR_loop) harr⟩
theorem yv {G:σ→Ctx} {ok:σ→Prop} {μ:σ→Nat} {N:Nat} {Ws:σ→World} {Zs:σ→List Nat} {s:σ} (s':σ) (h:ok s') (hμ:μ s'<μ s) (hg:dV Γ (G s')) (hE:E=⟨Ws s',Zs s', [],N,none⟩) :
  PJ E [] Γ [] .normal (Exit.then (fun a w => ∃ s',ok s'∧μ s'<μ s∧St ⟨Ws s',Zs s', [],N,none⟩ [] (G s') [] a w) Q):=fun a w hS=>⟨s',h,hμ,hE▸hS.sub hg (SubM.refl _)⟩
end
end Tor
end
section
namespace Tor
open Go Go.RowKit Go.Proofs
theorem AZ {p n:Nat} {F:Nat→Nat→Int} {R:Nat→Nat→Nat} {r:Nat→Int} (hp2:2≤p) (hp:p<2147483648) (hn:n≤16) (hF : ∀ i j,(F i j).natAbs≤1099511627776) (i:Nat):(bD n (fun t=>dgs p n R r t*F t i)).natAbs≤37778931862957161709568 :=
 Nat.le_trans (pT (B:=2147483648*1099511627776) (fun t=>by
  rw [Int.natAbs_mul]
  have:e7 p n R r n t<p:=jS hp2 n t
  exact Nat.mul_le_mul (by show (e7 p n R r n t:Int).natAbs≤2147483648;omega) (hF t i)) n) (Nat.mul_le_mul_right (2147483648*1099511627776) hn)
theorem Ent.clo3 {Ms:Mem} {f:FuncId} {φ ψ φ' ψ' φ'' ψ'':VT} (h:Ent Ms φ ψ) (h':Ent Ms φ' ψ') (h'':Ent Ms φ'' ψ''):Ent Ms (jI f [φ, φ', φ'']) (jI f [ψ, ψ', ψ'']):=Ent.clo fun g h0 h1 vs ho hc=>by
 match vs,hc with
 | [v, v', v''], hc => exact ⟨h g h0 h1 v ho hc.1, h' g h0 h1 v' ho hc.2.1, h'' g h0 h1 v'' ho hc.2.2.1, trivial⟩
 | [], hc => exact hc.elim
 | [_], hc => exact hc.2.elim
 | [_, _], hc => exact hc.2.2.elim
 | _ :: _ :: _ :: _ :: _, hc => exact hc.2.2.2.elim
theorem rz.same {Ms:Mem} {cs:cy} : rz Ms cs cs:=fun q hq=>⟨q.2.2,hq,Ent.refl _⟩
abbrev DgZ:Type:=Nat × List Nat × World
attribute [local irreducible] J PJ aM one slT bW bH bj exT cn eP aX aH slV VT.le Ret bP
attribute [local irreducible] aO
theorem pV (p n:Nat) (F:Nat→Nat→Int) (b:Nat→Int) (N:Nat) (hpb:cJ p=true) (hp2:2≤p) (hp:p<2147483648) (hinv:vA p) (hF:vB p n F) (hn:n≤16) (hs' : ∀ i j,(F i j).natAbs≤1099511627776) (hb : ∀ i,(b i).natAbs≤1152921504606846976) :
  OkZ Tryz.prog 91 [bW (.agg 3) (bO n n F),bW .one (one (.int .u64 (p:Nat))),bW .one (bw n b)] (bw n) (gQ p n F b) N:=by
 have hiv:=vH p n F hpb hp2 hp hinv hF X (fun i j=>dM (hs' i j) H)
 unfold bO bw at *
 refine OkZ.enter Tryz.func91 Y Tryz.ntmps91 Y (fun W0 l J Jx B Fy hA hAx hN hY h0 => ?_)
 refine ae ?_
 refine eh a4 Z Z ?_
 refine ux (fun B=>aN Y) Y Y ?_
 refine ux (fun B=>aN Y) Y Y ?_
 refine uxk (hiv) Y ⟨S,S,FM⟩ Y ?_
 refine ux (fun B=>aN Y) Y Y ?_
 refine ux (fun B=>c6 Y X X) Y Y ?_
 refine uxk (kd _ X X) Y ⟨S,FM⟩ Y ?_
 refine ua Y ?_
 refine ux (fun B=>ah Y) Y Y ?_
 refine us Y ?_
 refine RunU.nil (fun γ => ?_)
 refine cR (M' := [_]) Y (aa (ae (ai (FH (aN Y) (FJ Y (FL (aa (au ?_))))))))
 refine xt (t:=5) Y (fun R=>qw (t:=5) Y (fun hR => ?_))
 refine DF [_] (Kp := []) (Kp' := []) (List.Perm.refl _) (EntM.refl []) (xw.set (t:=6) Y (Ent.ptr List.mem_cons_self List.mem_cons_self)) ?_
 refine CK (σ:=DgZ) (fun s=>s.2.2) (fun s=>s.2.1)
  (fun s => [(0,one (.func (.yield l) #[] #[])),(1,bW (.agg 3) (bO n n F)),(2,bW .one (one (.int .u64 (p:Nat)))),(5,slT .one n (fun i=>jQ n (R i))),(6,bW (.agg 2) (aO (p:Nat))),(7,bw n (stR p n F R b s.1))])
  (fun s=>J ((List.range s.1).map fun k=>dgs p n R (stR p n F R b k),s.2.1) s.2.2) (fun s=>N - s.1) (0,Fy,W0) Y Y h0 ?_ (fun s hs => ?_)
 ·exact .cons Y S (.cons Y S (.cons Y S (.cons Y S (.cons Y S (.cons Y S .nil)))))
 obtain ⟨k,Fy,W⟩:=s
 dsimp only at hs ⊢
 have hkN:=hN _ _ hs
 rw [List.length_map,List.length_range] at hkN
 have hst:=AX (R:=R) hp2 hn hs' hb k
 have hdg:=vI p n R (stR p n F R b k) hp2 hp hR.1 X (fun i=>dM (hst i) H)
 have htm:Ok Tryz.prog 94 [bw n (dgs p n R (stR p n F R b k)),bO n n F] (bj [bw n (fun j=>bD n (fun t=>dgs p n R (stR p n F R b k) t*F t j)),one (.int .i64 0)]):=by
  have h:=Ar n (dgs p n R (stR p n F R b k)) n n F X X (fun j=>Nat.le_trans (show (e7 p n R (stR p n F R b k) n j:Int).natAbs≤2147483648 by
   have:e7 p n R (stR p n F R b k) n j<p:=jS hp2 n j
   omega) H) (fun i j=>Nat.le_trans (hs' i j) H)
  rw [decide_eq_true Y] at h
  exact h
 have hsl:=fun i=>Nat.le_trans (Nat.le_trans (Int.natAbs_sub_le (stR p n F R b k i) (bD n (fun t=>dgs p n R (stR p n F R b k) t*F t i))) (Nat.add_le_add (hst i) (AZ hp2 hp hn hs' i))) (show 2305843009213693952+37778931862957161709568≤2^100 by decide)
 unfold bw bO at *
 refine au (ae (ai (FI Y (FI Y (FH (aN Y) ?_)))))
 refine FH (am (hdg) Y ⟨S,S,S,FM⟩) ?_
 refine FJ Y (FL (aa (ae (ae ?_))))
 apply CJ (m:=2) (dgs p n R (stR p n F R b k)) [(0,_),(1,_),(2,_),(5,_),(6,_),(7,_),(8,_)] hY hA hs (by rw [gy]; exact gQ.snoc hR (k+1)) Y Y
 ·refine FI Y (FI Y (FL ?_))
  refine ⟨rfl,?_⟩
  refine ⟨rfl,?_⟩
  refine ⟨rfl,?_⟩
  refine ⟨rfl,?_⟩
  repeat (first | exact dV.nil | refine dV.cons Y S ?_)
 ·intro W' Z' hJ'
  rw [gy] at hJ'
  refine FH (dk Y) (FL (aa (aA Y (aw (aa (ae (ai (FI Y (FH (aN Y) ?_)))))))))
  refine FH (am (htm) Y ⟨S,S,FM⟩) ?_
  refine FI Y (FH (an Y Y) (FH (an Y Y) (FJ Y (FJ Y (FL (aa (ae (ai (FI Y ?_)))))))))
  refine FH (aY Y) ?_
  refine bY n n Y Y Y Y (Nat.le_refl _) Y Y X Y Y (fun bd => ?_)
  refine FJ Y (FL (aa (ae (ae (ai (FI Y (FH (aY Y) (FI Y (FL ?_)))))))))
  refine aa (au (cf (Γ' := [(0,_),(1,_),(2,_),(5,_),(6,_),(7,_),(9,_),(11,_),(38,_),(39,_),(40,_)]) FC (SubM.refl _) ?_))
  refine bk (σ:=Nat) (Γk := [(0,_),(1,_),(2,_),(5,_),(6,_),(7,_),(9,_),(11,_),(38,_),(39,_)]) FC (fun t => [(40,one (.int .i64 (t:Nat)))]) (fun t M0=>(M0.set 0 (aH (some bd) 37 (.agg 2) n n (fun q=>if q<t then aO (stR p n F R b (k+1) q) else bP)))) (fun t=>t≤n) (fun t=>n - t) (0) (Nat.zero_le _) FD (.keep (ez fun q hq=>by rw [if_neg (Nat.not_lt_zero q)]; exact kC _) (.nil)) (fun t ht => ?_)
  refine bI (Γ' := [(40,_),(0,_),(1,_),(2,_),(5,_),(6,_),(7,_),(9,_),(11,_),(38,_),(39,_)]) (M' := [_]) Y Y ?_
  by_cases hti:t<n
  ·have hsu:=mI (stR p n F R b k t) (bD n (fun q=>dgs p n R (stR p n F R b k) q*F q t)) (dM (hst t) H) (dM (AZ hp2 hp hn hs' t) H)
   have hdm:=dB (stR p n F R b k t - bD n (fun q=>dgs p n R (stR p n F R b k) q*F q t)) (p:Int) X (dM (hsl t) H) (dM (n:=2147483648) X H)
   refine ae (ai (FH (sT X (a6 Y Y)) (FL (aa (ae (aD Y (aw (aa (ae ?_)))))))))
   refine au (ae (ai (FI Y (FH (aC Y Y X) (FH (aN Y) ?_)))))
   refine aJ (T:=37) Y (ltN Y) (fun b13 => ?_)
   refine FJ Y (aB 0 Y Y Y Y Y (leN Y) Y (FL (aa ?_)))
   apply jl (Γ1 := [(0,_),(1,_),(2,_),(5,_),(6,_),(7,_),(9,_),(11,_),(38,_),(39,_),(40,_)]) (M1 := [_,_]) 14 3 [] [12,13] a4 Z U
   ·refine FI Y (FI Y (FH (ak 0 Y Y Y) (FI Y (FI Y (FH (aC Y Y X) (FH (aN Y) ?_))))))
    refine FH (am (hsu) Y ⟨S,S,FM⟩) ?_
    refine FH (aN Y) ?_
    refine FH (am (hdm) Y ⟨S,S,FM⟩) ?_
    refine FI Y (FH (an Y Y) (FH (an Y Y) (FH (an Y Y) (FL ?_))))
    refine o8 (Γe := [(0,_),(1,_),(2,_),(5,_),(6,_),(7,_),(9,_),(11,_),(38,_),(39,_),(40,_),(45,_),(46,_),(47,_),(56,_)]) (rem := [14,15]) Y FF Y ?_
    refine ao (rem' := [15]) (i:=14) Z Y Y ?_ (jk.cons Y (StepG.plain (an Y Y) Y Y (ltN Y)) Y (jk.cons Y (StepG.plain (an Y Y) Y Y (ltN Y)) Y jk.nil))
    refine FH (aq Y Y X) (FL ?_)
    refine ⟨rfl,?_⟩
    refine ao (rem' := []) (i:=15) Z Y Y ?_ (jk.cons Y (StepG.plain (an Y Y) Y Y (ltN Y)) Y (jk.cons Y (StepG.plain (an Y Y) Y Y (ltN Y)) Y jk.nil))
    (refine az 1 Y Y Y ?_ Y ?_;omega)
    refine FL ?_
    refine ⟨rfl,?_⟩
    refine aW FF (SubM.refl _) (jk.cons Y (StepG.plain (an Y Y) Y Y (ltN Y)) Y (jk.cons Y (StepG.plain (an Y Y) Y Y (ltN Y)) Y jk.nil))
   ·refine aF (aa (ai (FH (bC _ 1 Y Y X) (FI Y (FL ?_)))))
    refine aK (t+1) X X FD (.drop (.keep (pS (G:=fun q=>aO (stR p n F R b (k+1) q))) (.nil)))
  ·have htn:t=n:=by omega
   subst htn
   refine ae (ai (FH (sF X (a6 Y Y)) (FL (aa (ae (aA Y (aV (av (av ?_)))))))))
   refine aE (aa (ai (FI Y (FJ Y (FL (aF ?_))))))
   refine io (dV.refl _) (.keep (a7 (ψ:=fun q=>aO (stR p t F R b (k+1) q)) (fun q hq=>by rw [if_pos X])) (SubM.refl _)) ?_
   refine bZ (t:=7) (i:=0) Y Y ?_
   refine yv (s:=(k,Fy,W)) (μ:=fun s:DgZ=>N - s.1) (Ws:=fun s:DgZ=>s.2.2) (Zs:=fun s=>s.2.1) (ok:=fun s:DgZ=>J ((List.range s.1).map fun k=>dgs p _ R (stR p _ F R b k),s.2.1) s.2.2) ((k+1,Z',W'):DgZ) hJ' ?_ ?_ Y
   ·exact Nat.sub_lt_sub_left hkN (Nat.lt_succ_self k)
   ·repeat (first | exact dV.nil | refine dV.cons Y S ?_)
 ·intro W' hx'
  rw [gy] at hx'
  refine FH (dk Y) (FL (aa (aD Y (aG (aS (bJ (aS (bJ ?_))))))))
  exact AY Y hAx hx'
theorem q9 (p n:Nat) (F:Nat→Nat→Int) (b:Nat→Int):Ok Tryz.prog 57 [bO n n F,bw n b,one (.int .u64 (p:Nat))] (jI 91 [bW (.agg 3) (bO n n F),bW .one (one (.int .u64 (p:Nat))),bW .one (bw n b)]):=by
 refine Ok.enter Tryz.func57 Y Tryz.ntmps57 Y (fun w O => ?_)
 refine ae (ai ?_)
 refine aQ Y Y (ltN Y) (fun b3 => ?_)
 refine gF Y Y (ltN Y) (fun b4 => ?_)
 refine gF Y Y (ltN Y) (fun b5 => ?_)
 refine FJ Y (FL (aa (ae (ai (FH (lL Y) (FJ Y (FL (aa (aG ?_)))))))))
 refine iW [_,_,_] (Kp := []) (Kp' := []) (List.Perm.refl _) (EntM.refl []) (xw.set (t:=6) Y (Ent.clo3 (Ent.ptrW (List.mem_cons_of_mem _ (List.mem_cons_of_mem _ List.mem_cons_self)) (rz.same)) (Ent.ptr List.mem_cons_self List.mem_cons_self) (Ent.ptr (List.mem_cons_of_mem _ List.mem_cons_self) List.mem_cons_self))) ?_
 unfold bO bw
 refine aT Tryz.results57 (.tmp Y S)
end Tor
end
section
set_option linter.unusedSectionVars false
namespace Tor
open Go Go.RowKit
section
variable {P:Program} {E:Env} {D:List Deferred} {Γ Γ1:Ctx} {M M1:Mem} {Q:Exit→Act→World→Prop}
theorem Ey {c rest:Code} {l:Nat} (hE:E.R=none) (hf:findLabel c l=some rest) (h:J P E D Γ M c (Exit.jump l (St E D Γ1 M1) Q)) (h1:J P E D Γ1 M1 rest (Exit.jump l (fun _ _=>False) Q)) :
  J P E D Γ M (.scope c) Q:=fun a w hS hd=>by
 rw [hE]
 refine wpIn_wide.2 (wp_scope_jumps l (St E D Γ1 M1) (fun _ _=>0) hf ((h a w hS).wp hE) fun a' w' hS'=>((h1 a' w' hS').mono ?_).wp hE)
 rintro e a2 w2 hq
 cases e <;> first
  | exact hq
  | exact hq.2.elim
theorem CL {l:Nat} {Q:Exit→Act→World→Prop} (hg:dV Γ Γ1) (hm:SubM M M1):PJ E D Γ M (.goto l) (Exit.jump l (St E D Γ1 M1) Q):=fun a w hS=>⟨rfl,hS.sub hg hm⟩
theorem Ez {l:Nat} (h:PJ E D Γ M (.goto l) Q):J P E D Γ M (.goto l) Q:=fun a w hS _=>wpIn_goto (h a w hS)
theorem CM {id:Nat} {n:Act→World→Prop} (h:PJ E D Γ M (.goto id) Q):PJ E D Γ M (.goto id) (Exit.then n Q):=h
theorem CN {l:Nat} {K:Act→World→Prop} (h:PJ E D Γ M .ret Q):PJ E D Γ M .ret (Exit.jump l K Q):=h
end
end Tor
end
section
namespace Tor
open Go Go.RowKit Go.Proofs
attribute [local irreducible] J PJ aM one slT bW bH bj exT cn eP aX aH slV VT.le Ret bP
theorem yw (d:Int) (p q:Nat) (hd:bE d) (hp:bf cJ 2147483648=p) (hq:bf cJ p=q) (hq0:2<q) (hp':p<2147483648) (hqp:q<p) (h:d % (p:Int)=0) (h2:d % (q:Int)≠0):Ok Tryz.prog 56 [aO d] (one (.int .u64 (q:Nat))):=by
 have hb:=nD 2147483648 U
 rw [hp] at hb
 have hc:=nD p X
 rw [hq] at hc
 have hr:=iF p d X X hd
 have hr2:=iF q d X X hd
 have hz:(d % (q:Int)).toNat≠0:=by
  have:=Int.emod_nonneg d (show (q:Int)≠0 by omega)
  omega
 rw [h] at hr
 generalize (d % (q:Int)).toNat=k at *
 refine Ok.enter Tryz.func56 Y Tryz.ntmps56 Y (fun w O => ?_)
 refine ae (ai ?_)
 refine aQ Y Y (ltN Y) (fun b1 => ?_)
 refine FJ Y (FL (aa ?_))
 refine Ey (l:=0) (Γ1 := [(3,one (.int .u64 (q:Nat))),(1,one (.pointer (some ⟨b1,0,none⟩)))]) (M1 := [aX b1 37 2 [(0, .one,one (.bool (decide (d<0)))),(1, .one,cz (aL d.natAbs))]]) Y Y ?_ ?_
 ·refine ae (ai ?_)
  refine FH (am (hb) Y ⟨S,FM⟩) ?_
  refine FJ Y (FL (aa (ae (kP (aa (ae (ae (ai (FI Y ?_)))))))))
  refine FH (aI 0 Y Y) ?_
  refine FH (am (hr) Y ⟨S,S,FM⟩) ?_
  refine FH (sT X (bV Y Y)) (FI Y (FK (ab Y) (FK (sT X (cU Y Y)) (FH (a5 Y Y) (FL (aa (aD Y (ae (ai ?_)))))))))
  refine FI Y ?_
  refine FH (am (hc) Y ⟨S,FM⟩) ?_
  refine FJ Y (FL (aa (Ez ?_)))
  refine CM (CL ?_ ?_)
  ·exact .cons Y S (.cons Y S .nil)
  ·exact SubM.refl _
 ·refine ae (aw (aa (ae (ae (ai (FI Y (FH (aI 0 Y Y) ?_)))))))
  refine FH (am (hr2) Y ⟨S,S,FM⟩) ?_
  refine FH (sF X (bV Y Y)) (FI Y (sn0 Y Y Y Y Y (sn0 Y Y Y Y Y (FH (bG Y Y) (FL (aa (aA Y (aw (aa ?_)))))))))
  refine ae (ai (FI Y (FJ Y (FL (aa (aG (CN ?_)))))))
  refine aT Tryz.results56 (.tmp Y S)
end Tor
end
section
namespace Tor
open Go Go.RowKit Go.Proofs
theorem gQ.init {p n:Nat} {F:Nat→Nat→Int} {b:Nat→Int} {pre:List (Nat→Int)} {x:Nat→Int} (h:gQ p n F b (pre ++ [x])):gQ p n F b pre:=by
 obtain ⟨R,hR,he⟩:=h
 rw [List.length_append,show pre.length + [x].length=pre.length+1 from rfl, ← gy] at he
 exact ⟨R,hR,List.append_inj_left' he Y⟩
abbrev z0:Nat→Int:=fun _=>0
def kf (n:Nat) (l:List (Nat→Int)):VT:=slT .one l.length (fun i=>bw n (l.getD i z0))
theorem yx {sv:Option Nat} {T:TypeId} {n cap:Nat} {x:Nat→Int} {l:List (Nat→Int)} : Own.le (aH sv T .one cap (l.length+1) (fun q=>if q<l.length then bw n (l.getD q z0) else bw n x)) (aH sv T .one cap (l ++ [x]).length (fun q=>bw n ((l ++ [x]).getD q z0))):=by
 refine ff (by simp) (fun q hq => ?_)
 by_cases h:q<l.length
 ·rw [if_pos h]; simp only [List.getD]; rw [List.getElem?_append_left h]
 ·have:q=l.length:=by omega
  subst this;rw [if_neg h]; simp [List.getD]
theorem A0 {b:Nat} {T:TypeId} : Own.le (aX b T 1 [(0, .one,one (.slice none 0 0))]) (aX b T 1 [(0, .one,one (slV none 0 0))]):=Own.le_refl _
theorem yy {b:Nat} {T:TypeId} {φ:VT} {sv:Option Nat} {l l' cap:Nat} (h:l+1=l'):Own.le (aX b T 1 (ln [(0, .one, φ)] 0 (one (slV sv (l+1) cap)))) (aX b T 1 [(0, .one,one (slV sv l' cap))]):=by
 subst h;exact Own.le_refl _
theorem kK {n:Nat} {l:List (Nat→Int)} (h:l = []):VT.le (one (.slice none 0 0)) (kf n l):=by subst h;exact ey
attribute [local irreducible] J PJ aM one slT bW bH bj exT cn eP aX aH slV VT.le Ret bP
attribute [local irreducible] aO
theorem vK (r c m:Nat) (F:Nat→Nat→Int) (b:Nat→Int) (k:Int) (h : ¬ (r=c∧m=c)):Ok Tryz.prog 15 [bO r c F,bw m b,one (.int .i64 k)] (bj [kf 0 [],one (.int .u64 0),one (.int .i64 50)]):=by
 have hf:=jT r c m F b
 rw [decide_eq_false h] at hf
 refine Ok.enterR Tryz.func15 Y Tryz.ntmps15 Y (fun w O => ?_)
 refine ae (ai ?_)
 refine aQ Y Y (ltN Y) (fun b3 => ?_)
 refine gF Y Y (ltN Y) (fun b5 => ?_)
 refine FJ Y (FJ Y (FJ Y (FL (aa (ae (ae (ai (FH (aI 1 Y Y) (FI Y ?_)))))))))
 refine FH (am (hf) Y ⟨S,S,FM⟩) ?_
 refine FH (dk Y) (FL (aa (aD Y (ae (ai (FJ Y (FJ Y (FJ Y (FL ?_)))))))))
 refine aa (aG (aS (ie ?_)))
 refine f9 Tryz.results15 (.tmp Y (kK Y)) (.tmp Y S) (.tmp Y S)
theorem pW (n:Nat) (F:Nat→Nat→Int) (b:Nat→Int) (k:Int) (h:k<0∨64<k):Ok Tryz.prog 15 [bO n n F,bw n b,one (.int .i64 k)] (bj [kf 0 [],one (.int .u64 0),one (.int .i64 1)]):=by
 have hf:=jT n n n F b
 rw [decide_eq_true ⟨rfl,rfl⟩] at hf
 refine Ok.enterR Tryz.func15 Y Tryz.ntmps15 Y (fun w O => ?_)
 by_cases h1:k<0
 ·refine ae (ai ?_)
  refine aQ Y Y (ltN Y) (fun b3 => ?_)
  refine gF Y Y (ltN Y) (fun b5 => ?_)
  refine FJ Y (FJ Y (FJ Y (FL (aa (ae (ae (ai (FH (aI 1 Y Y) (FI Y ?_)))))))))
  refine FH (am (hf) Y ⟨S,S,FM⟩) ?_
  refine FH (dk Y) (FL (aa (aA Y (aw (aa (ae (ae (ai (FH (ak 0 Y Y Y) ?_)))))))))
  refine FH (sT (by assumption) (a6 Y Y)) (FI Y (sn0 Y Y Y Y Y (sn0 Y Y Y Y Y (FH (a5 Y Y) (FL (aa (aD Y (ae (ai ?_)))))))))
  refine FJ Y (FJ Y (FJ Y (FL (aa (aG (aS (ie ?_)))))))
  refine f9 Tryz.results15 (.tmp Y (kK Y)) (.tmp Y S) (.tmp Y S)
 ·have h2:64<k:=by omega
  refine ae (ai ?_)
  refine aQ Y Y (ltN Y) (fun b3 => ?_)
  refine gF Y Y (ltN Y) (fun b5 => ?_)
  refine FJ Y (FJ Y (FJ Y (FL (aa (ae (ae (ai (FH (aI 1 Y Y) (FI Y ?_)))))))))
  refine FH (am (hf) Y ⟨S,S,FM⟩) ?_
  refine FH (dk Y) (FL (aa (aA Y (aw (aa (ae (ae (ai (FH (ak 0 Y Y Y) ?_)))))))))
  refine FH (sF (by assumption) (a6 Y Y)) (FI Y (FK (ak 0 Y Y Y) (FK (sT (by assumption) (cU Y Y)) (FH (bG Y Y) (FL (aa (aD Y (ae (ai ?_)))))))))
  refine FJ Y (FJ Y (FJ Y (FL (aa (aG (aS (ie ?_)))))))
  refine f9 Tryz.results15 (.tmp Y (kK Y)) (.tmp Y S) (.tmp Y S)
theorem vL (n:Nat) (F:Nat→Nat→Int) (b:Nat→Int) (k:Int) (h1:0≤k) (h2:k≤64) (hdet:Ok Tryz.prog 50 [bO n n F] (bj [aO 0,one (.int .i64 0)])) :
  Ok Tryz.prog 15 [bO n n F,bw n b,one (.int .i64 k)] (bj [kf 0 [],one (.int .u64 0),one (.int .i64 110)]):=by
 have hf:=jT n n n F b
 rw [decide_eq_true ⟨rfl,rfl⟩] at hf
 have hsg:=dg 0
 refine Ok.enterR Tryz.func15 Y Tryz.ntmps15 Y (fun w O => ?_)
 refine ae (ai ?_)
 refine aQ Y Y (ltN Y) (fun b3 => ?_)
 refine gF Y Y (ltN Y) (fun b5 => ?_)
 refine FJ Y (FJ Y (FJ Y (FL (aa (ae (ae (ai (FH (aI 1 Y Y) (FI Y ?_)))))))))
 refine FH (am (hf) Y ⟨S,S,FM⟩) ?_
 refine FH (dk Y) (FL (aa (aA Y (aw (aa (ae (ae (ai (FH (ak 0 Y Y Y) ?_)))))))))
 refine FH (sF X (a6 Y Y)) (FI Y (FK (ak 0 Y Y Y) (FK (sF X (cU Y Y)) (FH (bG Y Y) (FL (aa (aA Y (aw (aa ?_)))))))))
 refine ae (ai (FH (aI 1 Y Y) ?_))
 refine FH (am (hdet) Y ⟨S,FM⟩) ?_
 refine FI Y (FH (an Y Y) (FH (an Y Y) ?_))
 refine aJ (T:=37) Y (ltN Y) (fun b9 => ?_)
 refine aB 0 Y Y Y Y Y (leN Y) Y (FJ Y (FL (aa (ae (ae (ai (FH (ak 0 Y Y Y) ?_)))))))
 refine FH (am (hsg) Y ⟨S,FM⟩) ?_
 refine FH (sT (rfl) (bV Y Y)) (FL (aa (aD Y (ae (ai (FJ Y (FJ Y (FJ Y (FL ?_)))))))))
 refine aa (aG (aS (ie ?_)))
 refine f9 Tryz.results15 (.tmp Y (kK Y)) (.tmp Y S) (.tmp Y S)
theorem yz (p n k:Nat) (F:Nat→Nat→Int) (b:Nat→Int) (d:Int) (hpb:cJ p=true) (hp2:2≤p) (hp:p<2147483648) (hinv:vA p) (hF:vB p n F) (hn:n≤16) (hs : ∀ i j,(F i j).natAbs≤1099511627776) (hb : ∀ i,(b i).natAbs≤1152921504606846976)
  (hdet:Ok Tryz.prog 50 [bO n n F] (bj [aO d,one (.int .i64 0)])) (hd:d≠0) (hpr:Ok Tryz.prog 56 [aO d] (one (.int .u64 (p:Nat)))) (hk:k≤64) :
  Ok Tryz.prog 15 [bO n n F,bw n b,one (.int .i64 (k:Nat))] (exT fun pre:List (Nat→Int)=>cn (gQ p n F b pre∧pre.length=k) (bj [kf n pre,one (.int .u64 (p:Nat)),one (.int .i64 0)])):=by
 have hf:=jT n n n F b
 rw [decide_eq_true ⟨rfl,rfl⟩] at hf
 have hdg:=q9 p n F b
 have hit:=pV p n F b (k+1) hpb hp2 hp hinv hF hn hs hb
 have hsz:=dY d
 have hsg:=dg d
 have hsz':dn d≠0:=fun e=>hd (hsz.1 e)
 refine Ok.enterR Tryz.func15 Y Tryz.ntmps15 Y (fun w O => ?_)
 refine ae (ai ?_)
 refine aQ Y Y (ltN Y) (fun b3 => ?_)
 refine gF Y Y (ltN Y) (fun b5 => ?_)
 refine FJ Y (FJ Y (FJ Y (FL (aa (ae (ae (ai (FH (aI 1 Y Y) (FI Y ?_)))))))))
 refine FH (am (hf) Y ⟨S,S,FM⟩) ?_
 refine FH (dk Y) (FL (aa (aA Y (aw (aa (ae (ae (ai (FH (ak 0 Y Y Y) ?_)))))))))
 refine FH (sF X (a6 Y Y)) (FI Y (FK (ak 0 Y Y Y) (FK (sF X (cU Y Y)) (FH (bG Y Y) (FL (aa (aA Y (aw (aa ?_)))))))))
 refine ae (ai (FH (aI 1 Y Y) ?_))
 refine FH (am (hdet) Y ⟨S,FM⟩) ?_
 refine FI Y (FH (an Y Y) (FH (an Y Y) ?_))
 refine aJ (T:=37) Y (ltN Y) (fun b9 => ?_)
 refine aB 0 Y Y Y Y Y (leN Y) Y (FJ Y (FL (aa (ae (ae (ai (FH (ak 0 Y Y Y) ?_)))))))
 refine FH (am (hsg) Y ⟨S,FM⟩) ?_
 refine FH (sF (by assumption) (bV Y Y)) (FL (aa (aA Y (aw (aa (ae (ai (FH (ak 0 Y Y Y) ?_))))))))
 refine FH (am (hpr) Y ⟨S,FM⟩) ?_
 refine FJ Y (FL (aa (ae (ai ?_))))
 refine aJ (T:=43) Y (ltN Y) (fun b12 => ?_)
 refine FL (aa (ae (ae (ai (FH (aI 3 Y Y) (FI Y (FI Y ?_)))))))
 refine FH (am (hdg) Y ⟨S,S,S,FM⟩) ?_
 refine FL (aa (au ?_))
 refine gM (ConvM.nilSl0 (T:=33) (L := .one) (φ:=fun q=>bw n (([]:List (Nat→Int)).getD q z0)) _) ?_
 refine uf (σ:=Option Nat × Nat × List (Nat→Int)) hit (fun s => [aH s.1 33 .one s.2.1 s.2.2.length (fun q=>bw n (s.2.2.getD q z0)),aX b12 43 1 [(0, .one,one (slV s.1 s.2.2.length s.2.1))],aX b5 3 1 [(0, .one,one (.int .i64 (k:Nat)))]])
  (fun pre s=>s.2.2=pre∧pre.length≤k) (fun e pre s=>e=some 0∧gQ p n F b s.2.2∧s.2.2.length=k) (none,0, []) Y Y (fun pre s h=>Nat.lt_succ_of_le h.2) ⟨rfl,Nat.zero_le _⟩
  (.keep (a7 (fun q hq=>absurd hq (Nat.not_lt_zero _))) (.keep A0 (.drop (.keep FG (SubM.nilR _))))) Y Y (by simp [gD,gL])
  (fun l W pre x s hs hgo => ?_) (fun pre s D hs=>absurd hs.1 (by simp)) (fun id pre s D hs => ?_)
 ·obtain ⟨sv,cap,m⟩:=s
  obtain ⟨hm,hl⟩:=hs
  dsimp only at hm hl ⊢
  subst hm
  by_cases he:m.length=k
  ·refine au (ae (ae (ai (FH (ak 1 Y Y Y) (FH (cB Y) (FH (ak 2 Y Y Y) (FH (sT X (bV Y Y)) (FL (aa ?_)))))))))
   refine aD Y (aV (av (dm Y ?_)))
   exact te (sv,cap,m) ⟨rfl,hgo.init,he⟩ (SubM.refl _)
  ·refine au (ae (ae (ai (FH (ak 1 Y Y Y) (FH (cB Y) (FH (ak 2 Y Y Y) (FH (sF X (bV Y Y)) (FL (aa ?_)))))))))
   refine aA Y (aw (aa (ai (FH (ak 1 Y Y Y) (FI Y (eH Y Y Y Y ?_))))))
   (refine cq 0 Y Y Y (leN Y) ?_ ?_ Y (ltN Y) (fun sv46 cap46 => ?_);omega;omega)
   refine aB 1 Y Y Y Y Y (leN Y) Y (FL (aF ?_))
   exact o7 (sv46,cap46,m ++ [x]) ⟨rfl,by simp;omega⟩ (.keep yx (.keep (yy (by simp)) (SubM.refl _)))
 ·obtain ⟨sv,cap,m⟩:=s
  obtain ⟨hid,hm,hl⟩:=hs
  cases hid
  dsimp only at hm hl ⊢
  refine aE (aa (ae (ai (FH (ak 2 Y Y Y) (FI Y (FJ Y (FJ Y (FJ Y (FL ?_)))))))))
  refine aa (aG (ow (bZ (t:=6) (i:=0) Y Y ?_)))
  refine tt (ψ:=bj [kf n m,one (.int .u64 (p:Nat)),one (.int .i64 0)]) (oT m (mf ⟨hm,hl⟩ S)) ?_
  refine f9 Tryz.results15 (.tmp Y S) (.tmp Y S) (.tmp Y S)
end Tor
end
section
namespace Tor
open Go Go.RowKit Go.Proofs
def lZ (s:Nat):Nat→Nat × Int→Nat × Int→Nat × Int
 | 0, _, y => y
 | f + 1, x, y => if s < y.1 then lZ s f y (x.1 % y.1, x.2 - ((x.1 / y.1 : Nat) : Int) * y.2) else y
theorem nE (s:Nat) : ∀ (f g:Nat) (x y:Nat × Int),y.1<f→y.1<g→lZ s f x y=lZ s g x y
 | 0, _, _, _, h, _ => absurd h (Nat.not_lt_zero _)
 | _ + 1, 0, _, _, _, h => absurd h (Nat.not_lt_zero _)
 | f + 1, g + 1, x, y, h1, h2 => by
  rw [lZ,lZ]
  by_cases c:s<y.1
  ·rw [if_pos c,if_pos c]
   have:=Nat.mod_lt x.1 (show 0<y.1 by omega)
   exact nE s f g _ _ (by show x.1 % y.1<f;omega) (by show x.1 % y.1<g;omega)
  ·rw [if_neg c,if_neg c]
structure EucR (m s:Nat) (R:Nat × Int) (x y:Nat × Int):Prop where
 eq : ∀ f,y.1<f→lZ s f x y=R
 lt:y.1<x.1
 le:x.1≤m
 w:x.2.natAbs*y.1+y.2.natAbs*x.1≤m
 u:x.2.natAbs≤m
 v:y.2.natAbs≤m
theorem EucR.step {m s:Nat} {R x y:Nat × Int} (h:EucR m s R x y) (hc:s<y.1):EucR m s R y (x.1 % y.1,x.2 - ((x.1 / y.1:Nat):Int)*y.2)∧(((x.1 / y.1:Nat):Int)*y.2).natAbs≤m:=by
 have hy:0<y.1:=by omega
 have hm:=Nat.mod_lt x.1 hy
 have hd:=Nat.div_add_mod x.1 y.1
 have hlt:=h.lt
 have hle:=h.le
 have hw:=h.w
 have e1:(((x.1 / y.1:Nat):Int)*y.2).natAbs=x.1 / y.1*y.2.natAbs:=by rw [Int.natAbs_mul,Int.natAbs_natCast]
 have e2:(x.2 - ((x.1 / y.1:Nat):Int)*y.2).natAbs≤x.2.natAbs+x.1 / y.1*y.2.natAbs:=by rw [← e1]; omega
 have e3:x.1 / y.1*y.2.natAbs≤y.2.natAbs*x.1:=by rw [Nat.mul_comm]; exact Nat.mul_le_mul_left _ (Nat.div_le_self _ _)
 have e4:y.2.natAbs*(x.1 % y.1)+(x.2 - ((x.1 / y.1:Nat):Int)*y.2).natAbs*y.1≤m:=by
  have k1:=Nat.mul_le_mul_right y.1 e2
  have k2:(x.2.natAbs+x.1 / y.1*y.2.natAbs)*y.1+y.2.natAbs*(x.1 % y.1)=x.2.natAbs*y.1+y.2.natAbs*x.1:=by
   conv=>rhs;rw [← hd]
   rw [Nat.add_mul,Nat.mul_add]
   have:x.1 / y.1*y.2.natAbs*y.1=y.2.natAbs*(y.1*(x.1 / y.1)):=by ac_rfl
   omega
  omega
 refine ⟨⟨fun f hf => ?_,hm,by omega,e4,h.v,?_⟩,by rw [e1]; omega⟩
 ·have:=h.eq (y.1+1) X
  rw [lZ,if_pos hc] at this
  rw [← this]
  exact nE s _ _ _ _ hf hm
 ·have k3:(x.2 - ((x.1 / y.1:Nat):Int)*y.2).natAbs≤(x.2 - ((x.1 / y.1:Nat):Int)*y.2).natAbs*y.1:=Nat.le_mul_of_pos_right _ hy
  show (x.2 - ((x.1 / y.1:Nat):Int)*y.2).natAbs≤m
  omega
theorem EucR.start {m s r:Nat} (hr:r<m):EucR m s (lZ s (m+1) (m,0) (r,1)) (m,0) (r,1) :=
 ⟨fun f hf=>nE s _ _ _ _ hf (by show r<m+1;omega),hr,Nat.le_refl _,by simp,by simp,by show (1:Int).natAbs≤m;omega⟩
theorem EucR.fin {m s:Nat} {R x y:Nat × Int} (h:EucR m s R x y) (hc : ¬ s<y.1):y=R:=by
 have:=h.eq (y.1+1) X
 rwa [lZ,if_neg hc] at this
def jU (a:Int) (m s:Nat) (f:Rat):Bool:=decide (f.num.natAbs≤s) && (decide (f.den≤s) && (decide (Nat.gcd f.den m=1) && decide ((f.num - a*f.den) % (m:Int)=0)))
def vM (a:Int) (m s:Nat):Option Rat :=
 let y:=lZ s (m+1) (m,0) ((a % (m:Int)).toNat,1)
 if y.2=0 then none else if jU a m s (Rat.divInt (y.1:Int) y.2)=true then some (Rat.divInt (y.1:Int) y.2) else none
def EA:Option Rat→VT
 | some q => cj q
 | none => dN 0 0
theorem wZ {a b:Int} : (Rat.divInt a b).num.natAbs≤a.natAbs:=by
 rw [Rat.num_divInt]
 by_cases hb:b=0
 ·subst hb;simp
 ·have h1:b.sign*a=a∨b.sign*a = -a:=by
   rcases Int.lt_trichotomy b 0 with h | h | h
   ·right;rw [Int.sign_eq_neg_one_of_neg h]; omega
   ·exact absurd h hb
   ·left;rw [Int.sign_eq_one_of_pos h]; omega
  have h2:=Int.natAbs_ediv_le_natAbs (b.sign*a) ((b.gcd a:Nat):Int)
  rcases h1 with h | h <;> rw [h] at h2 ⊢ <;> omega
theorem A1 {a b:Int} (hb:b≠0):(Rat.divInt a b).den≤b.natAbs:=by
 rw [Rat.den_divInt,if_neg hb]; exact Nat.div_le_self _ _
theorem eQ {x:Int} {n:Nat} (h:x.natAbs≤2^n) (hn:n<2048):bE x:=d9 (Nat.lt_of_le_of_lt h (Nat.pow_lt_pow_right (a:=2) (m:=n) (n:=2048) U hn))
theorem Fe {a:Int} {m s:Nat} {f:Rat} : (decide (dt (f.num.natAbs:Int) (s:Int)≤0) == true && (decide (dt (f.den:Int) (s:Int)≤0) == true && (decide (dt ((Nat.gcd f.den m:Nat):Int) 1=0) == true && decide (dn ((f.num - a*(f.den:Int)) % (m:Int))=0) == true)))=jU a m s f:=by
 unfold jU
 have h1 : ∀ x y:Int,dt x y≤0↔x≤y:=fun x y=>by unfold dt;split <;> (try split) <;> omega
 have h2 : ∀ x y:Int,dt x y=0↔x=y:=fun x y=>by unfold dt;split <;> (try split) <;> omega
 have h3 : ∀ x:Int,dn x=0↔x=0:=fun x=>by unfold dn;split <;> (try split) <;> omega
 simp only [h1,h2,h3,beq_true]
 congr 1
 ·congr 1;simp
 ·congr 1
  ·congr 1;simp
  ·congr 1;congr 1;simp;omega
theorem EB {x y:Nat} (h:x≤2^800) (h':y≤2^800):x*y≤2^1600:=by
 have h2:=D6 800 1600 Y
 exact Nat.le_trans (Nat.mul_le_mul h h') (Nat.le_of_eq h2.symm)
theorem CO {b:Nat} {T:TypeId} {φ ψ φ' ψ':VT} (h:VT.le φ φ') (h':VT.le ψ ψ'):Own.le (aX b T 4 [(0, .agg 2, φ),(2, .agg 2, ψ)]) (aX b T 4 [(0, .agg 2, φ'),(2, .agg 2, ψ')]):=rv (fun q hq=>by
 rcases List.mem_cons.1 hq with rfl | hq
 ·exact ⟨_,List.mem_cons_self,h⟩
 ·rcases List.mem_cons.1 hq with rfl | hq
  ·exact ⟨_,List.mem_cons_of_mem _ List.mem_cons_self,h'⟩
  ·cases hq)
instance:QuadOf Tryz.prog 140 4:=QuadOf.by_info Z Z Z
attribute [local irreducible] J PJ aM one slT bW bH bj exT cn eP aX aH slV VT.le Ret bP
theorem ug (a:Int) (m s:Nat) (hm:2≤m) (hm8:m≤2^800) (ha:a.natAbs≤2^800) (hs1:s*s≤(m - 1) / 2) (hs2:(m - 1) / 2<(s+1)*(s+1)) :
  Ok Tryz.prog 60 [aO a,aO (m:Int)] (bj [EA (vM a m s),one (.int .i64 (if (vM a m s).isSome then 0 else 41))]):=by
 have h1:=kd 1 U U
 have h2:=kd 2 U U
 have hcm:=gX (m:Int) 2
 have hc : ¬ dt (m:Int) 2<0:=by unfold dt;split <;> (try split) <;> omega
 have sma:bE a:=eQ ha U
 have smm:bE (m:Int):=eQ (n:=800) hm8 U
 have sm1:bE 1:=d9 H
 have sm2:bE 2:=d9 H
 have hsu:=mI (m:Int) 1 smm sm1
 rw [show (m:Int) - 1=((m - 1:Nat):Int) by omega] at hsu
 have hd1:=dB ((m - 1:Nat):Int) 2 U (cW smm X) sm2
 rw [show ((m - 1:Nat):Int) / 2=(((m - 1) / 2:Nat):Int) from (Int.natCast_ediv _ _).symm,show ((m - 1:Nat):Int) % 2=(((m - 1) % 2:Nat):Int) from (Int.natCast_emod _ _).symm] at hd1
 have hro:Ok Tryz.prog 101 [aO (((m - 1) / 2:Nat):Int)] (bj [aO (s:Int),one (.int .i64 0)]):=by
  by_cases h0:(m - 1) / 2=0
  ·have:s=0:=by
    rcases Nat.eq_zero_or_pos s with h | h
    ·exact h
    ·have:=Nat.mul_le_mul h h;omega
   rw [h0,this]; exact tL
  ·exact wJ _ s (Nat.lt_of_lt_of_le (show (m - 1) / 2<m by omega) hm8) h0 hs1 hs2
 have hd2:=dB a (m:Int) X sma smm
 have hr0:=Int.emod_nonneg a (show (m:Int)≠0 by omega)
 have hr1:=Int.emod_lt_of_pos a (show 0<(m:Int) by omega)
 refine Ok.enter Tryz.func60 Y Tryz.ntmps60 Y (fun w O => ?_)
 unfold vM
 dsimp only
 obtain ⟨r,hr⟩ : ∃ r,r=(a % (m:Int)).toNat:=⟨_,rfl⟩
 have hre:a % (m:Int)=(r:Int):=by omega
 have hd2':=hd2
 rw [hre] at hd2'
 rw [← hr]
 have hE:=EucR.start (m:=m) (s:=s) (r:=r) X
 generalize lZ s (m+1) (m,0) (r,1)=R at *
 refine ae (ai ?_)
 refine aQ Y Y (ltN Y) (fun b2 => ?_)
 refine aQ Y Y (ltN Y) (fun b3 => ?_)
 refine bF (T:=58) Y Y Y (fun b4 => ?_)
 refine FJ Y (FL (aa (ae (ai ?_))))
 refine FH (am (h1) Y ⟨S,FM⟩) ?_
 refine FH (am (h2) Y ⟨S,FM⟩) ?_
 refine aJ (T:=37) Y (ltN Y) (fun b6 => ?_)
 refine aJ (T:=37) Y (ltN Y) (fun b7 => ?_)
 refine aB 1 Y Y Y Y Y (leN Y) Y (aB 0 Y Y Y Y Y (leN Y) Y (FL (aa (ae (ae (ai (FH (aI 3 Y Y) (FH (ak 0 Y Y Y) ?_))))))))
 refine FH (am (hcm) Y ⟨S,S,FM⟩) ?_
 refine FH (sF (by assumption) (a6 Y Y)) (FL (aa (aA Y (aw (aa (ae ?_))))))
 refine eh a4 Z Z ?_
 refine ux (fun B=>aI 3 Y Y) Y Y ?_
 refine ux (fun B=>ak 1 Y Y Y) Y Y ?_
 refine uxk (hsu) Y ⟨S,S,FM⟩ Y ?_
 refine ux (fun B=>ak 0 Y Y Y) Y Y ?_
 refine uxk (hd1) Y ⟨S,S,FM⟩ Y ?_
 refine ux (fun B=>ab Y) Y Y ?_
 refine ux (fun B=>an Y Y) Y Y ?_
 refine ux (fun B=>an Y Y) Y Y ?_
 refine ux (fun B=>an Y Y) Y Y ?_
 refine ua Y (ua Y (us Y (us Y ?_)))
 refine ux (fun B=>ah Y) Y Y ?_
 refine RunU.nil (fun γ => ?_)
 refine cR (M' := [_,_,_,_,_,_,_]) Y (aa (ae (ai (FH (ak 1 Y Y Y) ?_))))
 refine FH (am (hro) Y ⟨S,FM⟩) ?_
 refine FI Y (FH (an Y Y) (FH (an Y Y) ?_))
 refine aJ (T:=37) Y (ltN Y) (fun b11 => ?_)
 refine aB 0 Y Y Y Y Y (leN Y) Y (FJ Y (FL (aa (ae (ai (FH (aI 7 Y Y) (FH (aI 6 Y Y) ?_)))))))
 refine FH (am (hd2') Y ⟨S,S,FM⟩) ?_
 refine FI Y (FH (an Y Y) (FH (an Y Y) (FH (an Y Y) ?_)))
 refine aJ (T:=37) Y (ltN Y) (fun b13 => ?_)
 refine aJ (T:=37) Y (ltN Y) (fun b14 => ?_)
 refine aB 1 Y Y Y Y Y (leN Y) Y (aB 0 Y Y Y Y Y (leN Y) Y (FJ Y (FL (aa (ae ?_)))))
 refine eh a4 Z Z ?_
 refine ux (fun B=>aI 8 Y Y) Y Y ?_
 refine uB Y Y Y (BuildK.nil (uB Y Y Y (BuildK.cons Y Y Y (BuildK.cons Y Y Y (BuildK.nil ?_)))))
 refine ux (fun B=>ak 0 Y Y Y) Y Y ?_
 refine ux (fun B=>ak 6 Y Y Y) Y Y ?_
 refine uB Y Y Y (BuildK.cons Y Y Y (BuildK.cons Y Y Y (BuildK.nil (ua Y (ua Y (us Y (us Y ?_)))))))
 refine RunU.nil (fun γ => ?_)
 refine cR (M' := [_,_,_,_,_,_,_,_,_,_,_,_]) Y (io (dV.refl _) (.keep jt (.keep jt (SubM.refl _))) (aa (ae (au (cf (Γ' := [(2,_),(3,_),(4,_),(5,_),(6,_),(11,_),(16,_),(17,_)]) FC (SubM.refl _) ?_)))))
 refine bk (σ:=(Nat × Int) × (Nat × Int)) (Γk := [(2,_),(3,_),(4,_),(5,_),(6,_),(11,_),(16,_),(17,_)]) FC (fun p => []) (fun p M0=>((M0.set 0 (aX (γ 17) 137 4 [(0, .agg 2,aO (p.2.1:Nat)),(2, .agg 2,aO p.2.2)])).set 1 (aX (γ 16) 137 4 [(0, .agg 2,aO (p.1.1:Nat)),(2, .agg 2,aO p.1.2)]))) (fun p=>EucR m s R p.1 p.2) (fun p=>p.2.1) (((m,0),(r,1))) (hE) FD (.keep FG (.keep (CO S jx) (.keep FG (.keep FG (.keep FG (.keep FG (.keep FG (.keep FG (.keep FG (.keep FG (.keep FG (.keep FG (.nil))))))))))))) (fun p hp => ?_)
 refine bI (Γ' := [(2,_),(3,_),(4,_),(5,_),(6,_),(11,_),(16,_),(17,_)]) (M' := [_,_,_,_,_,_,_,_,_,_,_,_]) Y Y ?_
 obtain ⟨x,y⟩:=p
 dsimp only at hp ⊢
 have hcy:=gX (y.1:Int) (s:Int)
 have q1:=hp.lt
 have q2:=hp.le
 have q3:=hp.u
 have q4:=hp.v
 by_cases hys:s<y.1
 ·have hcc:0<dt (y.1:Int) (s:Int):=by unfold dt;rw [if_neg X,if_pos X]; decide
  obtain ⟨n1,n2⟩:=hp.step hys
  have q5:=Nat.div_le_self x.1 y.1
  have hnx:=Co (x.1:Int) x.2 (y.1:Int) y.2 X (cW smm X) (cW smm X) (cW smm X) (cW smm X) (cW smm (by rw [← Int.natCast_ediv,Int.natAbs_natCast,Int.natAbs_natCast]; exact Nat.le_trans q5 q2)) (cW smm (by rw [← Int.natCast_ediv,Int.natAbs_natCast]; exact n2))
  rw [← Int.natCast_ediv, ← Int.natCast_emod] at hnx
  refine ae (ae (ai (FH (aj Y) (FH (ak 0 Y Y Y) (FH (ak 4 Y Y Y) ?_)))))
  refine FH (am (hcy) Y ⟨S,S,FM⟩) ?_
  refine FH (sT (by assumption) (cU Y Y)) (FL (aa (aD Y (aw (aa (au (eX 4 a4 Z U (FH (aI 0 Y Y) (FH (aI 1 Y Y) ?_)))))))))
  refine FH (aI 0 Y Y) ?_
  refine FH (am (hnx) Y ⟨S,S,FM⟩) ?_
  refine FL (a8 1 Y Y Y Y (a8 0 Y Y Y Y (FL (aF ?_))))
  refine aK ((y,(x.1 % y.1,x.2 - ((x.1 / y.1:Nat):Int)*y.2))) (n1) (Nat.mod_lt _ X) FD (.keep FG (.keep FG (.keep FG (.keep FG (.keep FG (.keep FG (.keep FG (.keep FG (.keep FG (.keep FG (.keep FG (.keep FG (.nil)))))))))))))
 ·have hcc : ¬ 0<dt (y.1:Int) (s:Int):=by unfold dt;split <;> (try split) <;> omega
  have hyR:=hp.fin hys
  subst hyR
  by_cases hy0:y.2=0
  ·rw [if_pos hy0]
   have hq:=Cn (y.1:Int)
   rw [hy0]
   unfold dN at hq
   unfold EA dN
   refine ae (ae (ai (FH (aj Y) (FH (ak 0 Y Y Y) (FH (ak 4 Y Y Y) ?_)))))
   refine FH (am (hcy) Y ⟨S,S,FM⟩) ?_
   refine FH (sF (by assumption) (cU Y Y)) (FL (aa (aA Y (aV (av (av (aE (aa (ae ?_)))))))))
   refine ai (FH (aj Y) (FH (ak 0 Y Y Y) (FH (aj Y) (FH (ak 0 Y Y Y) ?_))))
   refine FH (am (hq) Y ⟨S,S,FM⟩) ?_
   refine FI Y (FH (an Y Y) (FH (an Y Y) ?_))
   refine bF (T:=58) Y Y Y (fun b18 => ?_)
   refine a8 0 Y Y Y Y (FJ Y (FL (aa (ae (ae (ai (FI Y (FH (sT X (dj Y Y)) (FL ?_)))))))))
   refine aa (aD Y (ae (ai (stB Y Y Y (BuildK.nil (a8 10 Y Y Y Y (FJ Y (FL (aa ?_)))))))))
   refine aG (aS ?_)
   refine c9 Tryz.results60 (.cellW 10 Y Y (vf)) (.tmp Y S)
  ·rw [if_neg hy0]
   have smy1:bE (y.1:Int):=cW smm X
   have smy2:bE y.2:=cW smm X
   have hq:=D7 (y.1:Int) y.2 hy0 smy1 smy2
   have hnl:=wZ (a:=(y.1:Int)) (b:=y.2)
   have hdl:=A1 (a:=(y.1:Int)) hy0
   have hden0:=(Rat.divInt (y.1:Int) y.2).den_nz
   generalize Rat.divInt (y.1:Int) y.2=f at *
   unfold cj dN at hq
   have smn:bE f.num:=cW smm X
   have smd:bE (f.den:Int):=cW smm X
   have hp1:(a*(f.den:Int)).natAbs≤2^1600:=by
    rw [Int.natAbs_mul]
    exact EB ha X
   have hmu:=fo a (f.den:Int) sma smd
   have smp:=eQ (n:=1600) hp1 U
   have hsb:=mI f.num (a*(f.den:Int)) smn smp
   have smq:bE (f.num - a*(f.den:Int)):=eQ (n:=1601) (by
    have e:2^1601=2^1600+2^1600:=z6 1600 1601 Y
    have e2:2^800≤2^1600:=Nat.pow_le_pow_right (n:=2) (i:=800) (j:=1600) U U
    rw [e]
    generalize 2^1600=z at *
    generalize 2^800=z2 at *
    generalize a*(f.den:Int)=q at *
    omega) U
   have hdm:=dB (f.num - a*(f.den:Int)) (m:Int) X smq smm
   have hab:=B2 f.num smn
   have hc1:=gX (f.num.natAbs:Int) (s:Int)
   have hc2:=gX (f.den:Int) (s:Int)
   have hgc:=z5 (f.den:Int) (m:Int) smd smm
   rw [Int.natAbs_natCast,Int.natAbs_natCast] at hgc
   have hc3:=gX (Nat.gcd f.den m:Nat) 1
   have hsi:=dg ((f.num - a*(f.den:Int)) % (m:Int))
   refine ae (ae (ai (FH (aj Y) (FH (ak 0 Y Y Y) (FH (ak 4 Y Y Y) ?_)))))
   refine FH (am (hcy) Y ⟨S,S,FM⟩) ?_
   refine FH (sF (by assumption) (cU Y Y)) (FL (aa (aA Y (aV (av (av (aE (aa (ae ?_)))))))))
   refine ai (FH (aj Y) (FH (ak 0 Y Y Y) (FH (aj Y) (FH (ak 0 Y Y Y) ?_))))
   refine FH (am (hq) Y ⟨S,S,FM⟩) ?_
   refine FI Y (FH (an Y Y) (FH (an Y Y) ?_))
   refine bF (T:=58) Y Y Y (fun b18 => ?_)
   refine a8 0 Y Y Y Y (FJ Y (FL (aa (ae (ae (ai (FI Y (FH (sF X (dj Y Y)) (FL ?_)))))))))
   refine aa (aA Y (aw (aa (ae ?_))))
   refine eh a4 Z Z ?_
   refine ux (fun B=>aj Y) Y Y ?_
   refine ux (fun B=>ak 0 Y Y Y) Y Y ?_
   refine ux (fun B=>aI 12 Y Y) Y Y ?_
   refine ux (fun B=>aj Y) Y Y ?_
   refine ux (fun B=>ak 0 Y Y Y) Y Y ?_
   refine uxk (hmu) Y ⟨S,S,FM⟩ Y ?_
   refine uxk (hsb) Y ⟨S,S,FM⟩ Y ?_
   refine ux (fun B=>aI 11 Y Y) Y Y ?_
   refine uxk (hdm) Y ⟨S,S,FM⟩ Y ?_
   refine ux (fun B=>ab Y) Y Y ?_
   refine ux (fun B=>an Y Y) Y Y ?_
   refine ux (fun B=>an Y Y) Y Y ?_
   refine ux (fun B=>an Y Y) Y Y ?_
   refine ua Y (ua Y (us Y (us Y ?_)))
   refine ux (fun B=>ah Y) Y Y ?_
   refine RunU.nil (fun γ => ?_)
   refine cR (M' := [_,_,_,_,_,_,_,_,_,_,_,_,_,_,_]) Y (aa (ae ?_))
   refine eh a4 Z Z ?_
   refine ux (fun B=>aj Y) Y Y ?_
   refine ux (fun B=>ak 2 Y Y Y) Y Y ?_
   refine uxk (hab) Y ⟨S,FM⟩ Y ?_
   refine ux (fun B=>ak 7 Y Y Y) Y Y ?_
   refine uxk (hc1) Y ⟨S,S,FM⟩ Y ?_
   refine ux (fun B=>ob Y Y) Y Y ?_
   refine ux (fun B=>aj Y) Y Y ?_
   refine ux (fun B=>ak 2 Y Y Y) Y Y ?_
   refine ux (fun B=>ak 7 Y Y Y) Y Y ?_
   refine uxk (hc2) Y ⟨S,S,FM⟩ Y ?_
   refine ux (fun B=>ob Y Y) Y Y ?_
   refine ux (fun B=>aj Y) Y Y ?_
   refine ux (fun B=>ak 2 Y Y Y) Y Y ?_
   refine ux (fun B=>aI 13 Y Y) Y Y ?_
   refine uxk (hgc) Y ⟨S,S,FM⟩ Y ?_
   refine ux (fun B=>ak 11 Y Y Y) Y Y ?_
   refine uxk (hc3) Y ⟨S,S,FM⟩ Y ?_
   refine ux (fun B=>bV Y Y) Y Y ?_
   refine ux (fun B=>ak 0 Y Y Y) Y Y ?_
   refine uxk (hsi) Y ⟨S,FM⟩ Y ?_
   refine ux (fun B=>bV Y Y) Y Y ?_
   refine uB Y Y Y (BuildK.cons Y Y Y (BuildK.cons Y Y Y (BuildK.cons Y Y Y (BuildK.cons Y Y Y (BuildK.nil (ua Y (us Y ?_)))))))
   refine RunU.nil (fun γ => ?_)
   refine cR (M' := [_,_,_,_,_,_,_,_,_,_,_,_,_,_,_,_]) Y (io (dV.refl _) (.keep jt (SubM.refl _)) (aa (ae (ae (ai (FH (aI 0 Y Y) (stB Y Y Y (BuildK.cons Y Y Y (BuildK.cons Y Y Y ?_)))))))))
   refine BuildK.cons Y Y Y (BuildK.cons Y Y Y (BuildK.nil (FH (EY Y Y) (FL (aa (js (t:=115) (ψ:=one (.bool (!jU a m s f))) Y (ar (by rw [Fe])) ?_))))))
   unfold EA cj dN
   cases hrc:jU a m s f
   ·rw [if_neg U]
    refine aD Y (ae (ai (stB Y Y Y (BuildK.nil (a8 13 Y Y Y Y (FJ Y (FL (aa (aG ?_)))))))))
    refine aS ?_
    refine c9 Tryz.results60 (.cellW 13 Y Y (vf)) (.tmp Y S)
   ·rw [if_pos Y]
    refine aA Y (aw (aa (ae (ai (FH (aI 3 Y Y) (a8 13 Y Y Y Y (FJ Y (FL (aa ?_)))))))))
    refine aG ?_
    refine c9 Tryz.results60 (.cellW 13 Y Y S) (.tmp Y S)
end Tor
end
section
namespace Tor
open Go Go.RowKit Go.Proofs
def nF (r c:Nat) (F:Nat→Nat→Int) (t:Nat):Nat:=(dU r (fun i=>(fk c (F i):Int)) t).toNat
theorem uh {r c:Nat} {F:Nat→Nat→Int} {t:Nat} (ht:t<r) : ∃ i,i<r∧dU r (fun i=>(fk c (F i):Int)) t=(fk c (F i):Int):=by
 have h1:dU r (fun i=>(fk c (F i):Int)) t∈lst r (dU r (fun i=>(fk c (F i):Int))):=by
  unfold lst;exact List.mem_map.2 ⟨t,List.mem_range.2 ht,rfl⟩
 have h2:=(fx (fun i=>(fk c (F i):Int)) (Nat.le_refl r)).mem_iff.1 h1
 unfold lst at h2
 obtain ⟨i,hi,e⟩:=List.mem_map.1 h2
 exact ⟨i,List.mem_range.1 hi,e.symm⟩
theorem rc {r c:Nat} {F:Nat→Nat→Int} {t:Nat} (ht:t<r):((nF r c F t:Nat):Int)=dU r (fun i=>(fk c (F i):Int)) t:=by
 obtain ⟨i,hi,e⟩:=uh (c:=c) (F:=F) ht
 unfold nF;rw [e]; exact Int.toNat_of_nonneg (Int.natCast_nonneg _)
theorem w5 {r c B:Nat} {F:Nat→Nat→Int} (hl : ∀ i,i<r→fk c (F i)≤B) {t:Nat} (ht:t<r):nF r c F t≤B:=by
 obtain ⟨i,hi,e⟩:=uh (c:=c) (F:=F) ht
 have:=hl i hi
 unfold nF;rw [e]; omega
attribute [local irreducible] J PJ aM one slT bW bH bj exT cn eP aX aH slV VT.le Ret bP
attribute [local irreducible] aO
end Tor
end
section
namespace Tor
open Go Go.RowKit Go.Proofs
theorem A3 {sv:Option Nat} {T:TypeId} {cap n j:Nat} {g:Nat→Int} : Own.le (aH sv T (.agg 2) cap n (upd (upd (fun q=>aO (g q)) (j+1) (aO (g j))) j (aO (g (j+1))))) (aH sv T (.agg 2) cap n (fun q=>aO (jo j g q))):=a7 fun q _=>by
 unfold upd jo
 by_cases h:q=j
 ·rw [if_pos h,if_pos h]
 ·rw [if_neg h,if_neg h]
  by_cases h2:q=j+1
  ·rw [if_pos h2,if_pos h2]
  ·rw [if_neg h2,if_neg h2]
def InL (n:Nat) (g h:Nat→Int):Prop := ∀ q,q<n → ∃ i,i<n∧h q=g i
theorem InL.sort {n i:Nat} {g:Nat→Int} (hi:i≤n):InL n g (dU i g):=fun q hq=>by
 have h1:dU i g q∈lst n (dU i g):=by unfold lst;exact List.mem_map.2 ⟨q,List.mem_range.2 hq,rfl⟩
 have h2:=(fx g hi).mem_iff.1 h1
 unfold lst at h2
 obtain ⟨k,hk,e⟩:=List.mem_map.1 h2
 exact ⟨k,List.mem_range.1 hk,e.symm⟩
theorem InL.swp {n j:Nat} {g h:Nat→Int} (FA:InL n g h) (hj:j+1<n):InL n g (jo j h):=fun q hq=>by
 unfold jo
 split
 ·exact FA _ hj
 ·split
  ·exact FA _ X
  ·exact FA q hq
attribute [local irreducible] J PJ aM one slT bW bH bj exT cn eP aX aH slV VT.le Ret bP
attribute [local irreducible] aO
theorem su (sv:Option Nat) (cap n:Nat) (g:Nat→Int) (cl:VT) (hn:n≤1048576) (hC : ∀ x y,(∃ i,i<n∧x=g i)→(∃ i,i<n∧y=g i)→fO Tryz.prog cl [aO x,aO y] (one (.int .i64 (dt y x)))) :
  OkI Tryz.prog 169 [one (slV sv n cap),one (.int .i64 0),one (.int .i64 (n:Nat)),cl] [aH sv 37 (.agg 2) cap n (fun q=>aO (g q))]
   (fun _:Unit=>bj []) (fun _ => [aH sv 37 (.agg 2) cap n (fun q=>aO (dU n g q))]):=by
 refine OkI.enter Tryz.func169 Y Tryz.ntmps169 Y (fun w O => ?_)
 refine iS (i:=0) (F:=sv=none→n=0) Y (fun g h hp he=>e6 hp he) (fun hsv => ?_)
 refine ae (ai (FI Y (FH (cA Y Y (aR X X)) (FJ Y (FL (aa (au (cf (Γ' := [(0,_),(1,_),(2,_),(3,_),(8,_)]) FC (SubM.refl _) ?_))))))))
 refine bk (σ:=Nat) (Γk := [(0,_),(1,_),(2,_),(3,_)]) FC (fun t => [(8,one (.int .i64 ((t+1:Nat):Int)))]) (fun t M0=>(M0.set 0 (aH sv 37 (.agg 2) cap n (fun q=>aO (dU (t+1) g q))))) (fun t=>t+1≤n∨t=0) (fun t=>n - t) (0) (.inr Y) FD (.keep FG (.nil)) (fun t ht => ?_)
 refine bI (Γ' := [(8,_),(0,_),(1,_),(2,_),(3,_)]) (M' := [_]) Y Y ?_
 by_cases hlt:t+1<n
 ·obtain ⟨bs,rfl⟩:=fu hsv X
  refine ae (ae (ai (FI Y (FI Y (FH (sT X (a6 Y Y)) (FL (aa (aD Y (aw ?_)))))))))
  refine aa (ae (au (ae (ai (FI Y (FJ Y (FL (aa (au ?_)))))))))
  refine cf (Γ' := [(0,_),(1,_),(2,_),(3,_),(8,_),(9,_)]) FC (SubM.refl _) ?_
  refine bk (σ:=Nat × (Nat→Int)) (Γk := [(0,_),(1,_),(2,_),(3,_),(8,_)]) FC (fun s => [(9,one (.int .i64 (s.1:Nat)))]) (fun s M0=>(M0.set 0 (aH (some bs) 37 (.agg 2) cap n (fun q=>aO (s.2 q))))) (fun s=>s.1≤t+1∧InL n g s.2∧qn s.1 s.2=dU (t+2) g) (fun s=>s.1) ((t+1,dU (t+1) g)) (⟨Nat.le_refl _,InL.sort X,rfl⟩) FD (.keep FG (.nil)) (fun s hs => ?_)
  refine bI (Γ' := [(9,_),(0,_),(1,_),(2,_),(3,_),(8,_)]) (M' := [_]) Y Y ?_
  obtain ⟨j,h⟩:=s
  obtain ⟨hj,hin,hI⟩:=hs
  dsimp only at hj hin hI ⊢
  cases j with
  | zero =>
   have hI:h=dU (t+2) g:=hI
   subst hI
   refine ae (ae (be 17 a4 Z U (FI Y (FI Y (FH (sF X (cU Y Y)) (FI Y (sn0 Y Y Y Y Y (sn0 Y Y Y Y Y (sn0 Y Y Y Y Y ?_)))))))))
   refine sn0 Y Y Y Y Y (sn0 Y Y Y Y Y (sn0 Y Y Y Y Y (sn0 Y Y Y Y Y (sn0 Y Y Y Y Y (sn0 Y Y Y Y Y (sn0 Y Y Y Y Y (sn0 Y Y Y Y Y (sn0 Y Y Y Y Y (FH (bG Y Y) ?_)))))))))
   refine FL (FL (aa (aA Y (aV (av (av (aE (aF (aa ?_)))))))))
   refine ai (FI Y (FH (bC _ 1 Y Y X) (FJ Y (FL ?_))))
   refine aK (t+1) X X FD (.keep FG (.nil))
  | succ j =>
   have hx:=hin (j+1) X
   have hy:=hin j X
   have hcl:=hC (h (j+1)) (h j) hx hy
   have hI:(if h j<h (j+1) then qn j (jo j h) else h)=dU (t+2) g:=hI
   by_cases hlt2:h j<h (j+1)
   ·rw [if_pos hlt2] at hI
    have hcc:dt (h j) (h (j+1))<0:=by unfold dt;split <;> (try split) <;> omega
    generalize dt (h j) (h (j+1))=cc at *
    refine ae (ae (be 17 a4 Z U (FI Y (FI Y (FH (sT X (cU Y Y)) (FI Y (FK (ab Y) (FK (ab Y) (FK (ab Y) ?_)))))))))
    refine FK (aq Y Y X) (FK (bg 0 Y Y X) (FK (ab Y) (FK (ab Y) (FK (cr _ 1 Y Y X X) (FK (aq Y Y X) (FK (bg 0 Y Y X) ?_))))))
    refine FK (mj hcl Y Y ⟨S,S,FM⟩) ?_
    refine FK (sT (by assumption) (a6 Y Y)) (FH (a5 Y Y) (FL (FL (aa (aD Y (aw (aa (ae (au ?_)))))))))
    apply jl (Γ1 := [(9,_),(0,_),(1,_),(2,_),(3,_),(8,_)]) (M1 := [_]) 15 6 [2,3,4] [] a4 Z U
    ·refine FI Y (FI Y (FI Y (FI Y (FH (cr _ 1 Y Y X X) (FI Y (FI Y (FH (cr _ 1 Y Y X X) (FH (aq Y Y X) (FH (bg 0 Y Y X) ?_)))))))))
     refine FI Y (FI Y (FH (aq Y Y X) (FH (bg 0 Y Y X) (FH (aq Y Y X) (FL ?_)))))
     refine DR (Γa := [(9,_),(0,_),(1,_),(2,_),(3,_),(8,_),(51,_),(46,_),(50,_)]) (Γb := [(9,_),(0,_),(1,_),(2,_),(3,_),(8,_),(51,_),(46,_),(50,_),(41,_)]) (Γc := [(9,_),(0,_),(1,_),(2,_),(3,_),(8,_),(51,_),(46,_),(50,_),(40,_)]) (Γd := [(9,_),(0,_),(1,_),(2,_),(3,_),(8,_),(51,_),(46,_),(50,_),(40,_),(41,_)]) (Γe := [(9,_),(0,_),(1,_),(2,_),(3,_),(8,_),(51,_),(46,_),(50,_),(39,_)]) (Γf := [(9,_),(0,_),(1,_),(2,_),(3,_),(8,_),(51,_),(46,_),(50,_),(39,_),(41,_)]) (Γg := [(9,_),(0,_),(1,_),(2,_),(3,_),(8,_),(51,_),(46,_),(50,_),(39,_),(40,_)]) (Γh := [(9,_),(0,_),(1,_),(2,_),(3,_),(8,_),(51,_),(46,_),(50,_),(39,_),(40,_),(41,_)]) (rem := [15,16,17]) Y FF Y FF Y FF Y FF Y FF Y FF Y FF Y FF Y ?_ ?_ ?_ ?_ ?_ ?_ ?_ ?_
     ·refine eM (r1 := [3,4,15,16,17]) (r2 := [2,4,15,16,17]) (r3 := [2,3,4,16,17]) (i:=2) (j:=3) (k:=15) Z Y Y Y Y Y Y ?_ ?_ ?_ jk.nil
      refine FI Y (FL ?_)
      refine ⟨rfl,?_⟩
      refine bQ (rem' := [4,15,16,17]) (rem'' := [3,4,16,17]) (i:=3) (j:=15) Z Y Y Y Y ?_ ?_ jk.nil
      refine FI Y (FL ?_)
      refine ⟨rfl,?_⟩
      refine bQ (rem' := [15,16,17]) (rem'' := [4,16,17]) (i:=4) (j:=15) Z Y Y Y Y ?_ ?_ jk.nil
      refine FH (cr _ 1 Y Y X X) (FL ?_)
      refine ⟨rfl,?_⟩
      refine ao (rem' := [16,17]) (i:=15) Z Y Y ?_ jk.nil
      (refine az 0 Y Y Y ?_ Y ?_;omega)
      refine FL ?_
      refine ⟨rfl,?_⟩
      refine ao (rem' := [17]) (i:=16) Z Y Y ?_ jk.nil
      refine FH (aq Y Y X) (FL ?_)
      refine ⟨rfl,?_⟩
      refine ao (rem' := []) (i:=17) Z Y Y ?_ jk.nil
      (refine az 0 Y Y Y ?_ Y ?_;omega)
      refine FL ?_
      refine ⟨rfl,?_⟩
      refine aW FF (SubM.refl _) jk.nil
      (refine az 0 Y Y Y ?_ Y ?_;omega)
      refine FL ?_
      refine ⟨rfl,?_⟩
      refine ao (rem' := [16,17]) (i:=4) Z Y Y ?_ jk.nil
      refine FH (cr _ 1 Y Y X X) (FL ?_)
      refine ⟨rfl,?_⟩
      refine ao (rem' := [17]) (i:=16) Z Y Y ?_ jk.nil
      refine FH (aq Y Y X) (FL ?_)
      refine ⟨rfl,?_⟩
      refine ao (rem' := []) (i:=17) Z Y Y ?_ jk.nil
      (refine az 0 Y Y Y ?_ Y ?_;omega)
      refine FL ?_
      refine ⟨rfl,?_⟩
      refine aW FF (SubM.refl _) jk.nil
      (refine az 0 Y Y Y ?_ Y ?_;omega)
      refine FL ?_
      refine ⟨rfl,?_⟩
      refine ao (rem' := [4,16,17]) (i:=3) Z Y Y ?_ jk.nil
      refine FI Y (FL ?_)
      refine ⟨rfl,?_⟩
      refine ao (rem' := [16,17]) (i:=4) Z Y Y ?_ jk.nil
      refine FH (cr _ 1 Y Y X X) (FL ?_)
      refine ⟨rfl,?_⟩
      refine ao (rem' := [17]) (i:=16) Z Y Y ?_ jk.nil
      refine FH (aq Y Y X) (FL ?_)
      refine ⟨rfl,?_⟩
      refine ao (rem' := []) (i:=17) Z Y Y ?_ jk.nil
      (refine az 0 Y Y Y ?_ Y ?_;omega)
      refine FL ?_
      refine ⟨rfl,?_⟩
      refine aW FF (SubM.refl _) jk.nil
      refine FI Y (FL ?_)
      refine ⟨rfl,?_⟩
      refine eM (r1 := [4,15,16,17]) (r2 := [2,15,16,17]) (r3 := [2,4,16,17]) (i:=2) (j:=4) (k:=15) Z Y Y Y Y Y Y ?_ ?_ ?_ jk.nil
      refine FI Y (FL ?_)
      refine ⟨rfl,?_⟩
      refine bQ (rem' := [15,16,17]) (rem'' := [4,16,17]) (i:=4) (j:=15) Z Y Y Y Y ?_ ?_ jk.nil
      refine FH (cr _ 1 Y Y X X) (FL ?_)
      refine ⟨rfl,?_⟩
      refine ao (rem' := [16,17]) (i:=15) Z Y Y ?_ jk.nil
      (refine az 0 Y Y Y ?_ Y ?_;omega)
      refine FL ?_
      refine ⟨rfl,?_⟩
      refine ao (rem' := [17]) (i:=16) Z Y Y ?_ jk.nil
      refine FH (aq Y Y X) (FL ?_)
      refine ⟨rfl,?_⟩
      refine ao (rem' := []) (i:=17) Z Y Y ?_ jk.nil
      (refine az 0 Y Y Y ?_ Y ?_;omega)
      refine FL ?_
      refine ⟨rfl,?_⟩
      refine aW FF (SubM.refl _) jk.nil
      (refine az 0 Y Y Y ?_ Y ?_;omega)
      refine FL ?_
      refine ⟨rfl,?_⟩
      refine ao (rem' := [16,17]) (i:=4) Z Y Y ?_ jk.nil
      refine FH (cr _ 1 Y Y X X) (FL ?_)
      refine ⟨rfl,?_⟩
      refine ao (rem' := [17]) (i:=16) Z Y Y ?_ jk.nil
      refine FH (aq Y Y X) (FL ?_)
      refine ⟨rfl,?_⟩
      refine ao (rem' := []) (i:=17) Z Y Y ?_ jk.nil
      (refine az 0 Y Y Y ?_ Y ?_;omega)
      refine FL ?_
      refine ⟨rfl,?_⟩
      refine aW FF (SubM.refl _) jk.nil
      refine FH (cr _ 1 Y Y X X) (FL ?_)
      refine ⟨rfl,?_⟩
      refine bQ (rem' := [15,16,17]) (rem'' := [2,16,17]) (i:=2) (j:=15) Z Y Y Y Y ?_ ?_ jk.nil
      refine FI Y (FL ?_)
      refine ⟨rfl,?_⟩
      refine ao (rem' := [16,17]) (i:=15) Z Y Y ?_ jk.nil
      (refine az 0 Y Y Y ?_ Y ?_;omega)
      refine FL ?_
      refine ⟨rfl,?_⟩
      refine ao (rem' := [17]) (i:=16) Z Y Y ?_ jk.nil
      refine FH (aq Y Y X) (FL ?_)
      refine ⟨rfl,?_⟩
      refine ao (rem' := []) (i:=17) Z Y Y ?_ jk.nil
      (refine az 0 Y Y Y ?_ Y ?_;omega)
      refine FL ?_
      refine ⟨rfl,?_⟩
      refine aW FF (SubM.refl _) jk.nil
      (refine az 0 Y Y Y ?_ Y ?_;omega)
      refine FL ?_
      refine ⟨rfl,?_⟩
      refine ao (rem' := [16,17]) (i:=2) Z Y Y ?_ jk.nil
      refine FI Y (FL ?_)
      refine ⟨rfl,?_⟩
      refine ao (rem' := [17]) (i:=16) Z Y Y ?_ jk.nil
      refine FH (aq Y Y X) (FL ?_)
      refine ⟨rfl,?_⟩
      refine ao (rem' := []) (i:=17) Z Y Y ?_ jk.nil
      (refine az 0 Y Y Y ?_ Y ?_;omega)
      refine FL ?_
      refine ⟨rfl,?_⟩
      refine aW FF (SubM.refl _) jk.nil
      (refine az 0 Y Y Y ?_ Y ?_;omega)
      refine FL ?_
      refine ⟨rfl,?_⟩
      refine bQ (rem' := [4,16,17]) (rem'' := [2,16,17]) (i:=2) (j:=4) Z Y Y Y Y ?_ ?_ jk.nil
      refine FI Y (FL ?_)
      refine ⟨rfl,?_⟩
      refine ao (rem' := [16,17]) (i:=4) Z Y Y ?_ jk.nil
      refine FH (cr _ 1 Y Y X X) (FL ?_)
      refine ⟨rfl,?_⟩
      refine ao (rem' := [17]) (i:=16) Z Y Y ?_ jk.nil
      refine FH (aq Y Y X) (FL ?_)
      refine ⟨rfl,?_⟩
      refine ao (rem' := []) (i:=17) Z Y Y ?_ jk.nil
      (refine az 0 Y Y Y ?_ Y ?_;omega)
      refine FL ?_
      refine ⟨rfl,?_⟩
      refine aW FF (SubM.refl _) jk.nil
      refine FH (cr _ 1 Y Y X X) (FL ?_)
      refine ⟨rfl,?_⟩
      refine ao (rem' := [16,17]) (i:=2) Z Y Y ?_ jk.nil
      refine FI Y (FL ?_)
      refine ⟨rfl,?_⟩
      refine ao (rem' := [17]) (i:=16) Z Y Y ?_ jk.nil
      refine FH (aq Y Y X) (FL ?_)
      refine ⟨rfl,?_⟩
      refine ao (rem' := []) (i:=17) Z Y Y ?_ jk.nil
      (refine az 0 Y Y Y ?_ Y ?_;omega)
      refine FL ?_
      refine ⟨rfl,?_⟩
      refine aW FF (SubM.refl _) jk.nil
      (refine az 0 Y Y Y ?_ Y ?_;omega)
      refine FL ?_
      refine ⟨rfl,?_⟩
      refine bQ (rem' := [3,4,16,17]) (rem'' := [2,4,16,17]) (i:=2) (j:=3) Z Y Y Y Y ?_ ?_ jk.nil
      refine FI Y (FL ?_)
      refine ⟨rfl,?_⟩
      refine ao (rem' := [4,16,17]) (i:=3) Z Y Y ?_ jk.nil
      refine FI Y (FL ?_)
      refine ⟨rfl,?_⟩
      refine ao (rem' := [16,17]) (i:=4) Z Y Y ?_ jk.nil
      refine FH (cr _ 1 Y Y X X) (FL ?_)
      refine ⟨rfl,?_⟩
      refine ao (rem' := [17]) (i:=16) Z Y Y ?_ jk.nil
      refine FH (aq Y Y X) (FL ?_)
      refine ⟨rfl,?_⟩
      refine ao (rem' := []) (i:=17) Z Y Y ?_ jk.nil
      (refine az 0 Y Y Y ?_ Y ?_;omega)
      refine FL ?_
      refine ⟨rfl,?_⟩
      refine aW FF (SubM.refl _) jk.nil
      refine FI Y (FL ?_)
      refine ⟨rfl,?_⟩
      refine bQ (rem' := [4,16,17]) (rem'' := [2,16,17]) (i:=2) (j:=4) Z Y Y Y Y ?_ ?_ jk.nil
      refine FI Y (FL ?_)
      refine ⟨rfl,?_⟩
      refine ao (rem' := [16,17]) (i:=4) Z Y Y ?_ jk.nil
      refine FH (cr _ 1 Y Y X X) (FL ?_)
      refine ⟨rfl,?_⟩
      refine ao (rem' := [17]) (i:=16) Z Y Y ?_ jk.nil
      refine FH (aq Y Y X) (FL ?_)
      refine ⟨rfl,?_⟩
      refine ao (rem' := []) (i:=17) Z Y Y ?_ jk.nil
      (refine az 0 Y Y Y ?_ Y ?_;omega)
      refine FL ?_
      refine ⟨rfl,?_⟩
      refine aW FF (SubM.refl _) jk.nil
      refine FH (cr _ 1 Y Y X X) (FL ?_)
      refine ⟨rfl,?_⟩
      refine ao (rem' := [16,17]) (i:=2) Z Y Y ?_ jk.nil
      refine FI Y (FL ?_)
      refine ⟨rfl,?_⟩
      refine ao (rem' := [17]) (i:=16) Z Y Y ?_ jk.nil
      refine FH (aq Y Y X) (FL ?_)
      refine ⟨rfl,?_⟩
      refine ao (rem' := []) (i:=17) Z Y Y ?_ jk.nil
      (refine az 0 Y Y Y ?_ Y ?_;omega)
      refine FL ?_
      refine ⟨rfl,?_⟩
      refine aW FF (SubM.refl _) jk.nil
     ·refine eM (r1 := [3,15,16,17]) (r2 := [2,15,16,17]) (r3 := [2,3,16,17]) (i:=2) (j:=3) (k:=15) Z Y Y Y Y Y Y ?_ ?_ ?_ jk.nil
      refine FI Y (FL ?_)
      refine ⟨rfl,?_⟩
      refine bQ (rem' := [15,16,17]) (rem'' := [3,16,17]) (i:=3) (j:=15) Z Y Y Y Y ?_ ?_ jk.nil
      refine FI Y (FL ?_)
      refine ⟨rfl,?_⟩
      refine ao (rem' := [16,17]) (i:=15) Z Y Y ?_ jk.nil
      (refine az 0 Y Y Y ?_ Y ?_;omega)
      refine FL ?_
      refine ⟨rfl,?_⟩
      refine ao (rem' := [17]) (i:=16) Z Y Y ?_ jk.nil
      refine FH (aq Y Y X) (FL ?_)
      refine ⟨rfl,?_⟩
      refine ao (rem' := []) (i:=17) Z Y Y ?_ jk.nil
      (refine az 0 Y Y Y ?_ Y ?_;omega)
      refine FL ?_
      refine ⟨rfl,?_⟩
      refine aW FF (SubM.refl _) jk.nil
      (refine az 0 Y Y Y ?_ Y ?_;omega)
      refine FL ?_
      refine ⟨rfl,?_⟩
      refine ao (rem' := [16,17]) (i:=3) Z Y Y ?_ jk.nil
      refine FI Y (FL ?_)
      refine ⟨rfl,?_⟩
      refine ao (rem' := [17]) (i:=16) Z Y Y ?_ jk.nil
      refine FH (aq Y Y X) (FL ?_)
      refine ⟨rfl,?_⟩
      refine ao (rem' := []) (i:=17) Z Y Y ?_ jk.nil
      (refine az 0 Y Y Y ?_ Y ?_;omega)
      refine FL ?_
      refine ⟨rfl,?_⟩
      refine aW FF (SubM.refl _) jk.nil
      refine FI Y (FL ?_)
      refine ⟨rfl,?_⟩
      refine bQ (rem' := [15,16,17]) (rem'' := [2,16,17]) (i:=2) (j:=15) Z Y Y Y Y ?_ ?_ jk.nil
      refine FI Y (FL ?_)
      refine ⟨rfl,?_⟩
      refine ao (rem' := [16,17]) (i:=15) Z Y Y ?_ jk.nil
      (refine az 0 Y Y Y ?_ Y ?_;omega)
      refine FL ?_
      refine ⟨rfl,?_⟩
      refine ao (rem' := [17]) (i:=16) Z Y Y ?_ jk.nil
      refine FH (aq Y Y X) (FL ?_)
      refine ⟨rfl,?_⟩
      refine ao (rem' := []) (i:=17) Z Y Y ?_ jk.nil
      (refine az 0 Y Y Y ?_ Y ?_;omega)
      refine FL ?_
      refine ⟨rfl,?_⟩
      refine aW FF (SubM.refl _) jk.nil
      (refine az 0 Y Y Y ?_ Y ?_;omega)
      refine FL ?_
      refine ⟨rfl,?_⟩
      refine ao (rem' := [16,17]) (i:=2) Z Y Y ?_ jk.nil
      refine FI Y (FL ?_)
      refine ⟨rfl,?_⟩
      refine ao (rem' := [17]) (i:=16) Z Y Y ?_ jk.nil
      refine FH (aq Y Y X) (FL ?_)
      refine ⟨rfl,?_⟩
      refine ao (rem' := []) (i:=17) Z Y Y ?_ jk.nil
      (refine az 0 Y Y Y ?_ Y ?_;omega)
      refine FL ?_
      refine ⟨rfl,?_⟩
      refine aW FF (SubM.refl _) jk.nil
      (refine az 0 Y Y Y ?_ Y ?_;omega)
      refine FL ?_
      refine ⟨rfl,?_⟩
      refine bQ (rem' := [3,16,17]) (rem'' := [2,16,17]) (i:=2) (j:=3) Z Y Y Y Y ?_ ?_ jk.nil
      refine FI Y (FL ?_)
      refine ⟨rfl,?_⟩
      refine ao (rem' := [16,17]) (i:=3) Z Y Y ?_ jk.nil
      refine FI Y (FL ?_)
      refine ⟨rfl,?_⟩
      refine ao (rem' := [17]) (i:=16) Z Y Y ?_ jk.nil
      refine FH (aq Y Y X) (FL ?_)
      refine ⟨rfl,?_⟩
      refine ao (rem' := []) (i:=17) Z Y Y ?_ jk.nil
      (refine az 0 Y Y Y ?_ Y ?_;omega)
      refine FL ?_
      refine ⟨rfl,?_⟩
      refine aW FF (SubM.refl _) jk.nil
      refine FI Y (FL ?_)
      refine ⟨rfl,?_⟩
      refine ao (rem' := [16,17]) (i:=2) Z Y Y ?_ jk.nil
      refine FI Y (FL ?_)
      refine ⟨rfl,?_⟩
      refine ao (rem' := [17]) (i:=16) Z Y Y ?_ jk.nil
      refine FH (aq Y Y X) (FL ?_)
      refine ⟨rfl,?_⟩
      refine ao (rem' := []) (i:=17) Z Y Y ?_ jk.nil
      (refine az 0 Y Y Y ?_ Y ?_;omega)
      refine FL ?_
      refine ⟨rfl,?_⟩
      refine aW FF (SubM.refl _) jk.nil
     ·refine eM (r1 := [4,15,16,17]) (r2 := [2,15,16,17]) (r3 := [2,4,16,17]) (i:=2) (j:=4) (k:=15) Z Y Y Y Y Y Y ?_ ?_ ?_ jk.nil
      refine FI Y (FL ?_)
      refine ⟨rfl,?_⟩
      refine bQ (rem' := [15,16,17]) (rem'' := [4,16,17]) (i:=4) (j:=15) Z Y Y Y Y ?_ ?_ jk.nil
      refine FH (cr _ 1 Y Y X X) (FL ?_)
      refine ⟨rfl,?_⟩
      refine ao (rem' := [16,17]) (i:=15) Z Y Y ?_ jk.nil
      (refine az 0 Y Y Y ?_ Y ?_;omega)
      refine FL ?_
      refine ⟨rfl,?_⟩
      refine ao (rem' := [17]) (i:=16) Z Y Y ?_ jk.nil
      refine FH (aq Y Y X) (FL ?_)
      refine ⟨rfl,?_⟩
      refine ao (rem' := []) (i:=17) Z Y Y ?_ jk.nil
      (refine az 0 Y Y Y ?_ Y ?_;omega)
      refine FL ?_
      refine ⟨rfl,?_⟩
      refine aW FF (SubM.refl _) jk.nil
      (refine az 0 Y Y Y ?_ Y ?_;omega)
      refine FL ?_
      refine ⟨rfl,?_⟩
      refine ao (rem' := [16,17]) (i:=4) Z Y Y ?_ jk.nil
      refine FH (cr _ 1 Y Y X X) (FL ?_)
      refine ⟨rfl,?_⟩
      refine ao (rem' := [17]) (i:=16) Z Y Y ?_ jk.nil
      refine FH (aq Y Y X) (FL ?_)
      refine ⟨rfl,?_⟩
      refine ao (rem' := []) (i:=17) Z Y Y ?_ jk.nil
      (refine az 0 Y Y Y ?_ Y ?_;omega)
      refine FL ?_
      refine ⟨rfl,?_⟩
      refine aW FF (SubM.refl _) jk.nil
      refine FH (cr _ 1 Y Y X X) (FL ?_)
      refine ⟨rfl,?_⟩
      refine bQ (rem' := [15,16,17]) (rem'' := [2,16,17]) (i:=2) (j:=15) Z Y Y Y Y ?_ ?_ jk.nil
      refine FI Y (FL ?_)
      refine ⟨rfl,?_⟩
      refine ao (rem' := [16,17]) (i:=15) Z Y Y ?_ jk.nil
      (refine az 0 Y Y Y ?_ Y ?_;omega)
      refine FL ?_
      refine ⟨rfl,?_⟩
      refine ao (rem' := [17]) (i:=16) Z Y Y ?_ jk.nil
      refine FH (aq Y Y X) (FL ?_)
      refine ⟨rfl,?_⟩
      refine ao (rem' := []) (i:=17) Z Y Y ?_ jk.nil
      (refine az 0 Y Y Y ?_ Y ?_;omega)
      refine FL ?_
      refine ⟨rfl,?_⟩
      refine aW FF (SubM.refl _) jk.nil
      (refine az 0 Y Y Y ?_ Y ?_;omega)
      refine FL ?_
      refine ⟨rfl,?_⟩
      refine ao (rem' := [16,17]) (i:=2) Z Y Y ?_ jk.nil
      refine FI Y (FL ?_)
      refine ⟨rfl,?_⟩
      refine ao (rem' := [17]) (i:=16) Z Y Y ?_ jk.nil
      refine FH (aq Y Y X) (FL ?_)
      refine ⟨rfl,?_⟩
      refine ao (rem' := []) (i:=17) Z Y Y ?_ jk.nil
      (refine az 0 Y Y Y ?_ Y ?_;omega)
      refine FL ?_
      refine ⟨rfl,?_⟩
      refine aW FF (SubM.refl _) jk.nil
      (refine az 0 Y Y Y ?_ Y ?_;omega)
      refine FL ?_
      refine ⟨rfl,?_⟩
      refine bQ (rem' := [4,16,17]) (rem'' := [2,16,17]) (i:=2) (j:=4) Z Y Y Y Y ?_ ?_ jk.nil
      refine FI Y (FL ?_)
      refine ⟨rfl,?_⟩
      refine ao (rem' := [16,17]) (i:=4) Z Y Y ?_ jk.nil
      refine FH (cr _ 1 Y Y X X) (FL ?_)
      refine ⟨rfl,?_⟩
      refine ao (rem' := [17]) (i:=16) Z Y Y ?_ jk.nil
      refine FH (aq Y Y X) (FL ?_)
      refine ⟨rfl,?_⟩
      refine ao (rem' := []) (i:=17) Z Y Y ?_ jk.nil
      (refine az 0 Y Y Y ?_ Y ?_;omega)
      refine FL ?_
      refine ⟨rfl,?_⟩
      refine aW FF (SubM.refl _) jk.nil
      refine FH (cr _ 1 Y Y X X) (FL ?_)
      refine ⟨rfl,?_⟩
      refine ao (rem' := [16,17]) (i:=2) Z Y Y ?_ jk.nil
      refine FI Y (FL ?_)
      refine ⟨rfl,?_⟩
      refine ao (rem' := [17]) (i:=16) Z Y Y ?_ jk.nil
      refine FH (aq Y Y X) (FL ?_)
      refine ⟨rfl,?_⟩
      refine ao (rem' := []) (i:=17) Z Y Y ?_ jk.nil
      (refine az 0 Y Y Y ?_ Y ?_;omega)
      refine FL ?_
      refine ⟨rfl,?_⟩
      refine aW FF (SubM.refl _) jk.nil
     ·refine bQ (rem' := [15,16,17]) (rem'' := [2,16,17]) (i:=2) (j:=15) Z Y Y Y Y ?_ ?_ jk.nil
      refine FI Y (FL ?_)
      refine ⟨rfl,?_⟩
      refine ao (rem' := [16,17]) (i:=15) Z Y Y ?_ jk.nil
      (refine az 0 Y Y Y ?_ Y ?_;omega)
      refine FL ?_
      refine ⟨rfl,?_⟩
      refine ao (rem' := [17]) (i:=16) Z Y Y ?_ jk.nil
      refine FH (aq Y Y X) (FL ?_)
      refine ⟨rfl,?_⟩
      refine ao (rem' := []) (i:=17) Z Y Y ?_ jk.nil
      (refine az 0 Y Y Y ?_ Y ?_;omega)
      refine FL ?_
      refine ⟨rfl,?_⟩
      refine aW FF (SubM.refl _) jk.nil
      (refine az 0 Y Y Y ?_ Y ?_;omega)
      refine FL ?_
      refine ⟨rfl,?_⟩
      refine ao (rem' := [16,17]) (i:=2) Z Y Y ?_ jk.nil
      refine FI Y (FL ?_)
      refine ⟨rfl,?_⟩
      refine ao (rem' := [17]) (i:=16) Z Y Y ?_ jk.nil
      refine FH (aq Y Y X) (FL ?_)
      refine ⟨rfl,?_⟩
      refine ao (rem' := []) (i:=17) Z Y Y ?_ jk.nil
      (refine az 0 Y Y Y ?_ Y ?_;omega)
      refine FL ?_
      refine ⟨rfl,?_⟩
      refine aW FF (SubM.refl _) jk.nil
     ·refine bQ (rem' := [4,15,16,17]) (rem'' := [3,4,16,17]) (i:=3) (j:=15) Z Y Y Y Y ?_ ?_ jk.nil
      refine FI Y (FL ?_)
      refine ⟨rfl,?_⟩
      refine bQ (rem' := [15,16,17]) (rem'' := [4,16,17]) (i:=4) (j:=15) Z Y Y Y Y ?_ ?_ jk.nil
      refine FH (cr _ 1 Y Y X X) (FL ?_)
      refine ⟨rfl,?_⟩
      refine ao (rem' := [16,17]) (i:=15) Z Y Y ?_ jk.nil
      (refine az 0 Y Y Y ?_ Y ?_;omega)
      refine FL ?_
      refine ⟨rfl,?_⟩
      refine ao (rem' := [17]) (i:=16) Z Y Y ?_ jk.nil
      refine FH (aq Y Y X) (FL ?_)
      refine ⟨rfl,?_⟩
      refine ao (rem' := []) (i:=17) Z Y Y ?_ jk.nil
      (refine az 0 Y Y Y ?_ Y ?_;omega)
      refine FL ?_
      refine ⟨rfl,?_⟩
      refine aW FF (SubM.refl _) jk.nil
      (refine az 0 Y Y Y ?_ Y ?_;omega)
      refine FL ?_
      refine ⟨rfl,?_⟩
      refine ao (rem' := [16,17]) (i:=4) Z Y Y ?_ jk.nil
      refine FH (cr _ 1 Y Y X X) (FL ?_)
      refine ⟨rfl,?_⟩
      refine ao (rem' := [17]) (i:=16) Z Y Y ?_ jk.nil
      refine FH (aq Y Y X) (FL ?_)
      refine ⟨rfl,?_⟩
      refine ao (rem' := []) (i:=17) Z Y Y ?_ jk.nil
      (refine az 0 Y Y Y ?_ Y ?_;omega)
      refine FL ?_
      refine ⟨rfl,?_⟩
      refine aW FF (SubM.refl _) jk.nil
      (refine az 0 Y Y Y ?_ Y ?_;omega)
      refine FL ?_
      refine ⟨rfl,?_⟩
      refine ao (rem' := [4,16,17]) (i:=3) Z Y Y ?_ jk.nil
      refine FI Y (FL ?_)
      refine ⟨rfl,?_⟩
      refine ao (rem' := [16,17]) (i:=4) Z Y Y ?_ jk.nil
      refine FH (cr _ 1 Y Y X X) (FL ?_)
      refine ⟨rfl,?_⟩
      refine ao (rem' := [17]) (i:=16) Z Y Y ?_ jk.nil
      refine FH (aq Y Y X) (FL ?_)
      refine ⟨rfl,?_⟩
      refine ao (rem' := []) (i:=17) Z Y Y ?_ jk.nil
      (refine az 0 Y Y Y ?_ Y ?_;omega)
      refine FL ?_
      refine ⟨rfl,?_⟩
      refine aW FF (SubM.refl _) jk.nil
     ·refine bQ (rem' := [15,16,17]) (rem'' := [3,16,17]) (i:=3) (j:=15) Z Y Y Y Y ?_ ?_ jk.nil
      refine FI Y (FL ?_)
      refine ⟨rfl,?_⟩
      refine ao (rem' := [16,17]) (i:=15) Z Y Y ?_ jk.nil
      (refine az 0 Y Y Y ?_ Y ?_;omega)
      refine FL ?_
      refine ⟨rfl,?_⟩
      refine ao (rem' := [17]) (i:=16) Z Y Y ?_ jk.nil
      refine FH (aq Y Y X) (FL ?_)
      refine ⟨rfl,?_⟩
      refine ao (rem' := []) (i:=17) Z Y Y ?_ jk.nil
      (refine az 0 Y Y Y ?_ Y ?_;omega)
      refine FL ?_
      refine ⟨rfl,?_⟩
      refine aW FF (SubM.refl _) jk.nil
      (refine az 0 Y Y Y ?_ Y ?_;omega)
      refine FL ?_
      refine ⟨rfl,?_⟩
      refine ao (rem' := [16,17]) (i:=3) Z Y Y ?_ jk.nil
      refine FI Y (FL ?_)
      refine ⟨rfl,?_⟩
      refine ao (rem' := [17]) (i:=16) Z Y Y ?_ jk.nil
      refine FH (aq Y Y X) (FL ?_)
      refine ⟨rfl,?_⟩
      refine ao (rem' := []) (i:=17) Z Y Y ?_ jk.nil
      (refine az 0 Y Y Y ?_ Y ?_;omega)
      refine FL ?_
      refine ⟨rfl,?_⟩
      refine aW FF (SubM.refl _) jk.nil
     ·refine bQ (rem' := [15,16,17]) (rem'' := [4,16,17]) (i:=4) (j:=15) Z Y Y Y Y ?_ ?_ jk.nil
      refine FH (cr _ 1 Y Y X X) (FL ?_)
      refine ⟨rfl,?_⟩
      refine ao (rem' := [16,17]) (i:=15) Z Y Y ?_ jk.nil
      (refine az 0 Y Y Y ?_ Y ?_;omega)
      refine FL ?_
      refine ⟨rfl,?_⟩
      refine ao (rem' := [17]) (i:=16) Z Y Y ?_ jk.nil
      refine FH (aq Y Y X) (FL ?_)
      refine ⟨rfl,?_⟩
      refine ao (rem' := []) (i:=17) Z Y Y ?_ jk.nil
      (refine az 0 Y Y Y ?_ Y ?_;omega)
      refine FL ?_
      refine ⟨rfl,?_⟩
      refine aW FF (SubM.refl _) jk.nil
      (refine az 0 Y Y Y ?_ Y ?_;omega)
      refine FL ?_
      refine ⟨rfl,?_⟩
      refine ao (rem' := [16,17]) (i:=4) Z Y Y ?_ jk.nil
      refine FH (cr _ 1 Y Y X X) (FL ?_)
      refine ⟨rfl,?_⟩
      refine ao (rem' := [17]) (i:=16) Z Y Y ?_ jk.nil
      refine FH (aq Y Y X) (FL ?_)
      refine ⟨rfl,?_⟩
      refine ao (rem' := []) (i:=17) Z Y Y ?_ jk.nil
      (refine az 0 Y Y Y ?_ Y ?_;omega)
      refine FL ?_
      refine ⟨rfl,?_⟩
      refine aW FF (SubM.refl _) jk.nil
     ·refine ao (rem' := [16,17]) (i:=15) Z Y Y ?_ jk.nil
      (refine az 0 Y Y Y ?_ Y ?_;omega)
      refine FL ?_
      refine ⟨rfl,?_⟩
      refine ao (rem' := [17]) (i:=16) Z Y Y ?_ jk.nil
      refine FH (aq Y Y X) (FL ?_)
      refine ⟨rfl,?_⟩
      refine ao (rem' := []) (i:=17) Z Y Y ?_ jk.nil
      (refine az 0 Y Y Y ?_ Y ?_;omega)
      refine FL ?_
      refine ⟨rfl,?_⟩
      refine aW FF (SubM.refl _) jk.nil
    ·refine aF (aa (ai (FI Y (FH (cr _ 1 Y Y X X) (FJ Y (FL ?_))))))
     refine aK ((j,jo j h)) (⟨by omega,hin.swp X,hI⟩) X FD (.keep (A3) (.nil))
   ·rw [if_neg hlt2] at hI
    have hcc : ¬ dt (h j) (h (j+1))<0:=by unfold dt;split <;> (try split) <;> omega
    generalize dt (h j) (h (j+1))=cc at *
    subst hI
    refine ae (ae (be 17 a4 Z U (FI Y (FI Y (FH (sT X (cU Y Y)) (FI Y (FK (ab Y) (FK (ab Y) (FK (ab Y) ?_)))))))))
    refine FK (aq Y Y X) (FK (bg 0 Y Y X) (FK (ab Y) (FK (ab Y) (FK (cr _ 1 Y Y X X) (FK (aq Y Y X) (FK (bg 0 Y Y X) ?_))))))
    refine FK (mj hcl Y Y ⟨S,S,FM⟩) ?_
    refine FK (sF (by assumption) (a6 Y Y)) (FH (a5 Y Y) (FL (FL (aa (aA Y (aV (av (av (aE ?_)))))))))
    refine aF (aa (ai (FI Y (FH (bC _ 1 Y Y X) (FJ Y (FL ?_))))))
    refine aK (t+1) X X FD (.keep FG (.nil))
 ·refine ae (ae (ai (FI Y (FI Y (FH (sF X (a6 Y Y)) (FL (aa (aA Y (aV ?_)))))))))
  refine av (av (aE (jK ?_)))
  exact ms (σ:=Unit) (ψ:=fun _=>bj []) () Tryz.results169 S (.keep (a7 fun q hq=>by rw [show t+1=n by omega]) .nil)
end Tor
end
section
namespace Tor
open Go Go.RowKit Go.Proofs
theorem CP:VT.le (one (.slice none 0 0)) (one (slV none 0 0)):=VT.le_refl _
attribute [local irreducible] J PJ aM one slT bW bH bj exT cn eP aX aH slV VT.le Ret bP
attribute [local irreducible] aO
theorem yA (x:Nat) (hx:x<256):Ok Tryz.prog 177 [one (.int .u64 (x:Nat))] (one (.int .i64 (gH x))):=by
 have k2:gH x≤8:=kW (n:=8) X U
 refine Ok.enter Tryz.func177 Y Tryz.ntmps177 Y (fun w O => ?_)
 refine ae (ai (FJ Y (FL (aa (ae (ae (ai (FI Y (FH (sF X (eu Y Y)) ?_)))))))))
 refine FL (aa (aA Y (aw (aa (ae (ae (ai (FI Y (FH (sF X (eu Y Y)) ?_)))))))))
 refine FL (aa (aA Y (aw (aa (ae (ae (ai (FI Y (FH (sF X (eu Y Y)) ?_)))))))))
 refine FL (aa (aA Y (aw (aa (ae (ai (FI Y (FI Y (FH (mp Y X X) ?_)))))))))
 refine FH (ir Z Y Y (px H X)) (FH (c6 Y X X) (FH (cA Y Y (aR X X)) (FJ Y (FL (aa (aG ?_))))))
 refine aT Tryz.results177 (.tmp Y (ar (by congr 1;omega)))
theorem CQ (x:Nat) (hx:x<256):Ok Tryz.prog 155 [one (.int .u64 (x:Nat))] (one (.int .i64 (gH x))):=by
 have h:=yA x hx
 refine Ok.enter Tryz.func155 Y Tryz.ntmps155 Y (fun w O => ?_)
 refine ae (ai (FJ Y (FL (aa (ae (aA Y (aw (aa (ae ?_)))))))))
 refine ai (FI Y ?_)
 refine FH (am (h) Y ⟨S,FM⟩) ?_
 refine FJ Y (FL (aa (aG ?_)))
 refine aT Tryz.results155 (.tmp Y S)
theorem EC (sv:Option Nat) (cap n:Nat) (lim:Int) (g:Nat→Int) (cl:VT) (hn:n≤12) (hC : ∀ x y,(∃ i,i<n∧x=g i)→(∃ i,i<n∧y=g i)→fO Tryz.prog cl [aO x,aO y] (one (.int .i64 (dt y x)))) :
  OkI Tryz.prog 154 [one (slV sv n cap),one (.int .i64 0),one (.int .i64 (n:Nat)),one (.int .i64 lim),cl] [aH sv 37 (.agg 2) cap n (fun q=>aO (g q))]
   (fun _:Unit=>bj []) (fun _ => [aH sv 37 (.agg 2) cap n (fun q=>aO (dU n g q))]):=by
 have hi:=su sv cap n g cl X hC
 refine OkI.enter Tryz.func154 Y Tryz.ntmps154 Y (fun w O => ?_)
 refine ae (ai (FJ Y (FL (aa (ae (ai (FJ Y (FL (aa ?_)))))))))
 refine au ?_
 refine zk 0 ?_
 refine au (ae (ai (FI Y (FI Y (FH (cr _ 0 Y Y X X) (FJ Y (FL (aa (ae ?_)))))))))
 refine ae (ai (FI Y (FH (sT X (ob Y Y)) (FL (aa (aD Y (ae (ai (FI Y ?_)))))))))
 refine FI Y (FI Y (FI Y ?_))
 refine gU (Kp := []) hi Y ⟨S,S,S,S,FM⟩ (List.Perm.refl _) Y Y (fun _ => ?_)
 refine FL (aa (aG (aS (bJ (aS (bJ ?_))))))
 exact ms (σ:=Unit) (ψ:=fun _=>bj []) () Tryz.results154 S (SubM.refl _)
theorem ui (sv:Option Nat) (cap n:Nat) (g:Nat→Int) (cl:VT) (hn:n≤12) (hC : ∀ x y,(∃ i,i<n∧x=g i)→(∃ i,i<n∧y=g i)→fO Tryz.prog cl [aO x,aO y] (one (.int .i64 (dt y x)))) :
  OkI Tryz.prog 131 [one (slV sv n cap),cl] [aH sv 37 (.agg 2) cap n (fun q=>aO (g q))]
   (fun _:Unit=>bj []) (fun _ => [aH sv 37 (.agg 2) cap n (fun q=>aO (dU n g q))]):=by
 have hp:=fun lim=>EC sv cap n lim g cl hn hC
 have hL:=CQ n X
 refine OkI.enter Tryz.func131 Y Tryz.ntmps131 Y (fun w O => ?_)
 refine ae (ai (FI Y (FH (cB Y) (FJ Y (FL (aa (ai (FI Y (FI Y ?_)))))))))
 refine FI Y (FH (bU Y X) ?_)
 refine FH (am (hL) Y ⟨S,FM⟩) ?_
 refine FI Y ?_
 refine gU (Kp := []) (hp _) Y ⟨S,S,S,S,S,FM⟩ (List.Perm.refl _) Y Y (fun _ => ?_)
 refine FL (jK ?_)
 exact ms (σ:=Unit) (ψ:=fun _=>bj []) () Tryz.results131 S (SubM.refl _)
theorem yB (x y:Int):Ok Tryz.prog 132 [aO x,aO y] (one (.int .i64 (dt y x))):=by
 have h:=gX y x
 refine Ok.enter Tryz.func132 Y Tryz.ntmps132 Y (fun w O => ?_)
 refine ae (ai ?_)
 refine gF Y Y (ltN Y) (fun b2 => ?_)
 refine gF Y Y (ltN Y) (fun b3 => ?_)
 refine FJ Y (FL (aa (ae (ai (FH (ak 0 Y Y Y) (FH (ak 1 Y Y Y) ?_))))))
 refine FH (am (h) Y ⟨S,S,FM⟩) ?_
 refine FJ Y (FL (aa (aG ?_)))
 refine aT Tryz.results132 (.tmp Y S)
theorem ED {r c:Nat} {F:Nat→Nat→Int} : VT.le (slT (.agg 2) r (fun q=>aO (dU r (fun i=>(fk c (F i):Int)) q))) (slT (.agg 2) r (fun t=>aO (nF r c F t:Int))):=dE fun q hq=>fK (by rw [rc hq])
theorem vN (r c:Nat) (F:Nat→Nat→Int) (hr:r≤12) (hc:c≤1048576) (hF : ∀ i j,pt (F i j)):Ok Tryz.prog 85 [bO r c F] (slT (.agg 2) r (fun t=>aO (nF r c F t:Int))):=by
 have hd:=fun i=>Ef c c (F i) (F i) hc hc (hF i) (hF i)
 have hd' : ∀ i,Ok Tryz.prog 130 [bw c (F i),bw c (F i)] (bj [aO (fk c (F i):Int),one (.int .i64 0)]):=fun i=>by
  have h:=hd i
  rw [if_pos Y,if_pos Y, ← wY] at h;exact h
 clear hd
 unfold bO bw at *
 refine Ok.enter Tryz.func85 Y Tryz.ntmps85 Y (fun w O => ?_)
 refine ae (ai ?_)
 refine aQ Y Y (ltN Y) (fun b1 => ?_)
 refine FJ Y (FL (aa (ae (ai (FJ Y (FL (aa (ae (ae ?_)))))))))
 refine ai (FH (aj Y) (FH (ak 0 Y Y Y) (FH (aY Y) (FI Y (FL (aa (au ?_)))))))
 refine gM (ConvM.nilSl0 (T:=37) (L := .agg 2) (φ:=fun _=>bP) _) ?_
 refine cf (Γ' := [(2,_),(3,_),(9,_),(10,_),(11,_)]) FC (SubM.refl _) ?_
 refine bk (σ:=Nat × Option Nat × Nat) (Γk := [(2,_),(9,_),(10,_)]) FC (fun s => [(11,one (.int .i64 (s.1:Nat))),(3,one (slV s.2.1 s.1 s.2.2))]) (fun s M0=>(M0.set 0 (aH s.2.1 37 (.agg 2) s.2.2 s.1 (fun q=>aO (fk c (F q):Int))))) (fun s=>s.1≤r) (fun s=>r - s.1) ((0,none,0)) (Nat.zero_le _) (by (repeat (first | exact dV.nil | refine dV.cons Y S ?_ | refine dV.cons Y CP ?_))) (.keep (a7 (fun q hq=>absurd hq (Nat.not_lt_zero _))) (.keep FG (.nil))) (fun s hs => ?_)
 refine bI (Γ' := [(11,_),(3,_),(2,_),(9,_),(10,_)]) (M' := [_,_]) Y Y ?_
 obtain ⟨i,sv,cap⟩:=s
 dsimp only at hs ⊢
 by_cases hi:i<r
 ·refine ae (ai (FH (sT X (a6 Y Y)) (FL (aa (ae (aD Y (aw (aa (ae ?_)))))))))
  refine au (ae (ai (FH (aC Y Y X) (FH (aN Y) (FJ Y (FL (aa (ae (ai ?_)))))))))
  refine FI Y (FI Y ?_)
  refine FH (am (hd' _) Y ⟨S,S,FM⟩) ?_
  refine FI Y (FH (an Y Y) (FH (an Y Y) ?_))
  refine aJ (T:=37) Y (ltN Y) (fun b6 => ?_)
  refine aB 0 Y Y Y Y Y (leN Y) Y (FJ Y (FL (aa (ai (FI Y (FH (ak 0 Y Y Y) (eH Y Y Y Y ?_)))))))
  (refine cq 1 Y Y Y (leN Y) ?_ ?_ Y (ltN Y) (fun sv24 cap24 => ?_);omega;omega)
  refine FJ Y (FL (aF (aa (ai (FH (bC _ 1 Y Y X) (FI Y (FL ?_)))))))
  refine aK ((i+1,sv24,cap24)) (hi) X FD (.drop (.keep (yn (h:=fun q=>(fk c (F q):Int)) Y) (.keep FG (.nil))))
 ·have he:i=r:=by omega
  subst he
  have hso:=ui sv cap i (fun q=>(fk c (F q):Int)) (one (.func (.func 132) #[] #[])) hr (fun x y _ _=>fO.fn (yB x y))
  refine ae (ai (FH (sF X (a6 Y Y)) (FL (aa (ae (aA Y (aV (av (av ?_)))))))))
  refine aE (aa (ae (ai (FI Y ?_))))
  refine gU (Kp := [_]) hso Y ⟨S,S,FM⟩ (List.Perm.refl _) Y Y (fun _ => ?_)
  refine FL (aa (ae (ai (FI Y (FJ Y (FL (aa (aG (bZ (t:=2) (i:=0) Y Y ?_)))))))))
  refine aT Tryz.results85 (.tmp Y (ED))
theorem CR (n:Nat) (g:Nat→Nat) (B:Nat) (hn:n≤1048576) (hB:1≤B) (hp:B^n<2^800) (hg : ∀ i,i<n→g i≤B):Ok Tryz.prog 84 [slT (.agg 2) n (fun t=>aO (g t:Int))] (aO (upN (prN n g):Int)):=by
 have h1:=kd 1 U U
 refine Ok.enter Tryz.func84 Y Tryz.ntmps84 Y (fun w O => ?_)
 refine ae (ai ?_)
 refine aJ (T:=37) Y (ltN Y) (fun b2 => ?_)
 refine FL (aa (ae (ai ?_)))
 refine FH (am (h1) Y ⟨S,FM⟩) ?_
 refine aJ (T:=37) Y (ltN Y) (fun b3 => ?_)
 refine aB 0 Y Y Y Y Y (leN Y) Y (FL (aa (ae (ae (ai (FI Y (FH (aY Y) (FI Y (FL ?_)))))))))
 refine aa (au (cf (Γ' := [(2,_),(3,_),(9,_),(10,_),(11,_)]) FC (SubM.refl _) ?_))
 refine bk (σ:=Nat) (Γk := [(2,_),(3,_),(9,_),(10,_)]) FC (fun i => [(11,one (.int .i64 (i:Nat)))]) (fun i M0=>(M0.set 0 (aX b3 37 2 [(0, .agg 2,aO (prN i g:Int))]))) (fun i=>i≤n) (fun i=>n - i) (0) (Nat.zero_le _) FD (.keep FG (.keep FG (.nil))) (fun i hi => ?_)
 refine bI (Γ' := [(11,_),(2,_),(3,_),(9,_),(10,_)]) (M' := [_,_]) Y Y ?_
 by_cases hi:i<n
 ·have hB8:=Fq hB hp X
  have hm:=fo (prN i g:Int) (g i:Int) (AP (AQ (AR hB hp hg (Nat.le_of_lt hi)))) (AP (AQ (Nat.lt_of_le_of_lt (hg i hi) hB8)))
  have hs:((prN (i+1) g:Nat):Int)=(prN i g:Int)*(g i:Int):=by rw [prN,Int.natCast_mul]
  refine ae (ai (FH (sT X (a6 Y Y)) (FL (aa (ae (aD Y (aw (aa (ae ?_)))))))))
  refine au (ae (ai (FH (aC Y Y X) (FH (aN Y) ?_))))
  refine aJ (T:=37) Y (ltN Y) (fun b5 => ?_)
  refine aB 0 Y Y Y Y Y (leN Y) Y (FL (aa (ai (FH (ak 1 Y Y Y) (FH (ak 0 Y Y Y) ?_)))))
  refine FH (am (hm) Y ⟨S,S,FM⟩) ?_
  refine aB 1 Y Y Y Y Y (leN Y) Y (FL (aF (aa (ai (FH (bC _ 1 Y Y X) (FI Y (FL ?_)))))))
  refine aK (i+1) (hi) X FD (.drop (.keep FG (.keep FG (.nil))))
 ·have he:i=n:=by omega
  subst he
  have ha:=AR hB hp hg (Nat.le_refl i)
  generalize prN i g=a at *
  have h2:=kI a
  have hs:=Ev a
  have hro:Ok Tryz.prog 101 [aO (a:Int)] (bj [aO (isq a:Int),one (.int .i64 0)]):=by
   by_cases h0:a=0
   ·subst h0;exact tL
   ·exact wJ a (isq a) ha h0 h2.1 h2.2
  have hsm:bE (isq a:Int):=AP (Nat.le_trans hs (AQ ha))
  have hm:=fo (isq a:Int) (isq a:Int) hsm hsm
  have hq:(isq a:Int)*(isq a:Int)=((isq a*isq a:Nat):Int):=(Int.natCast_mul _ _).symm
  have hc:=gX ((isq a:Int)*(isq a:Int)) (a:Int)
  have had:=kV (isq a:Int) 1 hsm nr
  unfold upN
  by_cases hlt:isq a*isq a<a
  ·have hcc:dt ((isq a:Int)*(isq a:Int)) (a:Int)<0:=by rw [hq]; unfold dt;rw [if_pos X]; decide
   rw [if_pos hlt]
   generalize dt ((isq a:Int)*(isq a:Int)) (a:Int)=cc at *
   refine ae (ai (FH (sF X (a6 Y Y)) (FL (aa (ae (aA Y (aV (av (av ?_)))))))))
   refine aE (aa (ae (ai (FH (ak 0 Y Y Y) ?_))))
   refine FH (am (hro) Y ⟨S,FM⟩) ?_
   refine FI Y (FH (an Y Y) (FH (an Y Y) ?_))
   refine aJ (T:=37) Y (ltN Y) (fun b6 => ?_)
   refine aB 0 Y Y Y Y Y (leN Y) Y (FJ Y (FL (aa (ae (ae (be 6 a4 Z U (FH (ak 0 Y Y Y) (FH (ak 0 Y Y Y) ?_))))))))
   refine FH (am (hm) Y ⟨S,S,FM⟩) ?_
   refine FH (ak 1 Y Y Y) ?_
   refine FH (am (hc) Y ⟨S,S,FM⟩) ?_
   refine FH (sT (by assumption) (a6 Y Y)) (FL (FL (aa (aD Y (be 2 a4 Z U (FH (ak 0 Y Y Y) ?_))))))
   refine FH (am (h1) Y ⟨S,FM⟩) ?_
   refine FL ?_
   refine FH (am (had) Y ⟨S,S,FM⟩) ?_
   refine aB 0 Y Y Y Y Y (leN Y) Y (FL (aa (ae (ai (FH (ak 0 Y Y Y) (aB 2 Y Y Y Y Y (leN Y) Y (FL (aa (aG ?_)))))))))
   refine aT Tryz.results84 (.cellB 2 Y Y Y (yr X))
  ·have hcc : ¬ dt ((isq a:Int)*(isq a:Int)) (a:Int)<0:=by
    rw [hq]; unfold dt;rw [if_neg X]; split <;> decide
   rw [if_neg hlt]
   generalize dt ((isq a:Int)*(isq a:Int)) (a:Int)=cc at *
   refine ae (ai (FH (sF X (a6 Y Y)) (FL (aa (ae (aA Y (aV (av (av ?_)))))))))
   refine aE (aa (ae (ai (FH (ak 0 Y Y Y) ?_))))
   refine FH (am (hro) Y ⟨S,FM⟩) ?_
   refine FI Y (FH (an Y Y) (FH (an Y Y) ?_))
   refine aJ (T:=37) Y (ltN Y) (fun b6 => ?_)
   refine aB 0 Y Y Y Y Y (leN Y) Y (FJ Y (FL (aa (ae (ae (be 6 a4 Z U (FH (ak 0 Y Y Y) (FH (ak 0 Y Y Y) ?_))))))))
   refine FH (am (hm) Y ⟨S,S,FM⟩) ?_
   refine FH (ak 1 Y Y Y) ?_
   refine FH (am (hc) Y ⟨S,S,FM⟩) ?_
   refine FH (sF (by assumption) (a6 Y Y)) (FL (FL (aa (aA Y (aw (aa (ae (ai (FH (ak 0 Y Y Y) ?_)))))))))
   refine aB 2 Y Y Y Y Y (leN Y) Y (FL (aa (aG ?_)))
   refine aT Tryz.results84 (.cellB 2 Y Y Y S)
end Tor
end
section
namespace Tor
open Go Go.RowKit Go.Proofs
attribute [local irreducible] J PJ aM one slT bW bH bj exT cn eP aX aH slV VT.le Ret bP
attribute [local irreducible] aO
theorem yC (r c:Nat) (F:Nat→Nat→Int) (k:Int) (hk:k≤0):Ok Tryz.prog 53 [bO r c F,one (.int .i64 k)] (aO 1):=by
 have h0:=kd 1 U U
 unfold bO
 refine Ok.enter Tryz.func53 Y Tryz.ntmps53 Y (fun w O => ?_)
 refine ae (ai ?_)
 refine aQ Y Y (ltN Y) (fun b2 => ?_)
 refine aJ (T:=37) Y (ltN Y) (fun b4 => ?_)
 refine FL (aa (ae (au (ae (ai (FI Y (FH (sT (by assumption) (ob Y Y)) (FJ Y (FL ?_)))))))))
 refine aa (aD Y (ae (ai ?_)))
 refine FH (am (h0) Y ⟨S,FM⟩) ?_
 refine aB 0 Y Y Y Y Y (leN Y) Y (FL (aa (aG (bJ (aS ?_)))))
 refine aT Tryz.results53 (.cellB 0 Y Y Y S)
theorem A4 (r c:Nat) (F:Nat→Nat→Int) (k B:Nat) (hr:r≤12) (hc:c≤1048576) (hk0:0<k) (hk:k≤r) (hF : ∀ i j,pt (F i j)) (hB:1≤B) (hn:B^r<2^800) (hl : ∀ i,i<r→fk c (F i)≤B) :
  Ok Tryz.prog 53 [bO r c F,one (.int .i64 (k:Nat))] (aO (upN (prN k (nF r c F)):Int)):=by
 have hle:=vN r c F hr hc hF
 have hro:=CR k (nF r c F) B X hB (Nat.lt_of_le_of_lt (Nat.pow_le_pow_right hB hk) hn) (fun i hi=>w5 hl X)
 unfold bO at *
 refine Ok.enter Tryz.func53 Y Tryz.ntmps53 Y (fun w O => ?_)
 refine ae (ai ?_)
 refine aQ Y Y (ltN Y) (fun b2 => ?_)
 refine aJ (T:=37) Y (ltN Y) (fun b4 => ?_)
 refine FL (aa (ae (au (ae (ai (FI Y (FH (sF X (ob Y Y)) (FJ Y (FL ?_)))))))))
 refine aa (aA Y (ae (ai (FI Y (FH (aj Y) (FH (ak 1 Y Y Y) (FH (aY Y) (FH (sF X (cU Y Y)) (FJ Y ?_)))))))))
 refine FL (aa (aA Y (aw (aF (aa (ae (ai (FH (aI 1 Y Y) ?_))))))))
 refine FH (am (hle) Y ⟨S,FM⟩) ?_
 refine FI Y ?_
 refine FH (gS Y Y Y Y (fun _=>rfl) X X X X) ?_
 refine iG (t:=19) (ψ:=slT (.agg 2) k (fun t=>aO (nF r c F t:Int))) Y (cI X (fun q hq=>by rw [show Int.toNat 0+q=q by simp])) ?_
 refine FH (am (hro) Y ⟨S,FM⟩) ?_
 refine aB 0 Y Y Y Y Y (leN Y) Y (FL (aa (aG ?_)))
 refine aT Tryz.results53 (.cellB 0 Y Y Y S)
end Tor
end
