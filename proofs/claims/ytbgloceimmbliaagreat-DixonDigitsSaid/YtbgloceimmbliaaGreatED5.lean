/-
  Theorems that the proofs of laws of this seat rest on.
  No condition.
-/
import Derived.Test.YtbgloceimmbliaaGreatED4
set_option maxHeartbeats 20000000
set_option linter.unusedVariables false
set_option linter.unusedSimpArgs false
section
namespace Tor
open Go Go.RowKit Go.Proofs
def g7:Nat→Nat→Nat
 | 0, _ => 0
 | f + 1, x => if x = 0 then 0 else g7 f (x / 2) + 1
def gh (x:Nat):Nat:=g7 64 x
theorem g8 : ∀ (f x:Nat),x<2^f→x<2^g7 f x∧(x=0→g7 f x=0)∧(x≠0→0<g7 f x∧2^(g7 f x - 1)≤x)∧g7 f x≤f
 | 0, x, h => by simp at h; subst h; simp [g7]
 | f + 1, x, h => by
  rw [g7]
  split
  ·rename_i h0;subst h0;simp
  ·rename_i h0
   have h1:x / 2<2^f:=by rw [Nat.pow_succ] at h;omega
   obtain ⟨i1,i2,i3,i4⟩:=g8 f (x / 2) h1
   refine ⟨by rw [Nat.pow_succ]; omega,fun h=>absurd h h0,fun _=>⟨by omega,?_⟩,by omega⟩
   rw [Nat.add_sub_cancel]
   by_cases h2:x / 2=0
   ·rw [i2 h2]; simp;omega
   ·obtain ⟨j1,j2⟩:=i3 h2
    obtain ⟨m,hm⟩ : ∃ m,g7 f (x / 2)=m+1:=⟨g7 f (x / 2) - 1,by omega⟩
    rw [hm] at j2 ⊢
    rw [Nat.add_sub_cancel] at j2
    rw [Nat.pow_succ]; omega
theorem qN {x:Nat} (h:x<2^64):x<2^gh x:=(g8 64 x h).1
theorem qO {x:Nat} (h:x<2^64) (h0:x≠0):0<gh x∧2^(gh x - 1)≤x:=(g8 64 x h).2.2.1 h0
theorem wy {x n:Nat} (h:x<2^64) (h1:x<2^n) (h2:n=0∨2^(n - 1)≤x):gh x=n:=by
 obtain ⟨i1,i2,i3,_⟩:=g8 64 x h
 show g7 64 x=n
 by_cases h0:x=0
 ·rw [i2 h0]
  rcases h2 with h2 | h2
  ·exact h2.symm
  ·subst h0;have:=Nat.two_pow_pos (n - 1);omega
 ·obtain ⟨j1,j2⟩:=i3 h0
  rcases Nat.lt_trichotomy (g7 64 x) n with h3 | h3 | h3
  ·have:=Nat.pow_le_pow_right (n:=2) S (show g7 64 x≤n - 1 by omega)
   rcases h2 with h2 | h2
   ·omega
   ·omega
  ·exact h3
  ·have:=Nat.pow_le_pow_right (n:=2) S (show n≤g7 64 x - 1 by omega)
   omega
theorem j8 {x n:Nat} (h:x<2^n) (hn:n≤64):gh x≤n:=by
 have hx:x<2^64:=Nat.lt_of_lt_of_le h (Nat.pow_le_pow_right S hn)
 by_cases h0:x=0
 ·have:=(g8 64 x hx).2.1 h0
  unfold gh;omega
 ·obtain ⟨j1,j2⟩:=qO hx h0
  rcases Nat.lt_or_ge n (gh x) with h3 | h3
  ·have:=Nat.pow_le_pow_right (n:=2) S (show n≤gh x - 1 by omega)
   omega
  ·exact h3
theorem od {x k:Nat} (h:x<2^64) (hk:2^k≤x):gh x=k+gh (x / 2^k):=by
 have hp:=Nat.two_pow_pos k
 have hy:x / 2^k<2^64:=Nat.lt_of_le_of_lt (Nat.div_le_self _ _) h
 have hy0:x / 2^k≠0:=by
  have:=(Nat.le_div_iff_mul_le hp (x:=1) (y:=x)).2 X;omega
 obtain ⟨j1,j2⟩:=qO hy hy0
 have j3:=qN hy
 refine wy h ?_ (.inr ?_)
 ·rw [Nat.pow_add]
  have:=Nat.lt_mul_div_succ x hp
  exact Nat.lt_of_lt_of_le this (Nat.mul_le_mul_left _ j3)
 ·have e:k+gh (x / 2^k) - 1=(gh (x / 2^k) - 1)+k:=by omega
  rw [e,Nat.pow_add]
  exact Nat.le_trans (Nat.mul_le_mul_right _ j2) (Nat.div_mul_le_self x (2^k))
theorem oe {s:ByteArray} (h:((List.range 256).all fun i=>(s[i]?).map UInt8.toNat == some (gh i))=true) {i:Nat} (hi:i<256):(s[i]?).map UInt8.toNat=some (gh i):=by
 have:=List.all_eq_true.1 h i (List.mem_range.2 hi)
 simpa using this
attribute [local irreducible] J PJ aJ one slT bQ bC bv exT bZ eP aP aI slV VT.le Ret bJ
theorem sc (x:Nat) (hx:x<4294967296):Ok Tryz.prog 168 [one (.int .u32 x)] (one (.int .i64 (gh x))):=by
 refine Ok.enter Tryz.func168 Y Tryz.ntmps168 Y (fun w O => ?_)
 have key : ∀ y:Nat,y<256→gh y≤8:=fun y hy=>j8 (n:=8) X S
 by_cases h1:65536≤x
 ·have e1:=od (k:=16) (x:=x) X X
  by_cases h2:256≤x / 2^16
  ·have e2:=od (k:=8) (x:=x / 2^16) X X
   have k2:=key (x / 2^16 / 2^8) X
   refine ae (ai (En Y (Ep (aa (ae (ae (ai (Em Y (El (sT X (fh Y Y)) ?_)))))))))
   refine Ep (aa (aH Y (ae (ai (Em Y (El (kC (s:=16) Y Y S) (En Y (Ep (aa ?_)))))))))
   refine ai (En Y (Ep (aa (ae (ae (ai (Em Y (El (sT X (fh Y Y)) (Ep ?_)))))))))
   refine aa (aH Y (ae (ai (Em Y (El (kC (s:=8) Y Y S) (En Y (Ep (aa (ai ?_)))))))))
   refine Em Y (El (ci Y Y (aO X X)) (En Y (Ep (aa (ae (ai (Em Y (Em Y (El (ll Y X X) ?_)))))))))
   refine El (gP Z Y Y (oe U X)) (El (dG Y X X) (El (ci Y Y (aO X X)) (En Y (Ep (aa (aF ?_))))))
   refine aV Tryz.results168 (.tmp Y (aq (by congr 1;omega)))
  ·have k2:=key (x / 2^16) X
   refine ae (ai (En Y (Ep (aa (ae (ae (ai (Em Y (El (sT X (fh Y Y)) ?_)))))))))
   refine Ep (aa (aH Y (ae (ai (Em Y (El (kC (s:=16) Y Y S) (En Y (Ep (aa ?_)))))))))
   refine ai (En Y (Ep (aa (ae (ae (ai (Em Y (El (sF X (fh Y Y)) (Ep ?_)))))))))
   refine aa (aB Y (az (aa (ae (ai (Em Y (Em Y (El (ll Y X X) (El (gP Z Y Y (oe U X)) ?_)))))))))
   refine El (dG Y X X) (El (ci Y Y (aO X X)) (En Y (Ep (aa (aF ?_)))))
   refine aV Tryz.results168 (.tmp Y (aq (by congr 1;omega)))
 ·by_cases h2:256≤x
  ·have e2:=od (k:=8) (x:=x) X X
   have k2:=key (x / 2^8) X
   refine ae (ai (En Y (Ep (aa (ae (ae (ai (Em Y (El (sF X (fh Y Y)) ?_)))))))))
   refine Ep (aa (aB Y (az (aa (ae (ae (ai (Em Y (El (sT X (fh Y Y)) ?_)))))))))
   refine Ep (aa (aH Y (ae (ai (Em Y (El (kC (s:=8) Y Y S) (En Y (Ep (aa ?_)))))))))
   refine ai (Em Y (El (ci Y Y (aO X X)) (En Y (Ep (aa (ae (ai (Em Y (Em Y ?_)))))))))
   refine El (ll Y X X) (El (gP Z Y Y (oe U X)) (El (dG Y X X) (El (ci Y Y (aO X X)) (En Y (Ep (aa (aF ?_)))))))
   refine aV Tryz.results168 (.tmp Y (aq (by congr 1;omega)))
  ·have k2:=key x X
   refine ae (ai (En Y (Ep (aa (ae (ae (ai (Em Y (El (sF X (fh Y Y)) ?_)))))))))
   refine Ep (aa (aB Y (az (aa (ae (ae (ai (Em Y (El (sF X (fh Y Y)) ?_)))))))))
   refine Ep (aa (aB Y (az (aa (ae (ai (Em Y (Em Y (El (ll Y X X) ?_)))))))))
   refine El (gP Z Y Y (oe U X)) (El (dG Y X X) (El (ci Y Y (aO X X)) (En Y (Ep (aa (aF ?_))))))
   refine aV Tryz.results168 (.tmp Y (aq (by congr 1;omega)))
theorem AH (x:Nat) (hx:x<4294967296):Ok Tryz.prog 164 [one (.int .u32 x)] (one (.int .i64 ((32 - gh x:Nat):Int))):=by
 have h:=j8 (n:=32) (x:=x) X S
 refine Ok.enter Tryz.func164 Y Tryz.ntmps164 Y (fun w O => ?_)
 refine ae (ai (En Y (Ep (aa (ae (ai (Em Y ?_)))))))
 refine El (am (sc _ (by assumption)) Y ⟨H,Er⟩) ?_
 refine El (eo Y Y (aO X X)) (En Y (Ep (aa (aF ?_))))
 refine aV Tryz.results164 (.tmp Y (aq (by congr 1;omega)))
theorem se (i:Nat):4294967296^i=2^(32*i):=by rw [Nat.pow_mul]
theorem kI {l:List Nat} (h:bF l) (i:Nat):lv (l.take i)<2^(32*i):=by
 have h1:=gV (h.take i)
 rw [← se]
 exact Nat.lt_of_lt_of_le h1 (Nat.pow_le_pow_right S (by simp;omega))
theorem tX {d e i:Nat} (hd:d<4294967296) (hb:e<2^(32*i)) (hi:i≤1):d*2^(32*i)+e<18446744073709551616:=by
 rcases (show i=0∨i=1 by omega) with rfl | rfl
 ·rw [show 2^(32*0)=1 by simp] at hb ⊢; omega
 ·rw [show 2^(32*1)=4294967296 by simp] at hb ⊢
  have h1:d*4294967296+e<(d+1)*4294967296:=by rw [Nat.add_mul]; exact Nat.add_lt_add_left (by rw [Nat.one_mul]; exact hb) _
  exact Nat.lt_of_lt_of_le h1 (Nat.le_trans (Nat.mul_le_mul_right _ hd) (Nat.le_of_eq Y))
theorem np (l:List Nat) (hl:bF l) (h2:l.length≤2):Ok Tryz.prog 149 [co l] (one (.int .u64 (lv l))):=by
 refine Ok.enter Tryz.func149 Y Tryz.ntmps149 Y (fun w O => ?_)
 refine ae (ai (En Y (Ep (aa (ae (ai (En Y (Ep (aa ?_)))))))))
 refine ae (ae (ai (Em Y (El (aW Y) (Em Y (Ep (aa (au (cp (Γ' := [(2,_),(3,_),(6,_),(7,_),(8,_)]) Eg (SubM.refl _) ?_)))))))))
 refine bD (σ:=Nat) (Γk := [(2,_),(6,_),(7,_)]) Eg (fun i => [(8,one (.int .i64 (i:Nat))),(3,one (.int .u64 (lv (l.take i))))]) (fun i M0=>M0) (fun i=>i≤l.length) (fun i=>l.length - i) (0) (Nat.zero_le _) Eh (.nil) (fun i hi => ?_)
 refine bU (Γ' := [(8,_),(3,_),(2,_),(6,_),(7,_)]) (M' := []) Y Y (ae (ai (El (a7 Y Y) (Ep (aa (ae ?_))))))
 refine qr Y (fun hc => ?_) (fun hc => ?_)
 ·have hi1:i≤1:=by omega
  have hd:=a9 hl i
  have hb:=kI hl i
  have hab:=tX hd hb hi1
  have ha:l.getD i 0*2^(32*i)<18446744073709551616:=Nat.lt_of_le_of_lt (Nat.le_add_right _ _) hab
  have hn:lv (l.take i)+l.getD i 0*2^(32*i)=lv (l.take (i+1)):=by
   rw [bM X,se,Nat.mul_comm]
  refine az (aa (ae (au (ae (ai (Em Y (El (aC Y Y X) (El (aM Y) (En Y ?_)))))))))
  refine En Y (Ep (aa (ai (Em Y (Em Y (El (bT Y X) (Em Y (El (x4 32 _ Y Y X) (El (kB Y Y X X) ?_)))))))))
  refine El (Cc Y Y X X) (En Y (Ep (aD (aa (ai (El (bI _ 1 Y Y X) (Em Y (Ep ?_))))))))
  rw [hn]
  refine aR (i+1) X X Eh (.nil)
 ·have e:i=l.length:=by omega
  subst e
  rw [List.take_length]
  refine aX (av (av (aE (aa (ae (ai (Em Y (En Y (Ep ?_)))))))))
  refine aa (aF ?_)
  refine aV Tryz.results149 (.tmp Y H)
end Tor
end
section
namespace Tor
open Go Go.RowKit Go.Proofs
structure ShortR (l:List Nat) (d:Nat) (s:List Nat × Nat × Nat):Prop where
 le:s.2.1≤l.length
 len:s.1.length=l.length
 lim:bF s.1
 r:s.2.2<d
 zero : ∀ k,k<s.2.1→s.1.getD k 0=0
 val:lv l=lv (l.take s.2.1)+(lv s.1*d+4294967296^s.2.1*s.2.2)
theorem ShortR.start {l:List Nat} {d:Nat} (hd:0<d):ShortR l d (List.replicate l.length 0,l.length,0) :=
 ⟨Nat.le_refl _,by simp,bF.replicate _,hd,fun k _=>cx _ _,by simp [dT]⟩
theorem ShortR.bound {x r d:Nat} (hx:x<4294967296) (hr:r<d) (hd:d<4294967296):r*4294967296+x<18446744073709551616∧(r*4294967296+x) / d<4294967296:=by
 have h1:r*4294967296+x<d*4294967296:=by omega
 exact ⟨by omega,Nat.div_lt_of_lt_mul h1⟩
theorem ShortR.step {l:List Nat} {d:Nat} {z:List Nat} {n r:Nat} (h:ShortR l d (z,n+1,r)) (hl:bF l) (hd:d<4294967296) :
  ShortR l d (z.set n ((r*4294967296+l.getD n 0) / d),n,(r*4294967296+l.getD n 0) % d):=by
 have hn:n<l.length:=h.le
 have hz:n<z.length:=by have:=h.len;simp only at this;omega
 have hx:=a9 hl n
 have hr:r<d:=h.r
 have hb:=ShortR.bound hx hr hd
 have h0:z.getD n 0=0:=h.zero n (Nat.lt_succ_self n)
 have hs:=fO (l:=z) (v:=(r*4294967296+l.getD n 0) / d) hz
 rw [h0,Nat.mul_zero,Nat.add_zero] at hs
 refine ⟨Nat.le_of_lt hn,by rw [List.length_set]; exact h.len,bF.set h.lim hb.2,Nat.mod_lt _ X,fun k hk => ?_,?_⟩
 ·simp only at hk ⊢
  rw [d5 hz,if_neg X]; exact h.zero k (Nat.lt_succ_of_lt hk)
 ·have hv:lv l=lv (l.take (n+1))+(lv z*d+4294967296^(n+1)*r):=h.val
  simp only
  rw [hs,hv,bM hn]
  have e:=Nat.div_add_mod (r*4294967296+l.getD n 0) d
  generalize (r*4294967296+l.getD n 0) / d=q at *
  generalize (r*4294967296+l.getD n 0) % d=m at *
  generalize l.getD n 0=x at *
  rw [Nat.pow_succ]
  generalize 4294967296^n=B at *
  have e2:B*(d*q+m)=B*(r*4294967296+x):=by rw [e]
  have e3:(lv z+B*q)*d=lv z*d+B*(d*q):=by rw [Nat.add_mul,Nat.mul_assoc,Nat.mul_comm q d]
  have e4:B*4294967296*r=B*(r*4294967296):=by rw [Nat.mul_assoc,Nat.mul_comm r]
  rw [e3,e4]
  rw [Nat.mul_add,Nat.mul_add] at e2
  omega
theorem ShortR.finish {l:List Nat} {d:Nat} {z:List Nat} {r:Nat} (h:ShortR l d (z,0,r)):lv z=lv l / d∧r=lv l % d:=by
 have hv:lv l=lv (l.take 0)+(lv z*d+4294967296^0*r):=h.val
 have hr:r<d:=h.r
 have e:lv l=lv z*d+r:=by simpa [lv] using hv
 rw [e]
 constructor
 ·rw [Nat.mul_comm,Nat.mul_add_div X,Nat.div_eq_of_lt hr]; rfl
 ·rw [Nat.mul_comm,Nat.mul_add_mod,Nat.mod_eq_of_lt hr]
theorem qP {b:Option Nat} {T:TypeId} {n cap:Nat} {z:List Nat} {k v v':Nat} (hk:k<z.length) (hv:v'=v):Own.le (aI b T .one n cap (upd (fun q=>one (.int .u32 (z.getD q 0:Nat))) k (one (.int .u32 (v':Nat))))) (aI b T .one n cap (fun q=>one (.int .u32 ((z.set k v).getD q 0:Nat)))):=by
 subst hv
 exact bg (fun q _=>by unfold upd;rw [d5 hk]; split <;> rfl)
attribute [local irreducible] J PJ aJ one slT bQ bC bv exT bZ eP aP aI slV VT.le Ret bJ
theorem yx (l:List Nat) (d:Nat) (hl:bF l) (h1:l.length≤1099511627776) (hd0:0<d) (hd:d<4294967296):Ok Tryz.prog 163 [co l,one (.int .u32 (d:Nat))] (bv [lJ (lv l / d),one (.int .u32 ((lv l % d:Nat):Int))]):=by
 refine Ok.enter Tryz.func163 Y Tryz.ntmps163 Y (fun w O => ?_)
 refine ae (ai (En Y (En Y (Ep (aa (ae (ai (Em Y (El (aW Y) ?_)))))))))
 refine bV l.length l.length Y Y Y Y (Nat.le_refl _) Y Y X Y Y (fun bz => ?_)
 refine En Y (Ep (aa (ae (ai (En Y (Ep (aa (ae (ae ?_)))))))))
 refine ai (Em Y (El (aW Y) (El (eo Y Y (aO X X)) (En Y (Ep (aa (au (cp (Γ' := [(0,_),(1,_),(4,_),(5,_),(6,_),(7,_),(8,_)]) Eg (SubM.refl _) ?_))))))))
 refine bD (σ:=List Nat × Nat × Nat) (Γk := [(0,_),(1,_),(4,_),(5,_),(6,_)]) Eg (fun s => [(8,one (.int .i64 ((s.2.1:Nat) - 1:Int))),(7,one (.int .u64 (s.2.2:Nat)))]) (fun s M0=>(M0.set 0 (aI (some bz) 86 .one l.length l.length (fun q=>one (.int .u32 (s.1.getD q 0:Nat)))))) (fun s=>ShortR l d s) (fun s=>s.2.1) ((List.replicate l.length 0,l.length,0)) (ShortR.start hd0) Eh (.keep (bg (fun q _=>by rw [cx]; rfl)) (.nil)) (fun s hs => ?_)
 refine bU (Γ' := [(8,_),(7,_),(0,_),(1,_),(4,_),(5,_),(6,_)]) (M' := [_]) Y Y ?_
 obtain ⟨z,n,r⟩:=s
 dsimp only at hs ⊢
 refine ae (ae (ai (Em Y (El (fh Y Y) (Ep (aa ?_))))))
 cases n with
 | zero =>
  obtain ⟨f1,f2⟩:=hs.finish
  have hlen:z.length=l.length:=hs.len
  have hr:r<d:=hs.r
  rw [← f1, ← f2]
  refine nl Y X (aX (av (av (aE (aa (ae (ai (Em Y (Em Y ?_)))))))))
  refine El (cH Y) (En Y (En Y (Ep (aa (aF (cq (t:=4) (i:=0) Y Y ?_))))))
  refine cT Tryz.results163 (.tmp Y (VT.le_trans (cB (m:=z.length) (ψ:=fun i=>one (.int .u32 (z.getD i 0:Nat))) hlen.symm (fun q hq=>rfl)) (fv (l:=z) hs.lim Y))) (.tmp Y (aq (by congr 1;omega)))
 | succ n =>
  have hx:=a9 hl n
  have hr:r<d:=hs.r
  have hb:=ShortR.bound hx hr hd
  have hst:=hs.step hl hd
  have hn:n<l.length:=hs.le
  have hzn:n<z.length:=by have:=hs.len;dsimp only at this;omega
  have en:((n+1:Nat):Int) - 1=(n:Nat):=by omega
  rw [en]
  refine nk Y X (az (aa (ae (au (ae (ai (Em Y (El (kB (s:=32) Y Y X X) (Em Y ?_)))))))))
  refine Em Y (El (aC Y Y X) (El (aM Y) (El (bT Y X) (El (kA Y Y X X) (En Y (Ep (aa (ae (ai ?_)))))))))
  refine Em Y (Em Y (Em Y (Em Y (El (bT Y X) (El (jx Y Y X X) (El (cH Y) (El (ao Y Y X) ?_)))))))
  (refine aw 0 Y Y Y ?_ Y ?_;omega)
  refine Ep (aa (ai (Em Y (Em Y (El (bT Y X) (El (eK _ Y Y Y X) (En Y (Ep (aD ?_)))))))))
  refine aa (ai (Em Y (El (eo Y Y (aO X X)) (En Y (Ep ?_)))))
  refine aR ((z.set n ((r*4294967296+l.getD n 0) / d),n,(r*4294967296+l.getD n 0) % d)) (hst) (by (simp only []; omega)) Eh (.keep (qP hzn (Nat.mod_eq_of_lt hb.2)) (.nil))
end Tor
end
section
namespace Tor
open Go Go.RowKit Go.Proofs
structure ShiftR (l:List Nat) (s:Nat) (p:List Nat × Nat × Nat):Prop where
 le:p.2.1≤l.length
 len:p.1.length=l.length+1
 lim:bF p.1
 c:p.2.2<2^s
 zero : ∀ k,p.2.1≤k→p.1.getD k 0=0
 val:lv p.1+4294967296^p.2.1*p.2.2=lv (l.take p.2.1)*2^s
theorem ShiftR.start (l:List Nat) (s:Nat):ShiftR l s (List.replicate (l.length+1) 0,0,0) :=
 ⟨Nat.zero_le _,by simp,bF.replicate _,Nat.two_pow_pos s,fun k _=>cx _ _,by simp [dT,lv]⟩
theorem ShiftR.bound {d c s:Nat} (hd:d<4294967296) (hc:c<2^s) (hs:s<32):d*2^s+c<4294967296*2^s∧d*2^s+c<18446744073709551616∧d*2^s<18446744073709551616∧2^s<4294967296:=by
 have h1:(d+1)*2^s≤4294967296*2^s:=Nat.mul_le_mul_right _ hd
 have h2:2^s≤2^31:=Nat.pow_le_pow_right S X
 rw [Nat.add_mul,Nat.one_mul] at h1
 have h3:(2:Nat)^31=2147483648:=rfl
 generalize d*2^s=x at *
 generalize 2^s=y at *
 omega
theorem ShiftR.step {l:List Nat} {s:Nat} {z:List Nat} {i c:Nat} (h:ShiftR l s (z,i,c)) (hl:bF l) (hs:s<32) (hi:i<l.length) :
  ShiftR l s (z.set i ((c+l.getD i 0*2^s) % 4294967296),i+1,(c+l.getD i 0*2^s) / 4294967296):=by
 have hlen:z.length=l.length+1:=h.len
 have hz:i<z.length:=by omega
 have hc:c<2^s:=h.c
 have hb:=ShiftR.bound (a9 hl i) hc hs
 have h0:z.getD i 0=0:=h.zero i (Nat.le_refl _)
 have hv:lv z+4294967296^i*c=lv (l.take i)*2^s:=h.val
 have hse:=fO (l:=z) (v:=(c+l.getD i 0*2^s) % 4294967296) hz
 rw [h0,Nat.mul_zero,Nat.add_zero] at hse
 refine ⟨hi,by rw [List.length_set]; exact hlen,bF.set h.lim (Nat.mod_lt _ S),?_,fun k hk => ?_,?_⟩
 ·show (c+l.getD i 0*2^s) / 4294967296<2^s
  exact Nat.div_lt_of_lt_mul X
 ·simp only at hk ⊢
  rw [d5 hz,if_neg X]; exact h.zero k (by show i≤k;omega)
 ·show lv (z.set i _)+4294967296^(i+1)*_=lv (l.take (i+1))*2^s
  dsimp only
  rw [hse,bM hi,Nat.pow_succ,Nat.add_mul, ← hv]
  generalize l.getD i 0=x at *
  generalize 2^s=p at *
  have e:=Nat.div_add_mod (c+x*p) 4294967296
  generalize (c+x*p) / 4294967296=q at *
  generalize (c+x*p) % 4294967296=m at *
  generalize 4294967296^i=B at *
  have e2:B*(4294967296*q+m)=B*(c+x*p):=by rw [e]
  rw [Nat.mul_add,Nat.mul_add, ← Nat.mul_assoc, ← Nat.mul_assoc] at e2
  omega
theorem ShiftR.finish {l:List Nat} {s:Nat} {z:List Nat} {c:Nat} (h:ShiftR l s (z,l.length,c)) (hs:s<32) :
  (z.set l.length c).length=l.length+1∧bF (z.set l.length c)∧lv (z.set l.length c)=lv l*2^s∧c<4294967296∧l.length<z.length:=by
 have hlen:z.length=l.length+1:=h.len
 have hc:c<2^s:=h.c
 have hb:=ShiftR.bound (d:=0) S hc hs
 have h0:z.getD l.length 0=0:=h.zero _ (Nat.le_refl _)
 have hv:lv z+4294967296^l.length*c=lv (l.take l.length)*2^s:=h.val
 have hse:=fO (l:=z) (k:=l.length) (v:=c) X
 rw [h0,Nat.mul_zero,Nat.add_zero] at hse
 rw [List.take_length] at hv
 exact ⟨by rw [List.length_set]; exact hlen,bF.set h.lim X,by rw [hse,hv],by omega,by omega⟩
abbrev fQ (z:List Nat):Nat→VT:=fun q=>one (.int .u32 (z.getD q 0:Nat))
theorem gi {b:Option Nat} {T:TypeId} {n cap:Nat} {z:List Nat} {k v v':Nat} (hk:k<z.length) (hv:v'=v):Own.le (aI b T .one n cap (upd (fQ z) k (one (.int .u32 (v':Nat))))) (aI b T .one n cap (fQ (z.set k v))):=qP hk hv
abbrev qQ (l:List Nat) (s:Nat):Type := {p:Nat × List Nat // p.2.length=l.length+1∧bF p.2∧lv p.2=lv l*2^s}
attribute [local irreducible] J PJ aJ one slT bQ bC bv exT bZ eP aP aI slV VT.le Ret bJ
theorem sf (l:List Nat) (s:Nat) (hl:bF l) (h1:l.length≤1099511627776) (hs:s<32):OkM Tryz.prog 165 [co l,one (.int .i64 (s:Nat))] (fun p:qQ l s=>one (slV (some p.1.1) (l.length+1) (l.length+1))) (fun p => [aI (some p.1.1) 86 .one (l.length+1) (l.length+1) (fQ p.1.2)]):=by
 refine OkM.enter Tryz.func165 Y Tryz.ntmps165 Y (fun w O => ?_)
 refine ae (ai (En Y (Ep (aa (ae (ai (Em Y (El (aW Y) (El (bI _ 1 Y Y X) ?_)))))))))
 refine bV (l.length+1) (l.length+1) Y Y (by simp) (by simp) (Nat.le_refl _) Y Y X Y Y (fun bz => ?_)
 refine En Y (Ep (aa (ae (ai (En Y (Ep (aa (ae (ae ?_)))))))))
 refine ai (Em Y (El (aW Y) (Em Y (Ep (aa (au (cp (Γ' := [(0,_),(1,_),(4,_),(5,_),(6,_),(13,_),(14,_),(15,_)]) Eg (SubM.refl _) ?_)))))))
 refine bD (σ:=List Nat × Nat × Nat) (Γk := [(0,_),(1,_),(4,_),(5,_),(13,_),(14,_)]) Eg (fun p => [(15,one (.int .i64 (p.2.1:Nat))),(6,one (.int .u64 (p.2.2:Nat)))]) (fun p M0=>(M0.set 0 (aI (some bz) 86 .one (l.length+1) (l.length+1) (fQ p.1)))) (fun p=>ShiftR l s p) (fun p=>l.length - p.2.1) ((List.replicate (l.length+1) 0,0,0)) (ShiftR.start l s) Eh (.keep (bg (fun q _=>by unfold fQ;rw [cx]; rfl)) (.nil)) (fun p hp => ?_)
 refine bU (Γ' := [(15,_),(6,_),(0,_),(1,_),(4,_),(5,_),(13,_),(14,_)]) (M' := [_]) Y Y ?_
 obtain ⟨z,i,c⟩:=p
 dsimp only at hp ⊢
 refine ae (ai (El (a7 Y Y) (Ep (aa (ae ?_)))))
 refine qr Y (fun hcc => ?_) (fun hcc => ?_)
 ·have hc:c<2^s:=hp.c
  have hi:i<l.length:=by omega
  have hb:=ShiftR.bound (a9 hl i) hc hs
  have hst:=hp.step hl hs hi
  have hx:=a9 hl i
  have hzn:i<z.length:=by have:=hp.len;dsimp only at this;omega
  refine az (aa (ae (au (ae (ai (Em Y (El (aC Y Y X) (El (aM Y) (En Y ?_)))))))))
  refine En Y (Ep (aa (ae (ai (Em Y (Em Y (El (bT Y X) (Em Y (El (kB Y Y X X) ?_)))))))))
  refine El (Cc Y Y X X) (En Y (Ep (aa (ae (ai (Em Y (Em Y (Em Y (El (cH Y) ?_)))))))))
  refine El (ao Y Y X) ?_
  (refine aw 0 Y Y Y ?_ Y ?_;omega)
  refine Ep (aa (ai (Em Y (El (gv Y) (En Y (Ep (aD (aa (ai ?_)))))))))
  refine El (bI _ 1 Y Y X) (Em Y (Ep ?_))
  refine aR ((z.set i ((c+l.getD i 0*2^s) % 4294967296),i+1,(c+l.getD i 0*2^s) / 4294967296)) (hst) (by (simp only []; omega)) Eh (.keep (gi hzn Y) (.nil))
 ·have e:i=l.length:=by have:=hp.le;dsimp only at this;omega
  subst e
  obtain ⟨f1,f2,f3,f4,f5⟩:=hp.finish hs
  have hc:c<2^s:=hp.c
  refine aX (av (av (aE (aa (ae (ai (Em Y (Em Y (El (aW Y) ?_)))))))))
  refine Em Y (El (cH Y) (El (ao Y Y X) ?_))
  (refine aw 0 Y Y Y ?_ Y ?_;omega)
  refine Ep (aa (ae (ai (Em Y (En Y (Ep (aa (aF ?_))))))))
  refine ks (⟨(bz,z.set l.length c),f1,f2,f3⟩:qQ l s) Tryz.results165 (.tmp Y H) (.keep (gi f5 (Nat.mod_eq_of_lt f4)) .nil)
end Tor
end
section
namespace Tor
def win (W:List Nat) (j m:Nat):List Nat:=(W.drop j).take m
theorem vm {W:List Nat} {j m:Nat} (h:j+m≤W.length):(win W j m).length=m:=by unfold win;simp;omega
theorem g9 {W:List Nat} {j m i:Nat} (h:i<m):(win W j m).getD i 0=W.getD (j+i) 0:=by
 unfold win;simp [List.getD,List.getElem?_take,h]
theorem lP {W:List Nat} {j m i x:Nat} (h:i<m):win (W.set (j+i) x) j m=(win W j m).set i x:=by
 unfold win;rw [List.drop_set,if_neg X,Nat.add_sub_cancel_left,List.take_set]
theorem bF.win {W:List Nat} (h:bF W) (j m:Nat):bF (win W j m):=fun d hd=>h d (List.mem_of_mem_drop (List.mem_of_mem_take hd))
theorem AI {l:List Nat} {k:Nat} (h:l.length=k+2):lv l=lv (l.take k)+4294967296^k*(l.getD k 0+4294967296*l.getD (k+1) 0):=by
 have e:l=l.take (k+2):=by rw [List.take_of_length_le X]
 conv=>lhs;rw [e]
 rw [bM X,bM X,Nat.pow_succ,Nat.mul_add,Nat.mul_assoc]; omega
theorem AJ {l:List Nat} {k:Nat} (h:l.length=k+3):lv l=lv (l.take k)+4294967296^k*(l.getD k 0+4294967296*(l.getD (k+1) 0+4294967296*l.getD (k+2) 0)):=by
 have e:l=l.take (k+3):=by rw [List.take_of_length_le X]
 conv=>lhs;rw [e]
 rw [bM X,bM X,bM X]
 simp only [Nat.pow_succ,Nat.mul_add,Nat.mul_assoc]; omega
structure Gss (Ee V B P h v2 top u2:Nat):Prop where
 P0:0<P
 iv1:(h*B+v2)*P≤V
 iv2:V<(h*B+v2+1)*P
 iu1:(top*B+u2)*P≤Ee
 iu2:Ee<(top*B+u2+1)*P
 l2:v2<B
 m2:u2<B
 h0:0<h
 lt:Ee<V*B
theorem Gss.V0 {Ee V B P h v2 top u2:Nat} (g:Gss Ee V B P h v2 top u2):0<V:=by
 rcases Nat.eq_zero_or_pos V with h | h
 ·have:=g.lt;rw [h] at this;simp at this
 ·exact h
theorem Gss.top {Ee V B P h v2 top u2:Nat} (g:Gss Ee V B P h v2 top u2):top<(h+1)*B:=by
 have h1:top*(B*P)<(h+1)*B*(B*P):=by
  calc top*(B*P)=top*B*P:=(Nat.mul_assoc _ _ _).symm
   _≤(top*B+u2)*P:=Nat.mul_le_mul_right _ (Nat.le_add_right _ _)
   _≤Ee:=g.iu1
   _<V*B:=g.lt
   _≤(h*B+v2+1)*P*B:=Nat.mul_le_mul_right _ (Nat.le_of_lt g.iv2)
   _≤((h+1)*B)*P*B:=Nat.mul_le_mul_right _ (Nat.mul_le_mul_right _ (by rw [Nat.add_mul,Nat.one_mul]; have:=g.l2;omega))
   _=(h+1)*B*(B*P):=by rw [Nat.mul_assoc,Nat.mul_comm P B]
 exact Nat.lt_of_mul_lt_mul_right h1
theorem Gss.q_lt {Ee V B P h v2 top u2:Nat} (g:Gss Ee V B P h v2 top u2):Ee / V<B:=Nat.div_lt_of_lt_mul g.lt
theorem Gss.start {Ee V B P h v2 top u2:Nat} (g:Gss Ee V B P h v2 top u2):Ee / V≤top / h:=by
 rw [Nat.le_div_iff_mul_le g.h0]
 have h1:(Ee / V*h)*(B*P)<(top+1)*(B*P):=by
  calc (Ee / V*h)*(B*P)=Ee / V*(h*B*P):=by rw [Nat.mul_assoc,Nat.mul_assoc]
   _≤Ee / V*((h*B+v2)*P):=Nat.mul_le_mul_left _ (Nat.mul_le_mul_right _ (Nat.le_add_right _ _))
   _≤Ee / V*V:=Nat.mul_le_mul_left _ g.iv1
   _≤Ee:=Nat.div_mul_le_self _ _
   _<(top*B+u2+1)*P:=g.iu2
   _≤((top+1)*B)*P:=Nat.mul_le_mul_right _ (by rw [Nat.add_mul,Nat.one_mul]; have:=g.m2;omega)
   _=(top+1)*(B*P):=Nat.mul_assoc _ _ _
 exact Nat.lt_succ_iff.1 (Nat.lt_of_mul_lt_mul_right h1)
theorem Gss.low {Ee V B P h v2 top u2:Nat} (g:Gss Ee V B P h v2 top u2) {q r:Nat} (e:q*h+r=top) (hc:r*B+u2<q*v2):Ee / V<q:=by
 have h1:(Ee / V*(h*B+v2))*P<(top*B+u2+1)*P:=by
  calc (Ee / V*(h*B+v2))*P=Ee / V*((h*B+v2)*P):=Nat.mul_assoc _ _ _
   _≤Ee / V*V:=Nat.mul_le_mul_left _ g.iv1
   _≤Ee:=Nat.div_mul_le_self _ _
   _<(top*B+u2+1)*P:=g.iu2
 have h2:=Nat.lt_of_mul_lt_mul_right h1
 have h3:top*B+u2<q*(h*B+v2):=by
  rw [← e,Nat.add_mul,Nat.mul_add,Nat.mul_assoc]; omega
 exact Nat.lt_of_mul_lt_mul_right (Nat.lt_of_lt_of_le h2 h3)
theorem Gss.done {Ee V B P h v2 top u2:Nat} (g:Gss Ee V B P h v2 top u2) {q r:Nat} (e:q*h+r=top) (hq:q<B) (hc:q*v2≤r*B+u2∨B≤r):q≤Ee / V+1:=by
 rcases Nat.eq_zero_or_pos q with h0 | h0
 ·rw [h0]; exact Nat.zero_le _
 obtain ⟨p,rfl⟩ : ∃ p,q=p+1:=⟨q - 1,by omega⟩
 have hh:(p+1)*v2≤r*B+u2:=by
  rcases hc with hc | hc
  ·exact hc
  ·have h1:(p+1)*v2≤B*B:=Nat.mul_le_mul (Nat.le_of_lt hq) (Nat.le_of_lt g.l2)
   have h2:B*B≤r*B:=Nat.mul_le_mul_right _ hc
   omega
 have h3:(p+1)*(h*B+v2)≤top*B+u2:=by
  rw [← e,Nat.add_mul _ r,Nat.mul_add,Nat.mul_assoc]; omega
 have h4:p*(h*B+v2+1)≤top*B+u2:=by
  refine Nat.le_trans ?_ h3
  rw [Nat.add_mul p 1,Nat.mul_add p (h*B+v2) 1,Nat.one_mul,Nat.mul_one]
  have:B≤h*B:=Nat.le_mul_of_pos_left _ g.h0
  omega
 have h5:p*V≤Ee:=by
  calc p*V≤p*((h*B+v2+1)*P):=Nat.mul_le_mul_left _ (Nat.le_of_lt g.iv2)
   _=p*(h*B+v2+1)*P:=(Nat.mul_assoc _ _ _).symm
   _≤(top*B+u2)*P:=Nat.mul_le_mul_right _ h4
   _≤Ee:=g.iu1
 have:=(Nat.le_div_iff_mul_le g.V0).2 h5
 omega
theorem CE {u v:List Nat} {k:Nat} (hu:bF u) (hv:bF v) (lu:u.length=k+3) (lw:v.length=k+2) (hh:0<v.getD (k+1) 0) (hlt:lv u<lv v*4294967296) :
  Gss (lv u) (lv v) 4294967296 (4294967296^k) (v.getD (k+1) 0) (v.getD k 0) (u.getD (k+2) 0*4294967296+u.getD (k+1) 0) (u.getD k 0):=by
 have e1:=AJ lu
 have e2:=AI lw
 have h1:=gV (hu.take k)
 have h2:=gV (hv.take k)
 rw [List.length_take_of_le X] at h1 h2
 have g1:=a9 hu k
 have g2:=a9 hv k
 refine ⟨Nat.pow_pos S,?_,?_,?_,?_,g2,g1,hh,hlt⟩
 ·rw [e2,Nat.mul_comm _ (4294967296^k),show v.getD (k+1) 0*4294967296+v.getD k 0=v.getD k 0+4294967296*v.getD (k+1) 0 by omega]; omega
 ·rw [e2,Nat.mul_comm _ (4294967296^k),show v.getD (k+1) 0*4294967296+v.getD k 0+1=v.getD k 0+4294967296*v.getD (k+1) 0+1 by omega,Nat.mul_add (4294967296^k) _ 1]; omega
 ·rw [e1,Nat.mul_comm _ (4294967296^k),show (u.getD (k+2) 0*4294967296+u.getD (k+1) 0)*4294967296+u.getD k 0=u.getD k 0+4294967296*(u.getD (k+1) 0+4294967296*u.getD (k+2) 0) by omega]; omega
 ·rw [e1,Nat.mul_comm _ (4294967296^k),show (u.getD (k+2) 0*4294967296+u.getD (k+1) 0)*4294967296+u.getD k 0+1=u.getD k 0+4294967296*(u.getD (k+1) 0+4294967296*u.getD (k+2) 0)+1 by omega,Nat.mul_add (4294967296^k) _ 1]; omega
structure GuessR (h top Q:Nat) (p:Nat × Nat):Prop where
 e:p.1*h+p.2=top
 r:p.2<4294967296
 q:Q≤p.1
 m:p.1≤4294967297
structure SubR (u v:List Nat) (q:Nat) (z:List Nat) (i b c:Nat):Prop where
 le:i≤v.length
 len:z.length=u.length
 lim:bF z
 hb:b≤1
 hc:c<4294967296
 val:lv z+q*lv (v.take i)=lv u+4294967296^i*(b+c)
theorem qR {x y b d:Nat} (hx:x<4294967296) (hy:y<4294967296) (hb:b≤1) (hd:d=((x+18446744073709551616 - y) % 18446744073709551616+18446744073709551616 - b) % 18446744073709551616) :
  d % 4294967296+y+b=x+4294967296*(d / 9223372036854775808)∧d / 9223372036854775808≤1:=by
 rcases Nat.lt_or_ge x (y+b) with h | h
 ·have h1:d=x+18446744073709551616 - (y+b):=by omega
  omega
 ·have h1:d=x - (y+b):=by omega
  omega
theorem SubR.start {u v:List Nat} {q:Nat} (hu:bF u):SubR u v q u 0 0 0:=⟨Nat.zero_le _,rfl,hu,by decide,by decide,by simp [lv]⟩
theorem qS {q y c:Nat} (hq:q<4294967296) (hy:y<4294967296) (hc:c<4294967296):q*y<18446744073709551616∧c+q*y<18446744073709551616∧(c+q*y) / 4294967296<4294967296:=by
 have h1:q*y≤4294967295*4294967295:=Nat.mul_le_mul X X
 omega
theorem SubR.step {u v z:List Nat} {q i b c d:Nat} (h:SubR u v q z i b c) (hv:bF v) (hq:q<4294967296) (hi:i<v.length) (hl:v.length≤u.length)
  (hd:d=((z.getD i 0+18446744073709551616 - (c+q*v.getD i 0) % 4294967296) % 18446744073709551616+18446744073709551616 - b) % 18446744073709551616) :
  SubR u v q (z.set i (d % 4294967296)) (i+1) (d / 9223372036854775808) ((c+q*v.getD i 0) / 4294967296):=by
 have hlim:=qS hq (a9 hv i) h.hc
 obtain ⟨h1,h2⟩:=qR (a9 h.lim i) (Nat.mod_lt _ S) h.hb hd
 have hz:i<z.length:=by rw [h.len]; omega
 have hs:=fO (l:=z) (v:=d % 4294967296) hz
 have hvv:=h.val
 refine ⟨hi,by rw [List.length_set]; exact h.len,h.lim.set (Nat.mod_lt _ S),h2,hlim.2.2,?_⟩
 rw [bM hi,Nat.pow_succ,Nat.mul_add q]
 have e:=Nat.div_add_mod (c+q*v.getD i 0) 4294967296
 have e5:q*(4294967296^i*v.getD i 0)=4294967296^i*(q*v.getD i 0):=Nat.mul_left_comm _ _ _
 rw [e5]
 clear hd
 generalize z.getD i 0=x at *
 generalize q*v.getD i 0=y at *
 generalize 4294967296^i=B at *
 generalize (c+y) / 4294967296=t1 at *
 generalize (c+y) % 4294967296=t2 at *
 generalize d % 4294967296=r at *
 generalize d / 9223372036854775808=q' at *
 have e2:B*(r+t2+b)=B*(x+4294967296*q'):=by rw [h1]
 have e3:B*(4294967296*t1+t2)=B*(c+y):=by rw [e]
 simp only [Nat.mul_add,Nat.mul_assoc] at e2 e3 hvv ⊢
 omega
structure BackR (u v:List Nat) (z:List Nat) (i c:Nat):Prop where
 le:i≤v.length
 len:z.length=u.length
 lim:bF z
 hc:c≤1
 val:lv z+4294967296^i*c=lv u+lv (v.take i)
theorem BackR.start {u v:List Nat} (hu:bF u):BackR u v u 0 0:=⟨Nat.zero_le _,rfl,hu,by decide,by simp [lv]⟩
theorem BackR.step {u v z:List Nat} {i c:Nat} (h:BackR u v z i c) (hv:bF v) (hi:i<v.length) (hl:v.length≤u.length) :
  BackR u v (z.set i ((c+(z.getD i 0+v.getD i 0)) % 4294967296)) (i+1) ((c+(z.getD i 0+v.getD i 0)) / 4294967296):=by
 have hz:i<z.length:=by rw [h.len]; omega
 have hs:=fO (l:=z) (v:=(c+(z.getD i 0+v.getD i 0)) % 4294967296) hz
 have hvv:=h.val
 have g1:=a9 h.lim i
 have g2:=a9 hv i
 have hc:=h.hc
 refine ⟨hi,by rw [List.length_set]; exact h.len,h.lim.set (Nat.mod_lt _ S),by omega,?_⟩
 rw [bM hi,Nat.pow_succ]
 generalize z.getD i 0=x at *
 generalize v.getD i 0=y at *
 generalize 4294967296^i=B at *
 have e:4294967296*((c+(x+y)) / 4294967296)+(c+(x+y)) % 4294967296=c+(x+y):=by omega
 generalize (c+(x+y)) / 4294967296=t1 at *
 generalize (c+(x+y)) % 4294967296=t2 at *
 have e3:B*(4294967296*t1+t2)=B*(c+(x+y)):=by rw [e]
 simp only [Nat.mul_add,Nat.mul_assoc] at e3 hvv ⊢
 omega
theorem SubR.good {u v z:List Nat} {q b c d:Nat} (h:SubR u v q z v.length b c) (hl:u.length=v.length+1) (hV:0<lv v)
  (hQ:lv u / lv v≤q) (hd:d=((z.getD v.length 0+18446744073709551616 - c) % 18446744073709551616+18446744073709551616 - b) % 18446744073709551616) (h0:d / 9223372036854775808=0) :
  q=lv u / lv v∧bF (z.set v.length (d % 4294967296))∧lv (z.set v.length (d % 4294967296))=lv u % lv v:=by
 obtain ⟨h1,h2⟩:=qR (a9 h.lim v.length) h.hc h.hb hd
 have hz:v.length<z.length:=by rw [h.len]; omega
 have hs:=fO (l:=z) (v:=d % 4294967296) hz
 have hvv:=h.val
 rw [List.take_length] at hvv
 have e:lv (z.set v.length (d % 4294967296))+q*lv v=lv u:=by
  rw [h0] at h1
  generalize z.getD v.length 0=x at *
  clear hd
  generalize d % 4294967296=r at *
  generalize 4294967296^v.length=B at *
  have e2:B*(r+c+b)=B*(x+4294967296*0):=by rw [h1]
  simp only [Nat.mul_add] at e2 hvv
  omega
 have e4:lv (z.set v.length (d % 4294967296))=lv u - q*lv v:=by omega
 have hle:q≤lv u / lv v:=(Nat.le_div_iff_mul_le hV).2 X
 have eq:q=lv u / lv v:=by omega
 refine ⟨eq,h.lim.set (Nat.mod_lt _ S),?_⟩
 have:=Nat.div_add_mod (lv u) (lv v)
 rw [e4,eq,Nat.mul_comm]; omega
theorem SubR.bad {u v z:List Nat} {q b c d:Nat} (h:SubR u v q z v.length b c) (hl:u.length=v.length+1) (hV:0<lv v)
  (hQ:lv u / lv v≤q) (hq:q≤lv u / lv v+1) (hd:d=((z.getD v.length 0+18446744073709551616 - c) % 18446744073709551616+18446744073709551616 - b) % 18446744073709551616) (h0:d / 9223372036854775808≠0) :
  q=lv u / lv v+1∧bF (z.set v.length (d % 4294967296))∧lv (z.set v.length (d % 4294967296))+lv v=lv u % lv v+4294967296^(v.length+1):=by
 obtain ⟨h1,h2⟩:=qR (a9 h.lim v.length) h.hc h.hb hd
 have hz:v.length<z.length:=by rw [h.len]; omega
 have hs:=fO (l:=z) (v:=d % 4294967296) hz
 have hvv:=h.val
 rw [List.take_length] at hvv
 have hL:bF (z.set v.length (d % 4294967296)):=h.lim.set (Nat.mod_lt _ S)
 have hlt:=gV hL
 rw [List.length_set,h.len,hl] at hlt
 have h3:d / 9223372036854775808=1:=by omega
 have e:lv (z.set v.length (d % 4294967296))+q*lv v=lv u+4294967296^(v.length+1):=by
  rw [h3] at h1
  generalize z.getD v.length 0=x at *
  clear hd hL hlt h0 h2 h3
  generalize lv (z.set v.length (d % 4294967296))=y at *
  generalize d % 4294967296=r at *
  rw [Nat.pow_succ]
  generalize 4294967296^v.length=B at *
  have e2:B*(r+c+b)=B*(x+4294967296*1):=by rw [h1]
  simp only [Nat.mul_add] at e2 hvv
  omega
 have hm:=Nat.div_add_mod (lv u) (lv v)
 have hne:q≠lv u / lv v:=fun hx=>by
  rw [hx,Nat.mul_comm] at e;omega
 have eq:q=lv u / lv v+1:=by omega
 refine ⟨eq,hL,?_⟩
 rw [eq,Nat.add_mul,Nat.one_mul,Nat.mul_comm] at e
 omega
theorem BackR.good {u v z:List Nat} {c R x:Nat} (h:BackR u v z v.length c) (hl:u.length=v.length+1) (hV:R<lv v) (hv:bF v)
  (hu:lv u+lv v=R+4294967296^(v.length+1)) (hx:x=(z.getD v.length 0+c) % 4294967296):bF (z.set v.length x)∧lv (z.set v.length x)=R:=by
 have hz:v.length<z.length:=by rw [h.len]; omega
 have hs:=fO (l:=z) (v:=x) hz
 have hvv:=h.val
 rw [List.take_length] at hvv
 have hL:bF (z.set v.length x):=h.lim.set (by rw [hx]; exact Nat.mod_lt _ S)
 have hlt:=gV hL
 rw [List.length_set,h.len,hl] at hlt
 have hzl:=a9 h.lim v.length
 have hc:=h.hc
 have hvl:=gV hv
 refine ⟨hL,?_⟩
 rcases Nat.lt_or_ge (z.getD v.length 0+c) 4294967296 with h5 | h5
 ·have h6:x=z.getD v.length 0+c:=by omega
  have e:lv (z.set v.length x)=lv u+lv v:=by
   rw [h6] at hs
   rw [h6]
   rw [Nat.mul_add] at hs
   omega
  omega
 ·have h6:x+4294967296=z.getD v.length 0+c:=by omega
  have e:lv (z.set v.length x)+4294967296^(v.length+1)=lv u+lv v:=by
   generalize lv (z.set v.length x)=y at *
   clear hlt
   rw [hu,Nat.pow_succ]
   generalize z.getD v.length 0=t at *
   rw [hu,Nat.pow_succ] at hvv
   generalize 4294967296^v.length=B at *
   have e2:B*(x+4294967296)=B*(t+c):=by rw [h6]
   simp only [Nat.mul_add] at e2
   omega
  omega
end Tor
end
section
namespace Tor
open Go Go.RowKit Go.Proofs
def ir (W0 W:List Nat) (j m:Nat):Prop:=W.length=W0.length∧W.take j=W0.take j∧W.drop (j+m)=W0.drop (j+m)
theorem ir.refl (W:List Nat) (j m:Nat):ir W W j m:=⟨rfl,rfl,rfl⟩
theorem ir.set {W0 W:List Nat} {j m i x:Nat} (h:ir W0 W j m) (hi:i<m):ir W0 (W.set (j+i) x) j m :=
 ⟨by rw [List.length_set]; exact h.1,by rw [List.take_set_of_le X]; exact h.2.1,by rw [List.drop_set_of_lt X]; exact h.2.2⟩
theorem DF {q Q:Nat} (h:q=Q+1) (hq:q<4294967296):(q+18446744073709551616 - 1) % 18446744073709551616 % 4294967296=Q:=by omega
structure DgS (W0 v:List Nat) (j k q:Nat) (s:List Nat × Nat × Nat × Nat):Prop where
 out:ir W0 s.1 j (k+3)
 lim:bF s.1
 sub:SubR (win W0 j (k+3)) v q (win s.1 j (k+3)) s.2.1 s.2.2.1 s.2.2.2
structure DgB (W0 W1 v:List Nat) (j k:Nat) (s:List Nat × Nat × Nat):Prop where
 out:ir W0 s.1 j (k+3)
 lim:bF s.1
 back:BackR (win W1 j (k+3)) v (win s.1 j (k+3)) s.2.1 s.2.2
abbrev CF (W v:List Nat) (j k:Nat):Type := {W':List Nat // ir W W' j (k+3)∧bF W'∧lv (win W' j (k+3))=lv (win W j (k+3)) % lv v}
theorem GuessR.aux {top h:Nat} (ht:top<(h+1)*4294967296) (hh:2147483648≤h):top<h*4294967298:=by
 have e1:h*4294967298=h*4294967296+h*2:=by rw [← Nat.mul_add]
 have e2:(h+1)*4294967296=h*4294967296+4294967296:=by rw [Nat.add_mul]
 have e3:4294967296≤h*2:=Nat.mul_le_mul_right 2 hh
 rw [e1]; rw [e2] at ht
 exact Nat.lt_of_lt_of_le ht (Nat.add_le_add_left e3 _)
theorem GuessR.start {Ee V P h v2 top u2:Nat} (g:Gss Ee V 4294967296 P h v2 top u2) (hh:2147483648≤h) (hl:h<4294967296):GuessR h top (Ee / V) (top / h,top % h):=by
 have hm:=Nat.mod_lt top (show 0<h by omega)
 refine ⟨?_,?_,g.start,?_⟩
 ·show top / h*h+top % h=top
  rw [Nat.mul_comm]; exact Nat.div_add_mod top h
 ·show top % h<_;omega
 ·have ht:=g.top
  have h1:top<h*4294967298:=GuessR.aux ht hh
  exact Nat.lt_succ_iff.1 (Nat.div_lt_of_lt_mul h1)
theorem GuessR.next {h top Q q r:Nat} (s:GuessR h top Q (q,r)) (hQ:Q<q) (hr:r+h<4294967296):GuessR h top Q (q - 1,r+h):=by
 obtain ⟨p,rfl⟩ : ∃ p,q=p+1:=⟨q - 1,by omega⟩
 have e:(p+1)*h+r=top:=s.e
 have m:p+1≤4294967297:=s.m
 refine ⟨?_,hr,?_,?_⟩
 ·show (p+1 - 1)*h+(r+h)=top
  rw [Nat.add_mul,Nat.one_mul] at e
  rw [Nat.add_sub_cancel]; omega
 ·show Q≤p+1 - 1;omega
 ·show p+1 - 1≤_;omega
theorem GuessR.last {Ee V P h v2 top u2 q r:Nat} (g:Gss Ee V 4294967296 P h v2 top u2) (s:GuessR h top (Ee / V) (q,r)) (hQ:Ee / V<q) (hr:4294967296≤r+h):q - 1<4294967296∧Ee / V≤q - 1∧q - 1≤Ee / V+1:=by
 obtain ⟨p,rfl⟩ : ∃ p,q=p+1:=⟨q - 1,by have:=Nat.lt_of_le_of_lt (Nat.zero_le _) hQ;omega⟩
 have e:(p+1)*h+r=top:=s.e
 have ht:=g.top
 have e2:p*h+(r+h)=top:=by rw [Nat.add_mul,Nat.one_mul] at e;omega
 have h1:p<4294967296:=by
  rcases Nat.lt_or_ge p 4294967296 with h1 | h1
  ·exact h1
  ·have:=Nat.mul_le_mul_right h h1
   omega
 rw [Nat.add_sub_cancel]
 exact ⟨h1,Nat.lt_succ_iff.1 hQ,g.done e2 h1 (.inr hr)⟩
attribute [local irreducible] J PJ aJ one slT bQ bC bv exT bZ eP aP aI slV VT.le Ret bJ
set_option maxRecDepth 20000 in
theorem yy (b N j cap k:Nat) (W v:List Nat) (hW:bF W) (hv:bF v) (hN:W.length=N) (hj:j+(k+3)≤N) (hk:v.length=k+2) (hb31:v.length≤1099511627776) (hh:2147483648≤v.getD (k+1) 0) (hlt:lv (win W j (k+3))<lv v*4294967296) :
  OkI Tryz.prog 166 [one (At b j 1 (k+3) cap),co v] [aI (some b) 86 .one N N (fQ W)] (fun _:CF W v j k=>one (.int .u32 ((lv (win W j (k+3)) / lv v:Nat):Int))) (fun s => [aI (some b) 86 .one N N (fQ s.1)]):=by
 unfold co
 rw [hk]
 refine OkI.enter Tryz.func166 Y Tryz.ntmps166 Y (fun w O => ?_)
 have lw:=vm (W:=W) (j:=j) (m:=k+3) X
 have g:=CE (hW.win j (k+3)) hv lw hk X hlt
 rw [g9 X,g9 X,g9 X] at g
 have x0:=a9 hW (j+k)
 have x1:=a9 hW (j+(k+1))
 have x2:=a9 hW (j+(k+2))
 have y1:=a9 hv (k+1)
 have y0:=a9 hv k
 rw [hk] at hb31
 have y1':v.getD (k+2 - 1) 0<4294967296:=y1
 have y0':v.getD (k+2 - 2) 0<4294967296:=y0
 have yh':2147483648≤v.getD (k+2 - 1) 0:=hh
 have x1':W.getD (j+(k+2 - 1)) 0<4294967296:=x1
 have x0':W.getD (j+(k+2 - 2)) 0<4294967296:=x0
 refine ae (ai (En Y (Ep (aa (ae (ai (Em Y (El (aW Y) (En Y ?_)))))))))
 refine Ep (aa (ae (ai (Em Y (Em Y (El (cg _ 1 Y Y X X) (El (aC Y Y X) (El (aM Y) (El (bT Y X) ?_)))))))))
 refine En Y (Ep (aa (ae (a8 13 a4 Z S (Em Y (Em Y (El (d4 Y Y X) (El (be 0 Y Y X) (El (bT Y X) ?_)))))))))
 refine El (kB (s:=32) Y Y X X) (Em Y (Em Y (El (cg _ 1 Y Y X X) (El (d4 Y Y X) (El (be 0 Y Y X) (El (bT Y X) (El (kA Y Y X X) (Ep (En Y ?_)))))))))
 refine Ep (aa (ae (a8 7 a4 Z S (Em Y (Em Y (El (jx Y Y X X) (Em Y (Em Y (El (eK _ Y Y Y X) ?_)))))))))
 refine En Y (Ep (En Y (Ep (aa (ae (au (cp (Γ' := [(0,_),(1,_),(4,_),(5,_),(6,_),(8,_),(9,_)]) Eg (SubM.refl _) ?_)))))))
 refine Au (σ:=Nat) (Γk := [(0,_),(1,_),(4,_),(5,_)]) (dJ.cons Y H (dJ.cons Y H (dJ.cons Y H (dJ.cons Y H dJ.nil)))) (fun q => [(8,one (.int .u64 (q:Nat)))]) (fun _ M0=>M0) (fun q=>q<4294967296∧lv (win W j (k+3)) / lv v≤q∧q≤lv (win W j (k+3)) / lv v+1) ?_ (fun q hq => ?_)
 ·refine cp (Γ' := [(0,_),(1,_),(4,_),(5,_),(6,_),(8,_),(9,_)]) Eg (SubM.refl _) ?_
  refine bD (σ:=Nat × Nat) (Γk := [(0,_),(1,_),(4,_),(5,_),(6,_)]) Eg (fun p => [(8,one (.int .u64 (p.1:Nat))),(9,one (.int .u64 (p.2:Nat)))]) (fun p M0=>M0) (fun p=>GuessR (v.getD (k+1) 0) (W.getD (j+(k+2)) 0*4294967296+W.getD (j+(k+1)) 0) (lv (win W j (k+3)) / lv v) p) (fun p=>p.1) (((W.getD (j+(k+2)) 0*4294967296+W.getD (j+(k+1)) 0) / v.getD (k+1) 0,(W.getD (j+(k+2)) 0*4294967296+W.getD (j+(k+1)) 0) % v.getD (k+1) 0)) (GuessR.start g hh y1) Eh (.keep Ek (.nil)) (fun p hp => ?_)
  refine bU (Γ' := [(8,_),(9,_),(0,_),(1,_),(4,_),(5,_),(6,_)]) (M' := [_]) Y Y ?_
  obtain ⟨q,r⟩:=p
  dsimp only at hp ⊢
  have hr:r<4294967296:=hp.r
  have hqm:q≤4294967297:=hp.m
  by_cases hA:4294967295<q
  ·have hQ:lv (win W j (k+3)) / lv v<q:=Nat.lt_of_lt_of_le g.q_lt hA
   have hq1:1≤q:=Nat.lt_of_le_of_lt (Nat.zero_le _) hQ
   have hq2:(q+18446744073709551616 - 1) % 18446744073709551616=q - 1:=by omega
   by_cases hC:4294967296≤r+v.getD (k+2 - 1) 0
   ·refine ae (ae (a8 22 a4 Z S (Em Y (El (sT X (db Y Y)) (Em Y (sg0 Y Y Y Y (sg0 Y Y Y Y (sg0 Y Y Y Y (sg0 Y Y Y Y ?_)))))))))
    refine sg0 Y Y Y Y (sg0 Y Y Y Y (sg0 Y Y Y Y (sg0 Y Y Y Y (sg0 Y Y Y Y (sg0 Y Y Y Y (sg0 Y Y Y Y (sg0 Y Y Y Y (sg0 Y Y Y Y (sg0 Y Y Y Y ?_)))))))))
    refine sg0 Y Y Y Y (sg0 Y Y Y Y (sg0 Y Y Y Y (sg0 Y Y Y Y (El (bp Y Y) (Ep (Ep (aa (aH Y (az ?_)))))))))
    refine aa (au (ae (ai (Em Y (El (fk Y Y X S) (En Y (Ep (aa (ae ?_)))))))))
    refine ai (Em Y (Em Y (El (dK Y Y X) (En Y (Ep (aa (ae (ai (Em Y ?_)))))))))
    refine El (sT X (db Y Y)) (Ep (aa (aH Y (aX (c9 Y (av (aE ?_)))))))
    rw [hq2]
    refine cU (q - 1) (hp.last g hQ hC) Eh (.keep Ek (.nil))
   ·refine ae (ae (a8 22 a4 Z S (Em Y (El (sT X (db Y Y)) (Em Y (sg0 Y Y Y Y (sg0 Y Y Y Y (sg0 Y Y Y Y (sg0 Y Y Y Y ?_)))))))))
    refine sg0 Y Y Y Y (sg0 Y Y Y Y (sg0 Y Y Y Y (sg0 Y Y Y Y (sg0 Y Y Y Y (sg0 Y Y Y Y (sg0 Y Y Y Y (sg0 Y Y Y Y (sg0 Y Y Y Y (sg0 Y Y Y Y ?_)))))))))
    refine sg0 Y Y Y Y (sg0 Y Y Y Y (sg0 Y Y Y Y (sg0 Y Y Y Y (El (bp Y Y) (Ep (Ep (aa (aH Y (az ?_)))))))))
    refine aa (au (ae (ai (Em Y (El (fk Y Y X S) (En Y (Ep (aa (ae ?_)))))))))
    refine ai (Em Y (Em Y (El (dK Y Y X) (En Y (Ep (aa (ae (ai (Em Y ?_)))))))))
    refine El (sF X (db Y Y)) (Ep (aa (aB Y (az (aD ?_)))))
    rw [hq2]
    refine aR ((q - 1,r+v.getD (k+1) 0)) (hp.next hQ (Nat.lt_of_not_le hC)) X Eh (.keep Ek (.nil))
  ·have hqv:=qS (q:=q) (c:=0) X y0 S
   have hqv1:q*v.getD (k+2 - 2) 0<18446744073709551616:=hqv.1
   by_cases hB:r*4294967296+W.getD (j+(k+2 - 2)) 0<q*v.getD (k+2 - 2) 0
   ·have hQ:lv (win W j (k+3)) / lv v<q:=g.low hp.e hB
    have hq1:1≤q:=Nat.lt_of_le_of_lt (Nat.zero_le _) hQ
    have hq2:(q+18446744073709551616 - 1) % 18446744073709551616=q - 1:=by omega
    by_cases hC:4294967296≤r+v.getD (k+2 - 1) 0
    ·refine ae (ae (a8 22 a4 Z S (Em Y (El (sF X (db Y Y)) (Em Y (Eo (ab Y) (Eo (ab Y) (Eo (ab Y) (Eo (cg _ 2 Y Y X X) ?_)))))))))
     refine Eo (aC Y Y X) (Eo (aM Y) (Eo (bT Y X) (Eo (fK Y Y X) (Eo (ab Y) (Eo (qw Y X) (Eo (ab Y) (Eo (ab Y) (Eo (cg _ 2 Y Y X X) (Eo (d4 Y Y X) ?_)))))))))
     refine Eo (be 0 Y Y X) (Eo (bT Y X) (Eo (kA Y Y X X) (Eo (sT X (db Y Y)) (El (bE Y Y) (Ep (Ep (aa (aH Y (az ?_)))))))))
     refine aa (au (ae (ai (Em Y (El (fk Y Y X S) (En Y (Ep (aa (ae ?_)))))))))
     refine ai (Em Y (Em Y (El (dK Y Y X) (En Y (Ep (aa (ae (ai (Em Y ?_)))))))))
     refine El (sT X (db Y Y)) (Ep (aa (aH Y (aX (c9 Y (av (aE ?_)))))))
     rw [hq2]
     refine cU (q - 1) (hp.last g hQ hC) Eh (.keep Ek (.nil))
    ·refine ae (ae (a8 22 a4 Z S (Em Y (El (sF X (db Y Y)) (Em Y (Eo (ab Y) (Eo (ab Y) (Eo (ab Y) (Eo (cg _ 2 Y Y X X) ?_)))))))))
     refine Eo (aC Y Y X) (Eo (aM Y) (Eo (bT Y X) (Eo (fK Y Y X) (Eo (ab Y) (Eo (qw Y X) (Eo (ab Y) (Eo (ab Y) (Eo (cg _ 2 Y Y X X) (Eo (d4 Y Y X) ?_)))))))))
     refine Eo (be 0 Y Y X) (Eo (bT Y X) (Eo (kA Y Y X X) (Eo (sT X (db Y Y)) (El (bE Y Y) (Ep (Ep (aa (aH Y (az ?_)))))))))
     refine aa (au (ae (ai (Em Y (El (fk Y Y X S) (En Y (Ep (aa (ae ?_)))))))))
     refine ai (Em Y (Em Y (El (dK Y Y X) (En Y (Ep (aa (ae (ai (Em Y ?_)))))))))
     refine El (sF X (db Y Y)) (Ep (aa (aB Y (az (aD ?_)))))
     rw [hq2]
     refine aR ((q - 1,r+v.getD (k+1) 0)) (hp.next hQ (Nat.lt_of_not_le hC)) X Eh (.keep Ek (.nil))
   ·refine ae (ae (a8 22 a4 Z S (Em Y (El (sF X (db Y Y)) (Em Y (Eo (ab Y) (Eo (ab Y) (Eo (ab Y) (Eo (cg _ 2 Y Y X X) ?_)))))))))
    refine Eo (aC Y Y X) (Eo (aM Y) (Eo (bT Y X) (Eo (fK Y Y X) (Eo (ab Y) (Eo (kB (s:=32) Y Y X X) (Eo (ab Y) (Eo (ab Y) (Eo (cg _ 2 Y Y X X) (Eo (d4 Y Y X) ?_)))))))))
    refine Eo (be 0 Y Y X) (Eo (bT Y X) (Eo (kA Y Y X X) (Eo (sF X (db Y Y)) (El (bE Y Y) (Ep (Ep (aa (aB Y (aX ?_)))))))))
    refine av (av (aE ?_))
    have hqB:q<4294967296:=by omega
    refine cU (q) (⟨hqB,hp.q,g.done hp.e hqB (.inl (Nat.le_of_not_lt hB))⟩) Eh (.keep Ek (.nil))
 ·obtain ⟨hq1,hq2,hq3⟩:=hq
  have lu:=lw
  refine aa (ae (ai (En Y (En Y (Ep (aa (ae (ae (ai ?_)))))))))
  refine Em Y (El (aW Y) (Em Y (Ep (aa (au (cp (Γ' := [(0,_),(1,_),(4,_),(5,_),(8,_),(10,_),(11,_),(74,_),(75,_),(76,_)]) Eg (SubM.refl _) ?_))))))
  refine bD (σ:=List Nat × Nat × Nat × Nat) (Γk := [(0,_),(1,_),(4,_),(5,_),(8,_),(74,_),(75,_)]) Eg (fun s => [(76,one (.int .i64 (s.2.1:Nat))),(10,one (.int .u64 (s.2.2.1:Nat))),(11,one (.int .u64 (s.2.2.2:Nat)))]) (fun s M0=>(M0.set 0 (aI (some b) 86 .one N N (fQ s.1)))) (fun s=>DgS W v j k q s) (fun s=>k+2 - s.2.1) ((W,0,0,0)) (⟨ir.refl _ _ _,hW,SubR.start (hW.win _ _)⟩) Eh (.keep Ek (.nil)) (fun s hs => ?_)
  refine bU (Γ' := [(76,_),(10,_),(11,_),(0,_),(1,_),(4,_),(5,_),(8,_),(74,_),(75,_)]) (M' := [_]) Y Y ?_
  obtain ⟨W1,i,br,c⟩:=s
  dsimp only at hs ⊢
  have h1o:=hs.out
  have h1l:=hs.lim
  have h1s:=hs.sub
  dsimp only at h1o h1l h1s
  have hbr:=h1s.hb
  have hcr:=h1s.hc
  have hN1:W1.length=N:=h1o.1.trans hN
  refine ae (ai (El (a7 Y Y) (Ep (aa (ae ?_)))))
  refine qr Y (fun hc => ?_) (fun hc => ?_)
  ·have hi:i<k+2:=by omega
   have z1:=a9 h1l (j+i)
   have v1:=a9 hv i
   have sl:=qS hq1 v1 hcr
   have sl1:=sl.1
   have sl2:=sl.2.1
   have sl3:=sl.2.2
   obtain ⟨d,hd⟩ : ∃ d,d=((W1.getD (j+i) 0+18446744073709551616 - (c+q*v.getD i 0) % 4294967296) % 18446744073709551616+18446744073709551616 - br) % 18446744073709551616:=⟨_,rfl⟩
   have hst:=h1s.step hv hq1 X (by rw [lu,hk]; omega) (d:=d) (by rw [g9 X]; exact hd)
   rw [← lP X] at hst
   refine az (aa (ae (au (ae (ai (Em Y (El (aC Y Y X) (El (aM Y) (En Y ?_)))))))))
   refine En Y (Ep (aa (ae (ai (Em Y (Em Y (Em Y (El (bT Y X) (El (fK Y Y X) ?_)))))))))
   refine El (dK Y Y X) (En Y (Ep (aa (ae (ai (Em Y (Em Y (El (d4 Y Y X) (El (be 0 Y Y X) ?_)))))))))
   refine El (bT Y X) (Em Y (El (Cn Y X) (El (fk Y Y X X) (Em Y (El (fk Y Y X X) (En Y (Ep (aa (ae ?_)))))))))
   refine ai (Em Y (Em Y (Em Y (El (cH Y) (El (d4 Y Y X) ?_)))))
   (refine aw 0 Y Y Y ?_ Y ?_;omega)
   refine Ep (aa (ae (ai (Em Y (El (qk Y) (En Y (Ep (aa (ai ?_)))))))))
   refine Em Y (El (gv Y) (En Y (Ep (aD (aa (ai (El (bI _ 1 Y Y X) (Em Y (Ep ?_)))))))))
   rw [← hd]
   refine aR ((W1.set (j+i) (d % 4294967296),i+1,d / 9223372036854775808,(c+q*v.getD i 0) / 4294967296)) (⟨h1o.set X,h1l.set (Nat.mod_lt _ S),hst⟩) (by (simp only []; omega)) Eh (.keep (gi X Y) (.nil))
  ·have hi:i=k+2:=by have:=h1s.le;omega
   subst hi
   have z1:=a9 h1l (j+(k+2))
   obtain ⟨d,hd⟩ : ∃ d,d=((W1.getD (j+(k+2)) 0+18446744073709551616 - c) % 18446744073709551616+18446744073709551616 - br) % 18446744073709551616:=⟨_,rfl⟩
   have h1v:SubR (win W j (k+3)) v q (win W1 j (k+3)) v.length br c:=by rw [hk]; exact h1s
   have hdw:d=(((win W1 j (k+3)).getD v.length 0+18446744073709551616 - c) % 18446744073709551616+18446744073709551616 - br) % 18446744073709551616:=by rw [hk,g9 X]; exact hd
   refine aX (av (av (aE (aa (ae (ai (Em Y (Em Y (El (d4 Y Y X) ?_)))))))))
   refine El (be 0 Y Y X) (El (bT Y X) (Em Y (El (fk Y Y X X) (Em Y (El (fk Y Y X X) (En Y (Ep (aa (ae ?_)))))))))
   refine ai (Em Y (Em Y (Em Y (El (cH Y) (El (d4 Y Y X) ?_)))))
   (refine aw 0 Y Y Y ?_ Y ?_;omega)
   refine Ep (aa (ae (ae (ai (Em Y (El (qk Y) (El (cm Y Y) (Ep (aa ?_)))))))))
   rw [← hd]
   refine qr Y (fun h0 => ?_) (fun h0 => ?_)
   ·obtain ⟨f1,f2,f3⟩:=h1v.good (by rw [lu,hk]) g.V0 hq2 hdw X
    rw [hk, ← lP X] at f3
    refine ae (ai (Em Y (El (cH Y) (En Y (Ep (aa (aF (aU ?_))))))))
    refine pw (⟨W1.set (j+(k+2)) (d % 4294967296),h1o.set X,h1l.set (Nat.mod_lt _ S),f3⟩:CF W v j k) Tryz.results166 (.tmp Y (aq (by rw [← f1,Nat.mod_eq_of_lt hq1]))) (.keep (gi X Y) .nil)
   ·obtain ⟨f1,f2,f3⟩:=h1v.bad (by rw [lu,hk]) g.V0 hq2 hq3 hdw X
    rw [hk, ← lP X] at f3
    obtain ⟨W2,hW2⟩ : ∃ W2,W2=W1.set (j+(k+2)) (d % 4294967296):=⟨_,rfl⟩
    have h2o:ir W W2 j (k+3):=hW2▸h1o.set X
    have h2l:bF W2:=hW2▸h1l.set (Nat.mod_lt _ S)
    have hN2:W2.length=N:=h2o.1.trans hN
    rw [← hW2] at f3
    refine az (aa (ae (ai (En Y (Ep (aa (ae (ae (ai ?_)))))))))
    refine Em Y (El (aW Y) (Em Y (Ep (aa (au (cp (Γ' := [(0,_),(4,_),(5,_),(8,_),(11,_),(126,_),(127,_),(128,_)]) Eg (SubM.refl _) ?_))))))
    refine bD (σ:=List Nat × Nat × Nat) (Γk := [(0,_),(4,_),(5,_),(8,_),(126,_),(127,_)]) Eg (fun s => [(128,one (.int .i64 (s.2.1:Nat))),(11,one (.int .u64 (s.2.2:Nat)))]) (fun s M0=>(M0.set 0 (aI (some b) 86 .one N N (fQ s.1)))) (fun s=>DgB W W2 v j k s) (fun s=>k+2 - s.2.1) ((W2,0,0)) (⟨h2o,h2l,BackR.start (h2l.win _ _)⟩) Eh (.keep (by (subst hW2;exact gi X Y)) (.nil)) (fun s hs => ?_)
    refine bU (Γ' := [(128,_),(11,_),(0,_),(4,_),(5,_),(8,_),(126,_),(127,_)]) (M' := [_]) Y Y ?_
    obtain ⟨W3,i,c3⟩:=s
    dsimp only at hs ⊢
    have h3o:=hs.out
    have h3l:=hs.lim
    have h3s:=hs.back
    dsimp only at h3o h3l h3s
    have hcr:=h3s.hc
    have hN3:W3.length=N:=h3o.1.trans hN
    have lu2:(win W2 j (k+3)).length=k+3:=vm X
    refine ae (ai (El (a7 Y Y) (Ep (aa (ae ?_)))))
    refine qr Y (fun hc => ?_) (fun hc => ?_)
    ·have hi:i<k+2:=by omega
     have z1:=a9 h3l (j+i)
     have v1:=a9 hv i
     have hst:=h3s.step hv X (by rw [lu2,hk]; omega)
     rw [g9 X, ← lP X] at hst
     refine az (aa (ae (au (ae (ai (Em Y (El (aC Y Y X) (El (aM Y) (En Y ?_)))))))))
     refine En Y (Ep (aa (ae (ai (Em Y (Em Y (Em Y (El (d4 Y Y X) (El (be 0 Y Y X) ?_)))))))))
     refine El (bT Y X) (Em Y (El (bT Y X) (El (dK Y Y X) (El (dK Y Y X) (En Y (Ep (aa (ae (ai ?_)))))))))
     refine Em Y (Em Y (Em Y (El (cH Y) (El (d4 Y Y X) ?_))))
     (refine aw 0 Y Y Y ?_ Y ?_;omega)
     refine Ep (aa (ai (Em Y (El (gv Y) (En Y (Ep (aD (aa (ai ?_)))))))))
     refine El (bI _ 1 Y Y X) (Em Y (Ep ?_))
     refine aR ((W3.set (j+i) ((c3+(W3.getD (j+i) 0+v.getD i 0)) % 4294967296),i+1,(c3+(W3.getD (j+i) 0+v.getD i 0)) / 4294967296)) (⟨h3o.set X,h3l.set (Nat.mod_lt _ S),hst⟩) (by (simp only []; omega)) Eh (.keep (gi X Y) (.nil))
    ·have hi:i=k+2:=by have:=h3s.le;omega
     subst hi
     have z1:=a9 h3l (j+(k+2))
     have h3v:BackR (win W2 j (k+3)) v (win W3 j (k+3)) v.length c3:=by rw [hk]; exact h3s
     obtain ⟨f4,f5⟩:=h3v.good (R:=lv (win W j (k+3)) % lv v) (x:=(W3.getD (j+(k+2)) 0+c3) % 4294967296) (by rw [lu2,hk]) (Nat.mod_lt _ g.V0) hv (by rw [hk]; exact f3) (by rw [hk,g9 X])
     rw [hk, ← lP X] at f5
     refine aX (av (av (aE (aa (ae (ai (Em Y (Em Y (El (d4 Y Y X) ?_)))))))))
     refine El (be 0 Y Y X) (Em Y (El (cH Y) (El (Co Y Y) (El (d4 Y Y X) ?_))))
     (refine aw 0 Y Y Y ?_ Y ?_;omega)
     refine Ep (aa (ae (ai (Em Y (El (fk Y Y X S) (El (cH Y) (En Y (Ep (aa ?_)))))))))
     refine aF ?_
     have e1:(q+18446744073709551616 - 1) % 18446744073709551616 % 4294967296=lv (win W j (k+3)) / lv v:=DF f1 hq1
     refine pw (⟨W3.set (j+(k+2)) ((W3.getD (j+(k+2)) 0+c3) % 4294967296),h3o.set X,h3l.set (Nat.mod_lt _ S),f5⟩:CF W v j k) Tryz.results166 (.tmp Y (aq (by rw [e1]))) (.keep (gi X (by rw [Nat.mod_eq_of_lt (show c3<4294967296 by omega)])) .nil)
end Tor
end
section
namespace Tor
open Go Go.RowKit Go.Proofs
theorem sh (Ee:List Nat) {j m:Nat} (h:j+m≤Ee.length):lv (Ee.drop j)=lv (win Ee j m)+4294967296^m*lv (Ee.drop (j+m)):=by
 have h1:=gg (Ee.drop j) m (by simp;omega)
 rw [List.drop_drop] at h1
 exact h1
theorem gA {Ee:List Nat} {j:Nat} (h:j<Ee.length):lv (Ee.drop j)=Ee.getD j 0+4294967296*lv (Ee.drop (j+1)):=by
 rw [fN h]; rfl
structure DivR (V A n e:Nat) (p:List Nat × List Nat × Nat):Prop where
 le:p.2.2≤e+1
 lu:p.1.length=n+e+1
 lq:p.2.1.length=e+1
 limU:bF p.1
 limQ:bF p.2.1
 zero : ∀ k,k<p.2.2→p.2.1.getD k 0=0
 lt:lv (p.1.drop p.2.2)<V
 val:lv p.1+lv p.2.1*V=A
theorem DivR.pre {V A n e j:Nat} {Ee Q:List Nat} (h:DivR V A n e (Ee,Q,j+1)) (hV:V<4294967296^n):j+(n+1)≤Ee.length∧lv (Ee.drop (j+(n+1)))=0∧lv (Ee.drop j)=lv (win Ee j (n+1))∧lv (win Ee j (n+1))<V*4294967296:=by
 have hle:j+1≤e+1:=h.le
 have hlu:Ee.length=n+e+1:=h.lu
 have hlt:lv (Ee.drop (j+1))<V:=h.lt
 have h1:j+(n+1)≤Ee.length:=by omega
 have h2:=gA (Ee:=Ee) (j:=j) X
 have h3:=sh Ee h1
 have hd:=a9 (show bF Ee from h.limU) j
 have h4:lv (Ee.drop j)<V*4294967296:=by
  rw [h2]
  generalize lv (Ee.drop (j+1))=x at *
  generalize Ee.getD j 0=y at *
  omega
 have h5:lv (Ee.drop (j+(n+1)))=0:=by
  rcases Nat.eq_zero_or_pos (lv (Ee.drop (j+(n+1)))) with h | h
  ·exact h
  ·exfalso
   have h6:4294967296^(n+1)≤4294967296^(n+1)*lv (Ee.drop (j+(n+1))):=Nat.le_mul_of_pos_right _ h
   have h7:V*4294967296<4294967296^(n+1):=by rw [Nat.pow_succ]; exact Nat.mul_lt_mul_of_pos_right hV S
   omega
 rw [h5,Nat.mul_zero,Nat.add_zero] at h3
 exact ⟨h1,h5,h3,h3▸h4⟩
theorem DivR.step {V A n e j q:Nat} {Ee Q U':List Nat} (h:DivR V A n e (Ee,Q,j+1)) (hV0:0<V) (hV:V<4294967296^n) (ho:ir Ee U' j (n+1)) (hl:bF U') (hr:lv (win U' j (n+1))=lv (win Ee j (n+1)) % V) (hq:q=lv (win Ee j (n+1)) / V) :
  DivR V A n e (U',Q.set j q,j):=by
 obtain ⟨p1,p2,p3,p4⟩:=h.pre hV
 obtain ⟨o1,o2,o3⟩:=ho
 have hle:j+1≤e+1:=h.le
 have hlq:Q.length=e+1:=h.lq
 have hqB:q<4294967296:=by rw [hq]; exact Nat.div_lt_of_lt_mul p4
 have h0:Q.getD j 0=0:=h.zero j (Nat.lt_succ_self j)
 have hs:=fO (l:=Q) (k:=j) (v:=q) X
 rw [h0,Nat.mul_zero,Nat.add_zero] at hs
 have d1:=gg Ee j X
 have d2:=gg U' j X
 have e1:=sh U' (j:=j) (m:=n+1) X
 rw [o3,p2,Nat.mul_zero,Nat.add_zero] at e1
 have hm:=Nat.div_add_mod (lv (win Ee j (n+1))) V
 have hv:lv Ee+lv Q*V=A:=h.val
 refine ⟨Nat.le_of_succ_le hle,o1.trans h.lu,by rw [List.length_set]; exact h.lq,hl,bF.set h.limQ hqB,fun k hk => ?_,?_,?_⟩
 ·simp only at hk ⊢
  rw [d5 X,if_neg X]; exact h.zero k (Nat.lt_succ_of_lt hk)
 ·show lv (U'.drop j)<V
  rw [e1,hr]; exact Nat.mod_lt _ hV0
 ·show lv U'+lv (Q.set j q)*V=A
  rw [hs, ← hv,d1,d2,o2,e1,p3,hr,hq]
  generalize lv (win Ee j (n+1))=w at *
  have e2:(lv Q+4294967296^j*(w / V))*V=lv Q*V+4294967296^j*(V*(w / V)):=by rw [Nat.add_mul,Nat.mul_assoc,Nat.mul_comm (w / V)]
  have e3:4294967296^j*w=4294967296^j*(V*(w / V))+4294967296^j*(w % V):=by rw [← Nat.mul_add,hm]
  rw [e2,e3]; omega
theorem DivR.start {V A n e:Nat} {Ee:List Nat} (hU:bF Ee) (hlu:Ee.length=n+e+1) (hA:lv Ee=A) (hlt:A<V*4294967296^(e+1)):DivR V A n e (Ee,List.replicate (e+1) 0,e+1):=by
 refine ⟨Nat.le_refl _,hlu,by simp,hU,bF.replicate _,fun k _=>cx _ _,?_,by simp [dT,hA]⟩
 show lv (Ee.drop (e+1))<V
 have h1:=gg Ee (e+1) X
 have h2:lv (Ee.drop (e+1))*4294967296^(e+1)<V*4294967296^(e+1):=by
  rw [Nat.mul_comm]; omega
 exact Nat.lt_of_mul_lt_mul_right h2
theorem DivR.finish {a b s n e:Nat} {Ee Q:List Nat} (h:DivR (b*2^s) (a*2^s) n e (Ee,Q,0)) (hb:0<b):lv Q=a / b∧lv Ee=(a % b)*2^s:=by
 have hp:=Nat.two_pow_pos s
 have hlt:lv Ee<b*2^s:=h.lt
 have hv:lv Ee+lv Q*(b*2^s)=a*2^s:=h.val
 have hq:lv Q=a / b:=by
  have h1:lv Q*b≤a:=by
   refine Nat.le_of_mul_le_mul_right (c:=2^s) ?_ hp
   rw [Nat.mul_assoc]; omega
  have h2:a<(lv Q+1)*b:=by
   refine Nat.lt_of_mul_lt_mul_right (a:=2^s) ?_
   rw [Nat.mul_assoc,Nat.add_mul]; omega
  have h3:lv Q≤a / b:=(Nat.le_div_iff_mul_le hb).2 h1
  have h4:a / b<lv Q+1:=Nat.div_lt_of_lt_mul (by rw [Nat.mul_comm]; exact h2)
  omega
 refine ⟨hq,?_⟩
 have hm:=Nat.div_add_mod a b
 rw [hq] at hv
 have e1:a*2^s=(b*(a / b))*2^s+(a % b)*2^s:=by rw [← Nat.add_mul,hm]
 have e2:a / b*(b*2^s)=(b*(a / b))*2^s:=by rw [← Nat.mul_assoc,Nat.mul_comm (a / b)]
 omega
def wz (Ee:List Nat) (s i:Nat):Nat:=(Ee.getD (i+1) 0*4294967296+Ee.getD i 0) / 2^s % 4294967296
theorem lQ (F:Nat→Nat) : ∀ (n i:Nat) (Ed:Nat→Nat),(∀ k,i≤k→k<i+n→Ed k=F k+4294967296*Ed (k+1))→Ed (i+n)=0→lv ((List.range' i n).map F)=Ed i
 | 0, i, Ed, _, h0 => by simpa [lv] using h0.symm
 | n + 1, i, Ed, h, h0 => by
  rw [List.range'_succ,List.map_cons,lv,lQ F n (i+1) Ed (fun k h1 h2=>h k X X) (by rw [← h0]; congr 1;omega),h i (Nat.le_refl _) X]
theorem yz {Ee:List Nat} (hU:bF Ee) {s i:Nat} (hs:s<32) (hi:i+1<Ee.length):lv (Ee.drop i) / 2^s=wz Ee s i+4294967296*(lv (Ee.drop (i+1)) / 2^s):=by
 have h1:=gA (Ee:=Ee) (j:=i) X
 have h2:=gA (Ee:=Ee) (j:=i+1) hi
 have hp:=Nat.two_pow_pos s
 obtain ⟨t,ht⟩ : ∃ t,4294967296=2^s*t:=⟨2^(32 - s),by rw [← Nat.pow_add,show s+(32 - s)=32 by omega]⟩
 have hd:=a9 hU i
 have e1:lv (Ee.drop i) / 2^s % 4294967296=wz Ee s i:=by
  unfold wz
  rw [h1,h2]
  generalize lv (Ee.drop (i+1+1))=W
  generalize Ee.getD (i+1) 0=x
  generalize Ee.getD i 0=y
  have:y+4294967296*(x+4294967296*W)=(x*4294967296+y)+2^s*(t*(4294967296*W)):=by
   rw [← Nat.mul_assoc (2^s), ← ht]; omega
  rw [this,Nat.add_mul_div_left _ _ hp]
  rw [show t*(4294967296*W)=4294967296*(t*W) by rw [Nat.mul_left_comm],Nat.add_mul_mod_self_left]
 have e2:lv (Ee.drop i) / 2^s / 4294967296=lv (Ee.drop (i+1)) / 2^s:=by
  rw [Nat.div_div_eq_div_mul,Nat.mul_comm, ← Nat.div_div_eq_div_mul]
  congr 1
  rw [h1]; omega
 have:=Nat.div_add_mod (lv (Ee.drop i) / 2^s) 4294967296
 rw [e1,e2] at this
 omega
def eZ (Ee:List Nat) (s n:Nat):List Nat:=(List.range' 0 n).map (wz Ee s)
theorem AK {Ee:List Nat} (hU:bF Ee) {s n:Nat} (hs:s<32) (hn:n<Ee.length) (h0:lv Ee<4294967296^n):lv (eZ Ee s n)=lv Ee / 2^s:=by
 have h1:lv (Ee.drop n)=0:=by
  have h2:=gg Ee n X
  rcases Nat.eq_zero_or_pos (lv (Ee.drop n)) with h | h
  ·exact h
  ·have:=Nat.le_mul_of_pos_right (4294967296^n) h;omega
 have:=lQ (wz Ee s) n 0 (fun k=>lv (Ee.drop k) / 2^s) (fun k _ hk=>yz hU hs X) (by rw [Nat.zero_add,h1]; exact Nat.zero_div _)
 unfold eZ
 rw [this]; rfl
theorem AL (Ee:List Nat) (s n:Nat):bF (eZ Ee s n):=fun d hd=>by
 obtain ⟨i,_,rfl⟩:=List.mem_map.1 hd
 exact Nat.mod_lt _ S
theorem oZ (F:Nat→Nat) {n i:Nat} (h:i<n):((List.range' 0 n).map F).getD i 0=F i:=by
 simp [List.getD,h]
theorem AM (Ee:List Nat) (s:Nat) {n i:Nat} (h:i<n):(eZ Ee s n).getD i 0=wz Ee s i:=oZ _ h
theorem AN (Ee:List Nat) (s n:Nat):(eZ Ee s n).length=n:=by unfold eZ;simp
theorem AO {l:List Nat} (h:gy l) : ∀ {k:Nat},l.length=k+1→l.getD k 0≠0:=by
 induction l with
 | nil => intro k h; simp at h
 | cons d l ih =>
  intro k hk
  cases l with
  | nil => simp at hk; subst hk; simpa using (show d ≠ 0 from h)
  | cons e l =>
   obtain ⟨j,rfl⟩ : ∃ j,k=j+1:=⟨k - 1,by simp at hk;omega⟩
   have:=ih h.tail (k:=j) (by simpa using hk)
   simpa using this
structure Shf (b:Nat) (l:List Nat) (s k:Nat):Prop where
 s32:s<32
 lim:bF l
 lo:2147483648*4294967296^(k+1)≤b*2^s
 hi:b*2^s<4294967296^(k+2)
theorem CG {b k:Nat} (hk:(aK b).length=k+2):Shf b (aK b) (32 - gh ((aK b).getD (k+1) 0)) k:=by
 have hl:=a6 b
 have ht:=AO (lH b) (k:=k+1) hk
 have hd:=a9 hl (k+1)
 generalize hx:(aK b).getD (k+1) 0=x at *
 obtain ⟨j1,j2⟩:=qO (x:=x) X ht
 have j3:=qN (x:=x) X
 have j4:=j8 (x:=x) (n:=32) X S
 have hb:b=lv ((aK b).take (k+1))+4294967296^(k+1)*x:=by
  have e:aK b=(aK b).take (k+2):=by rw [List.take_of_length_le X]
  have h1:=bM (l:=aK b) (k:=k+1) X
  rw [← e,bY,hx] at h1;exact h1
 have hlo:=gV (hl.take (k+1))
 rw [List.length_take_of_le X] at hlo
 generalize lv ((aK b).take (k+1))=y at *
 obtain ⟨t,ht2⟩ : ∃ t,gh x=t+1:=⟨gh x - 1,by omega⟩
 rw [ht2] at j2 j3 j4 ⊢
 rw [Nat.add_sub_cancel] at j2
 have p1:2^t*2^(32 - (t+1))=2147483648:=by rw [← Nat.pow_add,show t+(32 - (t+1))=31 by omega]
 have p2:2^(t+1)*2^(32 - (t+1))=4294967296:=by rw [← Nat.pow_add,show t+1+(32 - (t+1))=32 by omega]
 have hp:=Nat.two_pow_pos (32 - (t+1))
 refine ⟨by omega,hl,?_,?_⟩
 ·rw [← p1,hb]
  calc 2^t*2^(32 - (t+1))*4294967296^(k+1)≤x*2^(32 - (t+1))*4294967296^(k+1):=Nat.mul_le_mul_right _ (Nat.mul_le_mul_right _ j2)
   _=4294967296^(k+1)*x*2^(32 - (t+1)):=by rw [Nat.mul_comm,Nat.mul_assoc]
   _≤_:=Nat.mul_le_mul_right _ (Nat.le_add_left _ _)
 ·have h1:b<4294967296^(k+1)*(x+1):=by rw [Nat.mul_add,Nat.mul_one]; omega
  calc b*2^(32 - (t+1))<4294967296^(k+1)*(x+1)*2^(32 - (t+1)):=Nat.mul_lt_mul_of_pos_right h1 hp
   _≤4294967296^(k+1)*2^(t+1)*2^(32 - (t+1)):=Nat.mul_le_mul_right _ (Nat.mul_le_mul_left _ j3)
   _=4294967296^(k+2):=by rw [Nat.mul_assoc,p2, ← Nat.pow_succ]
theorem Shf.v {b s k:Nat} {l z:List Nat} (h:Shf b l s k) (hz:bF z) (hl:z.length=k+3) (hv:lv z=b*2^s) :
  bF (z.take (k+2))∧(z.take (k+2)).length=k+2∧lv (z.take (k+2))=b*2^s∧2147483648≤(z.take (k+2)).getD (k+1) 0:=by
 have h1:=gg z (k+2) X
 have h0:lv (z.drop (k+2))=0:=by
  rcases Nat.eq_zero_or_pos (lv (z.drop (k+2))) with h' | h'
  ·exact h'
  ·have:=Nat.le_mul_of_pos_right (4294967296^(k+2)) h';have:=h.hi;omega
 rw [h0,Nat.mul_zero,Nat.add_zero,hv] at h1
 have hlen:(z.take (k+2)).length=k+2:=by rw [List.length_take_of_le X]
 have hL:=hz.take (k+2)
 refine ⟨hL,hlen,h1.symm,?_⟩
 generalize z.take (k+2)=v at *
 have h2:=bM (l:=v) (k:=k+1) X
 rw [List.take_of_length_le X] at h2
 have h3:=gV (hL.take (k+1))
 rw [List.length_take_of_le X] at h3
 have h4:=h.lo
 rw [h1,h2] at h4
 generalize lv (v.take (k+1))=y at *
 generalize v.getD (k+1) 0=x at *
 generalize 4294967296^(k+1)=B at *
 rcases Nat.lt_or_ge x 2147483648 with h5 | h5
 ·have h6:B*x+B≤B*2147483648:=by rw [← Nat.mul_succ]; exact Nat.mul_le_mul_left _ h5
  rw [Nat.mul_comm 2147483648] at h4;omega
 ·exact h5
theorem Shf.u {a b s k e:Nat} {l:List Nat} (h:Shf b l s k) (ha:(aK a).length=k+2+e):a*2^s<b*2^s*4294967296^(e+1):=by
 have h1:=cY a
 rw [ha] at h1
 have h2:2^s≤2147483648:=Nat.pow_le_pow_right (n:=2) S (show s≤31 by have:=h.s32;omega)
 calc a*2^s<4294967296^(k+2+e)*2^s:=Nat.mul_lt_mul_of_pos_right h1 (Nat.two_pow_pos s)
  _≤4294967296^(k+2+e)*2147483648:=Nat.mul_le_mul_left _ h2
  _=2147483648*4294967296^(k+1)*4294967296^(e+1):=by rw [Nat.mul_assoc, ← Nat.pow_add,Nat.mul_comm,show k+1+(e+1)=k+2+e by omega]
  _≤b*2^s*4294967296^(e+1):=Nat.mul_le_mul_right _ h.lo
end Tor
end
section
namespace Tor
open Go Go.RowKit Go.Proofs
theorem AP:VT.le (one (.slice none 0 0)) (lJ 0):=VT.le_trans eX (fv (l := []) (fun _ h=>by cases h) Y)
theorem vn {a b:Nat} : (mq a b<0)=(a<b):=by unfold mq;split <;> simp_all <;> (try split) <;> omega
theorem si {b:Nat} (h:(aK b).length=1):(aK b).getD 0 0=b:=by
 have h1:=bM (l:=aK b) (k:=0) X
 rw [List.take_of_length_le X,bY] at h1
 simpa [lv] using h1.symm
theorem AQ {v:Nat} (h:v<4294967296):VT.le (slT .one 1 fun _=>one (.int .u32 (v:Nat))) (lJ v) :=
 VT.le_trans (cB (m := [v].length) (ψ:=fun i=>one (.int .u32 ([v].getD i 0:Nat))) Y (fun q hq=>by
  have hq:q<1:=hq
  have:q=0:=by omega
  subst this;rfl)) (fv (l := [v]) (fun d hd=>by simp at hd;omega) (by simp [lv]))
def m9:Nat→Nat→List Nat
 | 0, _ => []
 | n + 1, v => v % 4294967296 :: m9 n (v / 4294967296)
theorem og : ∀ n v,(m9 n v).length=n
 | 0, _ => rfl
 | n + 1, v => by rw [m9, List.length_cons, og n]
theorem oh : ∀ n v,bF (m9 n v)
 | 0, _ => fun d hd => by cases hd
 | n + 1, v => fun d hd => by
  rw [m9] at hd
  rcases List.mem_cons.1 hd with rfl | hd
  ·exact Nat.mod_lt _ S
  ·exact oh n _ d hd
theorem oi : ∀ n v,v<4294967296^n→lv (m9 n v)=v
 | 0, v, h => by simp at h; subst h; rfl
 | n + 1, v, h => by
  have:v / 4294967296<4294967296^n:=Nat.div_lt_of_lt_mul (by rw [Nat.mul_comm, ← Nat.pow_succ]; exact h)
  rw [m9,lv,oi n _ this]; omega
theorem sj : ∀ {z:List Nat},bF z→z=m9 z.length (lv z)
 | [], _ => rfl
 | d :: z, h => by
  have hd:=h.head
  have ih:=sj h.tail
  rw [List.length_cons,m9,lv]
  rw [show (d+4294967296*lv z) % 4294967296=d by omega,show (d+4294967296*lv z) / 4294967296=lv z by omega, ← ih]
theorem yA {l:List Nat} {s:Nat} (hl:bF l) (hs:s<32):lv l*2^s<4294967296^(l.length+1):=by
 rw [Nat.pow_succ]
 have h1:2^s≤4294967296:=Nat.pow_le_pow_right (n:=2) S (show s≤32 by omega)
 exact Nat.lt_of_lt_of_le (Nat.mul_lt_mul_of_pos_right (gV hl) (Nat.two_pow_pos s)) (Nat.mul_le_mul_left _ h1)
def CH (l:List Nat) (s:Nat) (hl:bF l) (hs:s<32):qQ l s:=⟨(0,m9 (l.length+1) (lv l*2^s)),og _ _,oh _ _,oi _ _ (yA hl hs)⟩
theorem wA (l:List Nat) (s:Nat) (hl:bF l) (h1:l.length≤1099511627776) (hs:s<32):Ok Tryz.prog 165 [co l,one (.int .i64 (s:Nat))] (slT .one (l.length+1) (fQ (m9 (l.length+1) (lv l*2^s)))) :=
 (sf l s hl h1 hs).ok fun p=>by
  have h:=sj p.2.2.1
  rw [p.2.1,p.2.2.2] at h
  rw [← h]
  exact Ent.sl List.mem_cons_self
theorem wB {z:List Nat} {q m:Nat} (h:q<m):fQ z (Int.toNat 0+q)=fQ (z.take m) q:=by
 have e:Int.toNat 0+q=q:=Nat.zero_add q
 rw [e]
 unfold fQ
 rw [show (z.take m).getD q 0=z.getD q 0 by simp [List.getD,List.getElem?_take,h]]
theorem AR {br:Option Nat} {T:TypeId} {n i s:Nat} {Ee:List Nat} (hi:i<n):Own.le (aI br T .one n n (upd (fun q=>one (.int .u32 ((if q<i then (eZ Ee s n).getD q 0 else 0:Nat):Int))) i (one (.int .u32 (((Ee.getD (i+1) 0*4294967296+Ee.getD i 0) / 2^s % 4294967296:Nat):Int)))))
  (aI br T .one n n (fun q=>one (.int .u32 ((if q<i+1 then (eZ Ee s n).getD q 0 else 0:Nat):Int)))):=bg (fun q hq=>by
 unfold upd
 by_cases h:q=i
 ·subst h;rw [if_pos Y,if_pos (Nat.lt_succ_self q),AM Ee s hi]; rfl
 ·rw [if_neg h]
  dsimp only
  by_cases h2:q<i
  ·rw [if_pos h2,if_pos (Nat.lt_succ_of_lt h2)]
  ·rw [if_neg h2,if_neg X])
attribute [local irreducible] J PJ aJ one slT bQ bC bv exT bZ eP aP aI slV VT.le Ret bJ
set_option maxRecDepth 20000 in
theorem pK (a b:Nat) (hb:b≠0) (ha:(aK a).length≤1099511627776):Ok Tryz.prog 144 [co (aK a),co (aK b)] (bv [lJ (a / b),lJ (a % b)]):=by
 have hcl:=jF (aK a) ha
 have hcm:=kF a b
 refine Ok.enter Tryz.func144 Y Tryz.ntmps144 Y (fun w O => ?_)
 by_cases h1:a<b
 ·rw [Nat.div_eq_of_lt h1,Nat.mod_eq_of_lt h1]
  have hlt:mq a b<0:=by rw [vn]; exact h1
  refine ae (ai (En Y (En Y (Ep (aa (ae (au (ae (ai ?_)))))))))
  refine Em Y (Em Y ?_)
  refine El (am (hcm) Y ⟨H,H,Er⟩) ?_
  refine El (sT (by assumption) (a7 Y Y)) (En Y (Ep (aa (aH Y (ae (ai (Em Y ?_)))))))
  refine El (am (hcl) Y ⟨H,Er⟩) ?_
  refine En Y (En Y (Ep (aa (aF (bK (aU ?_))))))
  refine cT Tryz.results144 (.tmp Y (AP)) (.tmp Y (cz _))
 ·have hlt : ¬ mq a b<0:=by rw [vn]; exact h1
  have hlen:=cd (Nat.le_of_not_lt h1)
  by_cases h2:(aK a).length≤2
  ·have hw1:=np (aK a) (a6 a) h2
   have hw2:=np (aK b) (a6 b) X
   rw [bY] at hw1 hw2
   have a64:a<18446744073709551616:=Nat.lt_of_lt_of_le (cY a) (Nat.pow_le_pow_right (n:=4294967296) S h2)
   have b64:b<18446744073709551616:=by omega
   have q64:a / b<18446744073709551616:=Nat.lt_of_le_of_lt (Nat.div_le_self _ _) a64
   have r64:a % b<18446744073709551616:=Nat.lt_of_le_of_lt (Nat.mod_le _ _) a64
   have hk1:=jD (a / b) q64
   have hk2:=jD (a % b) r64
   refine ae (ai (En Y (En Y (Ep (aa (ae (au (ae (ai ?_)))))))))
   refine Em Y (Em Y ?_)
   refine El (am (hcm) Y ⟨H,H,Er⟩) ?_
   refine El (sF (by assumption) (a7 Y Y)) (En Y (Ep (aa (aB Y (ae (ai (Em Y (El (aW Y) (El (sT X (m5 Y Y)) ?_)))))))))
   refine En Y (Ep (aa (aH Y (ae (ai (Em Y ?_))))))
   refine El (am (hw1) Y ⟨H,Er⟩) ?_
   refine Em Y ?_
   refine El (am (hw2) Y ⟨H,Er⟩) ?_
   refine En Y (En Y (Ep (aa (ae (a8 9 a4 Z S (Em Y (Em Y (El (jx Y Y X X) ?_))))))))
   refine El (am (hk1) Y ⟨H,Er⟩) ?_
   refine Em Y (Em Y (El (eK _ Y Y Y X) ?_))
   refine El (am (hk2) Y ⟨H,Er⟩) ?_
   refine En Y (Ep (En Y (Ep (aa (aF (bK (aU ?_)))))))
   refine cT Tryz.results144 (.tmp Y H) (.tmp Y H)
  ·by_cases h3:(aK b).length=1
   ·have hb1:=si h3
    have hd:=a9 (a6 b) 0
    have hsh:=yx (aK a) b (a6 a) ha X X
    rw [bY] at hsh
    have hr:=Nat.mod_lt a (show 0<b by omega)
    refine ae (ai (En Y (En Y (Ep (aa (ae (au (ae (ai ?_)))))))))
    refine Em Y (Em Y ?_)
    refine El (am (hcm) Y ⟨H,H,Er⟩) ?_
    refine El (sF (by assumption) (a7 Y Y)) (En Y (Ep (aa (aB Y (ae (ai (Em Y (El (aW Y) (El (sF X (m5 Y Y)) ?_)))))))))
    refine En Y (Ep (aa (aB Y (ae (ai (Em Y (El (aW Y) (El (sT X (cm Y Y)) (En Y ?_)))))))))
    refine Ep (aa (aH Y (ae (ai (Em Y (Em Y (El (f9 Y Y X X) (El (aM Y) ?_))))))))
    refine El (am (hsh) Y ⟨H,(aq (by rw [show (aK b).getD (Int.toNat 0) 0=b from hb1])),Er⟩) ?_
    refine Em Y (El (ar Y Y) (El (ar Y Y) (En Y (En Y (Ep (aa (ae (ai (Em Y ?_)))))))))
    refine Em Y (gm Y Y Y Y (En Y (En Y (Ep (aa (aF (bK (aU ?_))))))))
    refine cT Tryz.results144 (.tmp Y H) (.tmp Y (AQ X))
   ·have hdb:aK b ≠ []:=fun h=>hb (by rw [← bY b,h]; rfl)
    obtain ⟨k,hk⟩ : ∃ k,(aK b).length=k+2:=⟨(aK b).length - 2,by have:=List.length_pos_iff.2 hdb;omega⟩
    obtain ⟨e,he⟩ : ∃ e,(aK a).length=k+2+e:=⟨(aK a).length - (k+2),by omega⟩
    have hx:=a9 (a6 b) ((aK b).length - 1)
    have S0:=CG hk
    rw [show k+1=(aK b).length - 1 by omega] at S0
    have hlz:=AH ((aK b).getD ((aK b).length - 1) 0) hx
    generalize 32 - gh ((aK b).getD ((aK b).length - 1) 0)=s at S0 hlz
    have s32:=S0.s32
    have hsv:=wA (aK b) s (a6 b) X s32
    have hsu:=sf (aK a) s (a6 a) ha s32
    refine ae (ai (En Y (En Y (Ep (aa (ae (au (ae (ai ?_)))))))))
    refine Em Y (Em Y ?_)
    refine El (am (hcm) Y ⟨H,H,Er⟩) ?_
    refine El (sF (by assumption) (a7 Y Y)) (En Y (Ep (aa (aB Y (ae (ai (Em Y (El (aW Y) (El (sF X (m5 Y Y)) ?_)))))))))
    refine En Y (Ep (aa (aB Y (ae (ai (Em Y (El (aW Y) (El (sF X (cm Y Y)) (En Y ?_)))))))))
    refine Ep (aa (aB Y (az (aD (aa (ae (ai (Em Y (Em Y ?_)))))))))
    refine El (aW Y) (El (cg _ 1 Y Y X X) (El (aC Y Y X) (El (aM Y) ?_)))
    refine El (am (hlz) Y ⟨H,Er⟩) ?_
    refine Em Y (El (aW Y) (En Y (En Y (Ep (aa (ae (cp (Γ' := [(0,_),(1,_),(4,_),(5,_),(10,_),(11,_)]) Eg (SubM.refl _) ?_)))))))
    refine Cp (σ:=qQ (aK a) s) 2 (CH (aK a) s (a6 a) s32) (fun p=>one (slV (some p.1.1) ((aK a).length+1) ((aK a).length+1))) (fun p => [aI (some p.1.1) 86 .one ((aK a).length+1) ((aK a).length+1) (fQ p.1.2)]) a4 Z S ?_
    refine vx Y (fun s B=>ab Y) Y ?_
    refine vx Y (fun s B=>ab Y) Y ?_
    refine vc Y hsu (fun s=>rfl) ⟨H,H,Er⟩ Y ?_
    refine vx Y (fun s B=>ab Y) Y ?_
    refine vx Y (fun s B=>ab Y) Y ?_
    refine vx Y (fun s B=>am hsv Y ⟨H,H,Er⟩) Y ?_
    refine vx Y (fun s B=>ab Y) Y ?_
    refine vx Y (fun s B=>ab Y) Y ?_
    refine vx Y (fun s B=>fT Y Y Y Y (fun _=>rfl) X X X X) Y ?_
    refine vd Y Z (fun s B=>ah Y) Y ?_
    refine vx Y (fun s B=>ah Y) Y ?_
    refine .nil (fun p => ?_)
    obtain ⟨⟨bu,Ee⟩,hu1,hu2,hu3⟩:=p
    dsimp only at hu1 hu2 hu3 ⊢
    rw [bY] at hu3
    rw [he] at hu1
    rw [bY,hk,he]
    obtain ⟨z,hz⟩ : ∃ z,z=m9 (k+2+1) (b*2^s):=⟨_,rfl⟩
    have z1:=og (k+2+1) (b*2^s)
    have z2:=oh (k+2+1) (b*2^s)
    have z3:=oi (k+2+1) (b*2^s) (Nat.lt_of_lt_of_le S0.hi (Nat.pow_le_pow_right S X))
    rw [← hz] at z1 z2 z3 ⊢
    obtain ⟨v1,v2,v3,v4⟩:=S0.v z2 z1 z3
    refine gI (Γ' := [(0,slT .one (k+2+e) (fQ (aK a))),(4,_),(5,_),(10,_),(11,one (.int .i64 ((k+2:Nat):Int))),(12,one (slV (some bu) (k+2+e+1) (k+2+e+1))),(13,co (z.take (k+2)))]) (.cons Y (cB he (fun _ _=>rfl)) (.cons Y H (.cons Y H (.cons Y H (.cons Y H (.cons Y H (.cons Y ?_ .nil))))))) (SubM.refl _) ?_
    ·exact cB (by rw [v2]; omega) (fun q hq=>wB X)
    generalize z.take (k+2)=v at *
    have hV0:0<b*2^s:=Nat.mul_pos X (Nat.two_pow_pos s)
    have hVn:=S0.hi
    have hA:=S0.u he
    refine aa (ae (ai (Em Y (El (aW Y) (Em Y (El (cg _ _ Y Y X X) (El (bI _ 1 Y Y X) ?_)))))))
    refine bV (e+1) (e+1) Y Y X X (Nat.le_refl _) Y Y X Y Y (fun bz => ?_)
    refine En Y (Ep (aa (ae (ae (ai (Em Y (El (aW Y) (Em Y (El (cg _ _ Y Y X X) ?_)))))))))
    refine En Y (Ep (aa (au (cp (Γ' := [(4,_),(5,_),(10,_),(11,_),(12,_),(13,_),(14,_),(15,_)]) Eg (SubM.refl _) ?_))))
    refine bD (σ:=List Nat × List Nat × Nat) (Γk := [(4,_),(5,_),(10,_),(11,_),(12,_),(13,_),(14,_)]) Eg (fun p => [(15,one (.int .i64 ((p.2.2:Nat) - 1:Int)))]) (fun p M0=>((M0.set 0 (aI (some bz) 86 .one (e+1) (e+1) (fQ p.2.1))).set 1 (aI (some bu) 86 .one (k+2+e+1) (k+2+e+1) (fQ p.1)))) (fun p=>DivR (b*2^s) (a*2^s) (k+2) e p) (fun p=>p.2.2) ((Ee,List.replicate (e+1) 0,e+1)) (DivR.start hu2 hu1 hu3 hA) Eh (.keep (bg (fun q _=>by unfold fQ;rw [cx]; rfl)) (.keep Ek (.nil))) (fun p hp => ?_)
    refine bU (Γ' := [(15,_),(4,_),(5,_),(10,_),(11,_),(12,_),(13,_),(14,_)]) (M' := [_,_]) Y Y ?_
    obtain ⟨U1,Q,c⟩:=p
    dsimp only at hp ⊢
    have hu1:U1.length=k+2+e+1:=hp.lu
    have hq1:Q.length=e+1:=hp.lq
    have hcl:c≤e+1:=hp.le
    refine ae (ae (ai (Em Y (El (fh Y Y) (Ep (aa ?_))))))
    cases c with
    | zero =>
     refine nl Y X (aX (av (av (aE (aa (ae (ai (Em Y ?_))))))))
     obtain ⟨f1,f2⟩:=hp.finish X
     refine bV (k+2) (k+2) Y Y Y Y (Nat.le_refl _) Y Y X Y Y (fun br => ?_)
     refine En Y (Ep (aa (ae (ae (ai (Em Y (Em Y (Ep (aa ?_)))))))))
     refine au (cp (Γ' := [(4,_),(5,_),(10,_),(12,_),(14,_),(16,_),(102,_),(103,_)]) Eg (SubM.refl _) ?_)
     refine bD (σ:=Nat) (Γk := [(4,_),(5,_),(10,_),(12,_),(14,_),(16,_),(102,_)]) Eg (fun i => [(103,one (.int .i64 (i:Nat)))]) (fun i M0=>(M0.set 0 (aI (some br) 86 .one (k+2) (k+2) (fun q=>one (.int .u32 ((if q<i then (eZ U1 s (k+2)).getD q 0 else 0:Nat):Int)))))) (fun i=>i≤k+2) (fun i=>k+2 - i) (0) (Nat.zero_le _) Eh (.keep Ek (.keep Ek (.keep Ek (.nil)))) (fun i hi => ?_)
     refine bU (Γ' := [(103,_),(4,_),(5,_),(10,_),(12,_),(14,_),(16,_),(102,_)]) (M' := [_,_,_]) Y Y (ae (ai (El (a7 Y Y) (Ep (aa (ae ?_))))))
     refine qr Y (fun hc => ?_) (fun hc => ?_)
     ·have hik:i<k+2:=by omega
      have g0:=a9 (show bF U1 from hp.limU) i
      have g1:=a9 (show bF U1 from hp.limU) (i+1)
      refine az (aa (ae (au (ae (ai (Em Y (En Y (Ep (aa ?_)))))))))
      refine a8 18 a4 Z S (Em Y (Em Y (Em Y (Em Y (El (bI _ 1 Y Y X) (El (ao Y Y X) (El (be 2 Y Y X) (El (bT Y X) (El (kB (s:=32) Y Y X X) ?_)))))))))
      refine Em Y (Em Y (El (ao Y Y X) (El (be 2 Y Y X) (El (bT Y X) (El (kA Y Y X X) (Em Y ?_))))))
      refine El (kC Y Y (by (show _<64;omega))) ?_
      refine El (cH Y) (Ep (El (ao Y Y X) ?_))
      (refine aw 0 Y Y Y ?_ Y ?_;omega)
      refine Ep (aD (aa (ai (El (bI _ 1 Y Y X) (Em Y (Ep ?_))))))
      refine aR (i+1) (by assumption) X Eh (.keep (AR hik) (.keep Ek (.keep Ek (.nil))))
     ·have hik:i=k+2:=by omega
      subst hik
      refine aX (av (av (aE (aa (ae (ai (Em Y (Em Y (En Y ?_)))))))))
      refine En Y (Ep (aa (aF ?_)))
      have hlU:lv U1<4294967296^(k+2):=Nat.lt_trans (show lv (U1.drop 0)<_ from hp.lt) hVn
      have hrv:lv (eZ U1 s (k+2))=a % b:=by rw [AK hp.limU s32 (by dsimp only;omega) hlU,f2,Nat.mul_div_cancel _ (Nat.two_pow_pos s)]
      refine cq (t:=5) (i:=0) Y Y (cq (t:=4) (i:=0) Y Y ?_)
      refine cT Tryz.results144 (.tmp Y (VT.le_trans (cB (m:=Q.length) (ψ:=fQ Q) hq1.symm (fun _ _=>rfl)) (fv hp.limQ f1))) (.tmp Y (VT.le_trans (cB (m:=(eZ U1 s (k+2)).length) (ψ:=fQ (eZ U1 s (k+2))) (AN _ _ _).symm (fun q hq=>by rw [if_pos hq])) (fv (AL _ _ _) hrv)))
    | succ j =>
     obtain ⟨p1,p2,p3,p4⟩:=hp.pre hVn
     have en:((j+1:Nat):Int) - 1=(j:Nat):=by omega
     rw [en]
     refine nk Y X (az (aa (ae (au (ai (Em Y (Em Y (Em Y (Em Y ?_)))))))))
     refine Em Y (Em Y (El (bI _ _ Y Y X) (El (bI _ 1 Y Y X) (El (x7 Y Y Y X X X) (Em Y ?_)))))
     refine gw (Min := [aI (some bu) 86 .one (k+2+e+1) (k+2+e+1) (fQ U1)]) (Kp := [aI (some bz) 86 .one (e+1) (e+1) (fQ Q)]) (yy bu (k+2+e+1) j (k+2+e+1 - j) k U1 v hp.limU v1 hu1 X v2 X v4 (by rw [v3]; exact p4)) Y ⟨aq (by rw [show j+(k+2)+1 - j=k+3 by omega]; rfl),H,Er⟩ (List.Perm.swap _ _ _) Y Y (fun r => ?_)
     obtain ⟨U2,o1,o2,o3⟩:=r
     dsimp only
     refine xL (List.Perm.swap _ _ _) (El (ao Y Y X) ?_)
     (refine aw 0 Y Y Y ?_ Y ?_;omega)
     refine Ep (aD (aa (ai (Em Y (El (eo Y Y (aO X X)) (En Y (Ep ?_)))))))
     refine aR ((U2,Q.set j (lv (win U1 j (k+3)) / lv v),j)) (hp.step hV0 hVn o1 o2 (by rw [o3,v3]) (by rw [v3])) (by (simp only []; omega)) Eh (.keep (gi X Y) (.keep Ek (.nil)))
end Tor
end
section
namespace Tor
open Go Go.RowKit Go.Proofs
theorem vo {A B:Nat} (hB:0<B) (h:A % B=0):(-(A:Int)) / B = -((A / B:Nat):Int)∧(-(A:Int)) % B=0:=by
 have hm:=Nat.div_add_mod A B
 refine (Int.ediv_emod_unique X).2 ⟨?_,by omega,by omega⟩
 have e:((B*(A / B)+A % B:Nat):Int)=(A:Int):=by rw [hm]
 rw [h] at e
 rw [Int.natCast_add,Int.natCast_mul] at e
 rw [Int.mul_neg]; omega
theorem vq {A B:Nat} (hB:0<B) (h:A % B≠0):(-(A:Int)) / B = -((A / B+1:Nat):Int)∧(-(A:Int)) % B=((B - A % B:Nat):Int):=by
 have hm:=Nat.div_add_mod A B
 have hl:=Nat.mod_lt A hB
 refine (Int.ediv_emod_unique X).2 ⟨?_,by omega,by omega⟩
 have e:((B*(A / B)+A % B:Nat):Int)=(A:Int):=by rw [hm]
 rw [Int.natCast_add,Int.natCast_mul] at e
 rw [Int.mul_neg,Int.natCast_add,Int.mul_add]
 omega
theorem vr {a b:Int} (hb:b≠0):(0≤a→a / b=(if b<0 then -((a.natAbs / b.natAbs:Nat):Int) else ((a.natAbs / b.natAbs:Nat):Int))∧a % b=((a.natAbs % b.natAbs:Nat):Int)) ∧
  (a<0→a.natAbs % b.natAbs=0→a / b=(if b<0 then ((a.natAbs / b.natAbs:Nat):Int) else -((a.natAbs / b.natAbs:Nat):Int))∧a % b=0) ∧
  (a<0→a.natAbs % b.natAbs≠0→a / b=(if b<0 then ((a.natAbs / b.natAbs+1:Nat):Int) else -((a.natAbs / b.natAbs+1:Nat):Int))∧a % b=((b.natAbs - a.natAbs % b.natAbs:Nat):Int)):=by
 have hB:0<b.natAbs:=by omega
 generalize hA:a.natAbs=A
 generalize hBb:b.natAbs=B at *
 have key:(0≤a→a / (B:Int)=((A / B:Nat):Int)∧a % (B:Int)=((A % B:Nat):Int)) ∧
   (a<0→A % B=0→a / (B:Int) = -((A / B:Nat):Int)∧a % (B:Int)=0) ∧
   (a<0→A % B≠0→a / (B:Int) = -((A / B+1:Nat):Int)∧a % (B:Int)=((B - A % B:Nat):Int)):=by
  refine ⟨fun h => ?_,fun h h0 => ?_,fun h h0 => ?_⟩
  ·have:a=(A:Int):=by omega
   rw [this]; exact ⟨(Int.natCast_ediv A B).symm,(Int.natCast_emod A B).symm⟩
  ·have:a = -(A:Int):=by omega
   rw [this]; exact vo hB h0
  ·have:a = -(A:Int):=by omega
   rw [this]; exact vq hB h0
 by_cases hn:b<0
 ·have e:b = -(B:Int):=by omega
  simp only [if_pos hn]
  rw [e,Int.ediv_neg,Int.emod_neg]
  refine ⟨fun h => ?_,fun h h0 => ?_,fun h h0 => ?_⟩
  ·obtain ⟨k1,k2⟩:=key.1 h;exact ⟨by rw [k1],k2⟩
  ·obtain ⟨k1,k2⟩:=key.2.1 h h0;exact ⟨by rw [k1,Int.neg_neg],k2⟩
  ·obtain ⟨k1,k2⟩:=key.2.2 h h0;exact ⟨by rw [k1,Int.neg_neg],k2⟩
 ·have e:b=(B:Int):=by omega
  simp only [if_neg hn]
  rw [e]; exact key
theorem eR {v:Nat} (h:(aK v).length=0):v=0:=by
 rw [← bY v,List.length_eq_zero_iff.1 h]; rfl
theorem sk:aK 1 = [1]:=by rw [gU S]; rfl
theorem yB:VT.le (slT .one 1 fun _=>one (.int .u32 1)) (co (aK 1)):=by
 rw [sk]
 exact cB Y (fun q hq=>by
  have hq:q=0:=by omega
  subst hq;rfl)
theorem vt (p:Prop) [Decidable p] (x:Int):(if (!(true == decide p))=true then -x else x)=(if p then x else -x):=by by_cases h:p <;> simp [h]
theorem AS (p:Prop) [Decidable p] (x:Int):(if (!(false == decide p))=true then -x else x)=(if p then -x else x):=by by_cases h:p <;> simp [h]
attribute [local irreducible] J PJ aJ one slT bQ bC bv exT bZ eP aP aI slV VT.le Ret bJ
set_option maxRecDepth 20000 in
theorem dt (a b:Int) (hb:b≠0) (ha:bm a) (hbs:bm b):Ok Tryz.prog 95 [aL a,aL b] (bv [aL (a / b),aL (a % b),one (.int .i64 0)]):=by
 obtain ⟨g1,g2,g3⟩:=vr (a:=a) hb
 have hb0:(aK b.natAbs).length≠0:=fun h=>hb (by have:=eR h;omega)
 have hB:b.natAbs≠0:=by omega
 have hdiv:=pK a.natAbs b.natAbs hB ha
 have ha':(aK a.natAbs).length≤1099511627776:=ha
 have hb':(aK b.natAbs).length≤1099511627776:=hbs
 have hlt:=Nat.mod_lt a.natAbs (Nat.pos_of_ne_zero hB)
 have hr0:(aK (a.natAbs % b.natAbs)).length=0↔a.natAbs % b.natAbs=0:=⟨eR,fun h=>by rw [h]; rfl⟩
 have hql:(aK (a.natAbs / b.natAbs)).length≤1099511627776:=Nat.le_trans (cd (Nat.div_le_self _ _)) ha'
 have hmin:=ob b.natAbs (a.natAbs % b.natAbs) (Nat.le_of_lt hlt) hb'
 have hplus:=vj (a.natAbs / b.natAbs) 1 hql (by rw [sk]; decide)
 have hv1:=fun n=>dE n (a.natAbs / b.natAbs)
 have hv2:=fun n=>dE n (a.natAbs % b.natAbs)
 have hv3:=fun n=>dE n (a.natAbs / b.natAbs+1)
 have hv4:=fun n=>dE n (b.natAbs - a.natAbs % b.natAbs)
 unfold aL at *
 refine Ok.enter Tryz.func95 Y Tryz.ntmps95 Y (fun w O => ?_)
 by_cases hn:a<0
 ·by_cases hr:a.natAbs % b.natAbs=0
  ·have hr1:=hr0.2 hr
   refine ae (ai ?_)
   refine aS Y Y (ltN Y) (fun b2 => ?_)
   refine aS Y Y (ltN Y) (fun b3 => ?_)
   refine aG (T:=37) Y (ltN Y) (fun b4 => ?_)
   refine aG (T:=37) Y (ltN Y) (fun b5 => ?_)
   refine En Y (Ep (aa (ae (a8 7 a4 Z S (El (aj Y) (El (ak 3 Y Y Y) ?_))))))
   refine El (am (cZ _) Y ⟨(cz _),Er⟩) ?_
   refine El (aj Y) (El (ak 2 Y Y Y) ?_)
   refine El (am (cZ _) Y ⟨(cz _),Er⟩) ?_
   refine En Y (Ep (En Y (Ep (aa (ae (ae (ai (Em Y (El (aW Y) ?_)))))))))
   refine El (sF X (cm Y Y)) (Ep (aa (aB Y (az (aa (ae (ai (Em Y (Em Y ?_)))))))))
   refine El (am (hdiv) Y ⟨H,H,Er⟩) ?_
   refine Em Y (El (ar Y Y) (El (ar Y Y) (En Y (En Y (Ep (aa (ae (ai (Em Y ?_)))))))))
   refine El (am (cZ _) Y ⟨H,Er⟩) ?_
   refine En Y (Ep (aa (ae (ae (ai (El (aj Y) (El (sT (by assumption) (ak 3 Y Y Y)) (Em Y (Eo (ab Y) ?_)))))))))
   refine Eo (aW Y) (Eo (sF X (db Y Y)) (El (bp Y Y) (Ep (aa (aB Y (az (aa (ae (ai ?_)))))))))
   refine El (aj Y) (El (sT (by assumption) (ak 3 Y Y Y)) (El (aj Y) (El (ak 2 Y Y Y) (El (jq Y Y) (Em Y ?_)))))
   refine El (am (hv1 _) Y ⟨H,H,Er⟩) ?_
   refine Em Y ?_
   refine El (am (hv2 _) Y ⟨H,(cz _),Er⟩) ?_
   refine aA 1 Y Y Y Y Y (leN Y) Y (aA 0 Y Y Y Y Y (leN Y) Y (En Y (Ep (aa (aF ?_)))))
   refine jk Tryz.results95 (.cellB 1 Y Y Y (cf (by rw [(g2 hn hr).1]; exact vt _ _))) (.cellB 0 Y Y Y (cf (by rw [(g2 hn hr).2,hr]; rfl))) (.tmp Y H)
  ·have hr1:(aK (a.natAbs % b.natAbs)).length≠0:=fun h=>hr (hr0.1 h)
   refine ae (ai ?_)
   refine aS Y Y (ltN Y) (fun b2 => ?_)
   refine aS Y Y (ltN Y) (fun b3 => ?_)
   refine aG (T:=37) Y (ltN Y) (fun b4 => ?_)
   refine aG (T:=37) Y (ltN Y) (fun b5 => ?_)
   refine En Y (Ep (aa (ae (a8 7 a4 Z S (El (aj Y) (El (ak 3 Y Y Y) ?_))))))
   refine El (am (cZ _) Y ⟨(cz _),Er⟩) ?_
   refine El (aj Y) (El (ak 2 Y Y Y) ?_)
   refine El (am (cZ _) Y ⟨(cz _),Er⟩) ?_
   refine En Y (Ep (En Y (Ep (aa (ae (ae (ai (Em Y (El (aW Y) ?_)))))))))
   refine El (sF X (cm Y Y)) (Ep (aa (aB Y (az (aa (ae (ai (Em Y (Em Y ?_)))))))))
   refine El (am (hdiv) Y ⟨H,H,Er⟩) ?_
   refine Em Y (El (ar Y Y) (El (ar Y Y) (En Y (En Y (Ep (aa (ae (ai (Em Y ?_)))))))))
   refine El (am (cZ _) Y ⟨H,Er⟩) ?_
   refine En Y (Ep (aa (ae (ae (ai (El (aj Y) (El (sT (by assumption) (ak 3 Y Y Y)) (Em Y (Eo (ab Y) ?_)))))))))
   refine Eo (aW Y) (Eo (sT X (db Y Y)) (El (bp Y Y) (Ep (aa (aH Y (ai (Em Y ?_)))))))
   refine El (am (cZ _) Y ⟨H,Er⟩) ?_
   refine gm Y Y Y Y ?_
   refine El (am (hplus) Y ⟨H,(yB),Er⟩) ?_
   refine Em Y (Em Y ?_)
   refine El (am (hmin) Y ⟨H,H,Er⟩) ?_
   refine En Y (En Y (Ep (aa (ae (ai (El (aj Y) (El (sT (by assumption) (ak 3 Y Y Y)) (El (aj Y) (El (ak 2 Y Y Y) ?_)))))))))
   refine El (jq Y Y) (Em Y ?_)
   refine El (am (hv3 _) Y ⟨H,H,Er⟩) ?_
   refine Em Y ?_
   refine El (am (hv4 _) Y ⟨H,H,Er⟩) ?_
   refine aA 1 Y Y Y Y Y (leN Y) Y (aA 0 Y Y Y Y Y (leN Y) Y (En Y (Ep (aa (aF ?_)))))
   refine jk Tryz.results95 (.cellB 1 Y Y Y (cf (by rw [(g3 hn hr).1]; exact vt _ _))) (.cellB 0 Y Y Y (cf (by rw [(g3 hn hr).2]; rfl))) (.tmp Y H)
 ·refine ae (ai ?_)
  refine aS Y Y (ltN Y) (fun b2 => ?_)
  refine aS Y Y (ltN Y) (fun b3 => ?_)
  refine aG (T:=37) Y (ltN Y) (fun b4 => ?_)
  refine aG (T:=37) Y (ltN Y) (fun b5 => ?_)
  refine En Y (Ep (aa (ae (a8 7 a4 Z S (El (aj Y) (El (ak 3 Y Y Y) ?_))))))
  refine El (am (cZ _) Y ⟨(cz _),Er⟩) ?_
  refine El (aj Y) (El (ak 2 Y Y Y) ?_)
  refine El (am (cZ _) Y ⟨(cz _),Er⟩) ?_
  refine En Y (Ep (En Y (Ep (aa (ae (ae (ai (Em Y (El (aW Y) ?_)))))))))
  refine El (sF X (cm Y Y)) (Ep (aa (aB Y (az (aa (ae (ai (Em Y (Em Y ?_)))))))))
  refine El (am (hdiv) Y ⟨H,H,Er⟩) ?_
  refine Em Y (El (ar Y Y) (El (ar Y Y) (En Y (En Y (Ep (aa (ae (ai (Em Y ?_)))))))))
  refine El (am (cZ _) Y ⟨H,Er⟩) ?_
  refine En Y (Ep (aa (ae (ae (ai (El (aj Y) (El (sF (by assumption) (ak 3 Y Y Y)) (Em Y (sg0 Y Y Y Y ?_)))))))))
  refine sg0 Y Y Y Y (sg0 Y Y Y Y (El (bE Y Y) (Ep (aa (aB Y (az (aa (ae (ai ?_)))))))))
  refine El (aj Y) (El (sF (by assumption) (ak 3 Y Y Y)) (El (aj Y) (El (ak 2 Y Y Y) (El (jq Y Y) (Em Y ?_)))))
  refine El (am (hv1 _) Y ⟨H,H,Er⟩) ?_
  refine Em Y ?_
  refine El (am (hv2 _) Y ⟨H,(cz _),Er⟩) ?_
  refine aA 1 Y Y Y Y Y (leN Y) Y (aA 0 Y Y Y Y Y (leN Y) Y (En Y (Ep (aa (aF ?_)))))
  refine jk Tryz.results95 (.cellB 1 Y Y Y (cf (by rw [(g1 X).1]; exact AS _ _))) (.cellB 0 Y Y Y (cf (by rw [(g1 X).2]; rfl))) (.tmp Y H)
end Tor
end
section
namespace Tor
open Go Go.RowKit Go.Proofs
theorem DG {a b:Nat} (ha:a<4294967296) (hb:b<4294967296):a*b<18446744073709551616:=by
 have:=lI ha hb (c:=0) (d:=0) S S;omega
structure PowR (p v:Nat) (s:Nat × Nat × Nat):Prop where
 r:s.1<p
 a:s.2.1<p
 e:s.2.2<18446744073709551616
 v:s.1*s.2.1^s.2.2 % p=v
theorem sn (a e p:Nat):a^e % p=((a*a % p)^(e / 2)*(if e % 2=1 then a else 1)) % p:=by
 have h1:a^e=(a*a)^(e / 2)*(if e % 2=1 then a else 1):=by
  have he:=Nat.div_add_mod e 2
  conv=>lhs;rw [← he]
  rw [Nat.pow_add,Nat.pow_mul,Nat.pow_two]
  rcases Nat.mod_two_eq_zero_or_one e with h | h <;> simp [h]
 rw [h1,Nat.mul_mod,Nat.pow_mod, ← Nat.mul_mod]
theorem so {p k:Nat} (hk:k≤p) (hp:p<4294967296):(p+18446744073709551616 - k) % 18446744073709551616=p - k:=by omega
theorem PowR.start {p a e:Nat} (hp:0<p) (ha:a<p) (he:e<18446744073709551616):PowR p (a^e % p) (1 % p,a,e) :=
 ⟨Nat.mod_lt _ hp,ha,he,by show 1 % p*a^e % p=_;rw [Nat.mod_mul_mod,Nat.one_mul]⟩
theorem PowR.odd {p v r a e:Nat} (h:PowR p v (r,a,e)) (h1:e % 2=1):PowR p v (r*a % p,a*a % p,e / 2):=by
 have hp:0<p:=Nat.lt_of_le_of_lt (Nat.zero_le _) h.r
 have he:e<18446744073709551616:=h.e
 refine ⟨Nat.mod_lt _ hp,Nat.mod_lt _ hp,by show e / 2<_;omega,?_⟩
 have hv:r*a^e % p=v:=h.v
 show r*a % p*(a*a % p)^(e / 2) % p=v
 have hR:r*a^e % p=r*((a*a % p)^(e / 2)*a) % p:=by rw [Nat.mul_mod,sn a e p,if_pos h1, ← Nat.mul_mod]
 rw [← hv,hR,Nat.mod_mul_mod,Nat.mul_assoc,Nat.mul_comm a]
theorem PowR.even {p v r a e:Nat} (h:PowR p v (r,a,e)) (h1 : ¬ e % 2=1):PowR p v (r,a*a % p,e / 2):=by
 have hp:0<p:=Nat.lt_of_le_of_lt (Nat.zero_le _) h.r
 have he:e<18446744073709551616:=h.e
 refine ⟨h.r,Nat.mod_lt _ hp,by show e / 2<_;omega,?_⟩
 have hv:r*a^e % p=v:=h.v
 show r*(a*a % p)^(e / 2) % p=v
 rw [← hv,Nat.mul_mod r (a^e),sn a e p,if_neg h1,Nat.mul_one, ← Nat.mul_mod]
theorem PowR.done {p v r a:Nat} (h:PowR p v (r,a,0)):r=v:=by
 have hv:r*a^0 % p=v:=h.v
 rw [Nat.pow_zero,Nat.mul_one,Nat.mod_eq_of_lt h.r] at hv;exact hv
theorem yC {l:List Nat} {n p r:Nat} (hn:n<l.length) (hr:r=lv (l.drop (n+1)) % p):(r*4294967296+l.getD n 0) % p=lv (l.drop n) % p:=by
 rw [gA hn,hr,Nat.add_comm (l.getD n 0),Nat.mul_comm 4294967296,Nat.add_mod,Nat.mod_mul_mod, ← Nat.add_mod]
theorem AT {a:Int} {p:Nat} (hp:0<p) (hn:a<0) (h0:0<a.natAbs % p):p - a.natAbs % p=(a % (p:Int)).toNat:=by
 have:=(vq (A:=a.natAbs) hp X).2
 have e : -((a.natAbs:Nat):Int)=a:=by omega
 rw [e] at this;rw [this]; rfl
theorem yD {a:Int} {p:Nat} (hp:0<p) (hn:a<0) (h0 : ¬ 0<a.natAbs % p):a.natAbs % p=(a % (p:Int)).toNat:=by
 have:=(vo (A:=a.natAbs) hp X).2
 have e : -((a.natAbs:Nat):Int)=a:=by omega
 rw [e] at this;rw [this]; show _=0;omega
theorem AU {a:Int} {p:Nat} (hn : ¬ a<0):a.natAbs % p=(a % (p:Int)).toNat:=by
 have e:a=((a.natAbs:Nat):Int):=by omega
 conv=>rhs;rw [e, ← Int.natCast_emod]
 rfl
attribute [local irreducible] J PJ aJ one slT bQ bC bv exT bZ eP aP aI slV VT.le Ret bJ
theorem ol (x p:Nat) (hx:x<18446744073709551616) (hp0:0<p) (hp:p<18446744073709551616):Ok Tryz.prog 135 [one (.int .u64 x),one (.int .u64 p)] (one (.int .u64 ((x % p:Nat):Int))):=by
 refine Ok.enter Tryz.func135 Y Tryz.ntmps135 Y (fun w O => ?_)
 refine ae (ai (En Y (Ep (aa (ae (ae (ai (Em Y (El (sF X (cm Y Y)) ?_)))))))))
 refine Ep (aa (aB Y (az (aa (ae (ai (Em Y (Em Y (El (eK _ Y Y Y X) ?_)))))))))
 refine En Y (Ep (aa (aF ?_)))
 refine aV Tryz.results135 (.tmp Y H)
theorem AV (p a b:Nat) (hp0:0<p) (hp:p<4294967296) (ha:a<4294967296) (hb:b≤a+p):Ok Tryz.prog 185 [one (.int .u64 p),one (.int .u64 a),one (.int .u64 b)] (one (.int .u64 (((a+p - b) % p:Nat):Int))):=by
 have hr:=ol (a+p - b) p X hp0 X
 refine Ok.enter Tryz.func185 Y Tryz.ntmps185 Y (fun w O => ?_)
 refine ae (ai (En Y (Ep (aa (ae (ai (Em Y (Em Y (El (dK Y Y X) ?_)))))))))
 refine Em Y (El (fk Y Y X X) (Em Y ?_))
 refine El (am (hr) Y ⟨(aq (by congr 1;omega)),H,Er⟩) ?_
 refine En Y (Ep (aa (aF ?_)))
 refine aV Tryz.results185 (.tmp Y H)
theorem it (p a b:Nat) (hp0:0<p) (hp:p<4294967296) (ha:a<4294967296) (hb:b<4294967296):Ok Tryz.prog 141 [one (.int .u64 p),one (.int .u64 a),one (.int .u64 b)] (one (.int .u64 ((a*b % p:Nat):Int))):=by
 have h64:=DG ha hb
 have hr:=ol (a*b) p h64 hp0 X
 refine Ok.enter Tryz.func141 Y Tryz.ntmps141 Y (fun w O => ?_)
 refine ae (ai (En Y (Ep (aa (ae (ai (Em Y (Em Y (El (fK Y Y X) ?_)))))))))
 refine Em Y ?_
 refine El (am (hr) Y ⟨H,H,Er⟩) ?_
 refine En Y (Ep (aa (aF ?_)))
 refine aV Tryz.results141 (.tmp Y H)
theorem vu (p a e:Nat) (hp:p<4294967296) (ha:a<p) (he:e<18446744073709551616):Ok Tryz.prog 178 [one (.int .u64 p),one (.int .u64 a),one (.int .u64 e)] (one (.int .u64 ((a^e % p:Nat):Int))):=by
 have hp0:0<p:=by omega
 have hr:=ol 1 p S hp0 X
 refine Ok.enter Tryz.func178 Y Tryz.ntmps178 Y (fun w O => ?_)
 refine ae (ai (En Y (Ep (aa (ae (ai (Em Y ?_)))))))
 refine El (am (hr) Y ⟨H,H,Er⟩) ?_
 refine En Y (Ep (aa (ae (au (cp (Γ' := [(0,_),(1,_),(2,_),(6,_),(7,_)]) Eg (SubM.refl _) ?_)))))
 refine bD (σ:=Nat × Nat × Nat) (Γk := [(0,_),(6,_)]) Eg (fun s => [(7,one (.int .u64 (s.1:Nat))),(1,one (.int .u64 (s.2.1:Nat))),(2,one (.int .u64 (s.2.2:Nat)))]) (fun s M0=>M0) (fun s=>PowR p (a^e % p) s) (fun s=>s.2.2) ((1 % p,a,e)) (PowR.start hp0 ha he) Eh (.nil) (fun s hs => ?_)
 refine bU (Γ' := [(7,_),(1,_),(2,_),(0,_),(6,_)]) (M' := []) Y Y ?_
 obtain ⟨r,b,f⟩:=s
 dsimp only at hs ⊢
 have h1:r<p:=hs.r
 have h2:b<p:=hs.a
 have h3:f<18446744073709551616:=hs.e
 by_cases hf:f=0
 ·subst hf
  have:=hs.done
  subst this
  refine ae (ae (ai (Em Y (El (sF X (db Y Y)) (Ep (aa (aB Y (aX (av ?_)))))))))
  refine av (aE (aa (ae (ai (Em Y (En Y (Ep (aa (aF ?_)))))))))
  refine aV Tryz.results178 (.tmp Y H)
 ·by_cases ho:f % 2=1
  ·have hst:=hs.odd ho
   refine ae (ae (ai (Em Y (El (sT X (db Y Y)) (Ep (aa (aH Y (az (aa ?_)))))))))
   refine ae (au (ae (ae (ai (Em Y (El (ya Y X) (El (sT X (cm Y Y)) (Ep (aa ?_)))))))))
   refine aH Y (ai (Em Y (Em Y (Em Y ?_))))
   refine El (am (it _ _ _ (by assumption) (by assumption) X X) Y ⟨H,H,H,Er⟩) ?_
   refine En Y (Ep (aa (ai (Em Y (Em Y (Em Y ?_))))))
   refine El (am (it _ _ _ (by assumption) (by assumption) X X) Y ⟨H,H,H,Er⟩) ?_
   refine En Y (Ep (aD (aa (ai (Em Y (El (kC (s:=1) Y Y S) (En Y (Ep ?_))))))))
   refine aR ((r*b % p,b*b % p,f / 2)) (hst) (by (simp only []; omega)) Eh (.nil)
  ·have hst:=hs.even ho
   refine ae (ae (ai (Em Y (El (sT X (db Y Y)) (Ep (aa (aH Y (az (aa ?_)))))))))
   refine ae (au (ae (ae (ai (Em Y (El (ya Y X) (El (sF X (cm Y Y)) (Ep (aa ?_)))))))))
   refine aB Y (az (aa (ai (Em Y (Em Y (Em Y ?_))))))
   refine El (am (it _ _ _ (by assumption) (by assumption) X X) Y ⟨H,H,H,Er⟩) ?_
   refine En Y (Ep (aD (aa (ai (Em Y (El (kC (s:=1) Y Y S) (En Y (Ep ?_))))))))
   refine aR ((r,b*b % p,f / 2)) (hst) (by (simp only []; omega)) Eh (.nil)
theorem AW (p a:Nat) (hp2:2≤p) (hp:p<4294967296) (ha0:a≠0) (ha:a<p):Ok Tryz.prog 183 [one (.int .u64 p),one (.int .u64 a)] (bv [one (.int .u64 ((a^(p - 2) % p:Nat):Int)),one (.int .i64 0)]):=by
 have hpw:=vu p a (p - 2) hp ha X
 refine Ok.enter Tryz.func183 Y Tryz.ntmps183 Y (fun w O => ?_)
 refine ae (ai (En Y (En Y (Ep (aa (ae (ae (ai (Em Y ?_)))))))))
 refine El (sF X (cm Y Y)) (Ep (aa (aB Y (az (aa (ae (ai (Em Y (Em Y ?_)))))))))
 refine Em Y (El (fk Y Y X S) ?_)
 refine El (am (hpw) Y ⟨H,H,(aq (by rw [so hp2 hp])),Er⟩) ?_
 refine En Y (En Y (Ep (aa (aF ?_))))
 refine cT Tryz.results183 (.tmp Y H) (.tmp Y H)
theorem ia (p:Nat) (a:Int) (hp0:0<p) (hp:p<4294967296) (ha:bm a):Ok Tryz.prog 90 [one (.int .u64 p),aL a] (one (.int .u64 (((a % (p:Int)).toNat:Nat):Int))):=by
 have hva:=bY a.natAbs
 have hla:=a6 a.natAbs
 have ha':(aK a.natAbs).length≤1099511627776:=ha
 unfold aL
 generalize aK a.natAbs=l at *
 refine Ok.enter Tryz.func90 Y Tryz.ntmps90 Y (fun w O => ?_)
 refine ae (ai ?_)
 refine aS Y Y (ltN Y) (fun b3 => ?_)
 refine En Y (Ep (aa (ae (ai (En Y (Ep (aa (ae (ae ?_)))))))))
 refine ai (El (aj Y) (El (ak 0 Y Y Y) (El (aW Y) (El (eo Y Y (aO X X)) (En Y (Ep (aa (au (cp (Γ' := [(0,_),(3,_),(4,_),(5,_),(6,_)]) Eg (SubM.refl _) ?_)))))))))
 refine bD (σ:=Nat × Nat) (Γk := [(0,_),(3,_),(4,_)]) Eg (fun s => [(6,one (.int .i64 ((s.1:Nat) - 1:Int))),(5,one (.int .u64 (s.2:Nat)))]) (fun s M0=>M0) (fun s=>s.1≤l.length∧s.2=lv (l.drop s.1) % p) (fun s=>s.1) ((l.length,0)) (by (exact ⟨Nat.le_refl _,by rw [List.drop_length]; exact (Nat.zero_mod p).symm⟩)) Eh (.keep Ek (.nil)) (fun s hs => ?_)
 refine bU (Γ' := [(6,_),(5,_),(0,_),(3,_),(4,_)]) (M' := [_]) Y Y ?_
 obtain ⟨n,r⟩:=s
 dsimp only at hs ⊢
 obtain ⟨hn,hr⟩:=hs
 have hrp:r<p:=by rw [hr]; exact Nat.mod_lt _ hp0
 cases n with
 | zero =>
  rw [List.drop_zero,hva] at hr
  subst hr
  by_cases hneg:a<0
  ·by_cases h0:0<a.natAbs % p
   ·refine ae (ae (ai (Em Y (El (sF X (fh Y Y)) (Ep (aa (aB Y (aX (av ?_)))))))))
    refine av (aE (aa (ae (ae (ai (El (aj Y) (El (sT (by assumption) (ak 0 Y Y Y)) (Em Y (Eo (ab Y) ?_)))))))))
    refine Eo (sT X (db Y Y)) (El (bp Y Y) (Ep (aa (aH Y (ai (Em Y (Em Y (El (fk Y Y X X) (En Y ?_)))))))))
    refine Ep (aa (ae (ai (Em Y (En Y (Ep (aa (aF ?_))))))))
    refine aV Tryz.results90 (.tmp Y (aq (by rw [so (Nat.le_of_lt hrp) hp,AT hp0 hneg h0])))
   ·refine ae (ae (ai (Em Y (El (sF X (fh Y Y)) (Ep (aa (aB Y (aX (av ?_)))))))))
    refine av (aE (aa (ae (ae (ai (El (aj Y) (El (sT (by assumption) (ak 0 Y Y Y)) (Em Y (Eo (ab Y) ?_)))))))))
    refine Eo (sF X (db Y Y)) (El (bp Y Y) (Ep (aa (aB Y (az (aa (ae (ai (Em Y ?_)))))))))
    refine En Y (Ep (aa (aF ?_)))
    refine aV Tryz.results90 (.tmp Y (aq (by rw [yD hp0 hneg h0])))
  ·refine ae (ae (ai (Em Y (El (sF X (fh Y Y)) (Ep (aa (aB Y (aX (av ?_)))))))))
   refine av (aE (aa (ae (ae (ai (El (aj Y) (El (sF (by assumption) (ak 0 Y Y Y)) (Em Y (sg0 Y Y Y Y ?_)))))))))
   refine sg0 Y Y Y Y (El (bE Y Y) (Ep (aa (aB Y (az (aa (ae (ai (Em Y ?_)))))))))
   refine En Y (Ep (aa (aF ?_)))
   refine aV Tryz.results90 (.tmp Y (aq (by rw [AU hneg])))
 | succ n =>
  have hx:=a9 hla n
  have hst:=yC (p:=p) (show n<l.length by omega) hr
  have hb:r*4294967296+l.getD n 0<18446744073709551616:=by omega
  have hrm:=ol (r*4294967296+l.getD n 0) p hb hp0 X
  have en:((n+1:Nat):Int) - 1=(n:Nat):=by omega
  rw [en]
  refine ae (ae (ai (Em Y (El (sT X (fh Y Y)) (Ep (aa (aH Y (az (aa ?_)))))))))
  refine ae (au (ai (Em Y (El (qw Y X) (El (aj Y) (El (ak 0 Y Y Y) (Em Y (El (aC Y Y X) (El (aM Y) ?_)))))))))
  refine El (bT Y X) (El (kA Y Y X X) (Em Y ?_))
  refine El (am (hrm) Y ⟨H,H,Er⟩) ?_
  refine En Y (Ep (aD (aa (ai (Em Y (El (eo Y Y (aO X X)) (En Y (Ep ?_))))))))
  refine aR ((n,(r*4294967296+l.getD n 0) % p)) (⟨by omega,hst⟩) X Eh (.keep Ek (.nil))
end Tor
end
section
namespace Tor
open Go Go.RowKit Go.Proofs
def dL:Nat→Nat→Nat→Nat × Nat
 | 0, o, t => (o, t)
 | f + 1, o, t => if o % 2 = 0 then dL f (o / 2) (t + 1) else (o, t)
def sqrF (n:Nat):Nat→Nat→Bool
 | 0, _ => false
 | c + 1, x => if x * x % n = n - 1 then true else sqrF n c (x * x % n)
def i7 (n:Nat) (O T b:Nat):Bool:=decide (b^O % n=1) || decide (b^O % n=n - 1) || sqrF n (T - 1) (b^O % n)
def ec (j:Nat):Nat := [2,3,5,7].getD j 0
def jn (n O T:Nat):Nat→Nat→Bool
 | 0, _ => true
 | c + 1, j => if n = ec j then true else i7 n O T (ec j) && jn n O T c (j + 1)
def cC (n:Nat):Bool:=if n<2∨2147483648≤n then false else if n % 2=0 then decide (n=2) else
 jn n (dL 32 (n - 1) 0).1 (dL 32 (n - 1) 0).2 4 0
theorem kJ : ∀ (f o t:Nat),0<o→o<2^f→(dL f o t).1 % 2=1∧0<(dL f o t).1∧(dL f o t).1≤o∧(dL f o t).2≤t+f
 | 0, o, t, h1, h2 => by simp at h2; omega
 | f + 1, o, t, h1, h2 => by
  rw [dL]
  split
  ·have:=kJ f (o / 2) (t+1) X (by rw [Nat.pow_succ] at h2;omega)
   omega
  ·simp only;omega
theorem om (j:Nat):ec j≤7∧(j<4→2≤ec j):=by
 unfold ec
 match j with
 | 0 => decide
 | 1 => decide
 | 2 => decide
 | 3 => decide
 | j + 4 => simp
structure BasR (n:Nat) (O T i:Nat):Prop where
 le:i≤4
 ne : ∀ j,j<i→n≠ec j
 eq:jn n O T 4 0=jn n O T (4 - i) i
theorem BasR.next {n O T i:Nat} (h:BasR n O T i) (hi:i<4) (hn:n≠ec i) (hs:i7 n O T (ec i)=true):BasR n O T (i+1):=by
 refine ⟨hi,fun j hj => ?_,?_⟩
 ·rcases Nat.lt_or_eq_of_le (Nat.lt_succ_iff.1 hj) with h' | h'
  ·exact h.ne j h'
  ·rw [h']; exact hn
 ·rw [h.eq,show 4 - i=(4 - (i+1))+1 by omega,jn,if_neg hn,hs]; rfl
theorem BasR.hit {n O T i:Nat} (h:BasR n O T i) (hi:i<4) (hn:n=ec i):jn n O T 4 0=true:=by
 rw [h.eq,show 4 - i=(4 - (i+1))+1 by omega,jn,if_pos hn]
theorem BasR.miss {n O T i:Nat} (h:BasR n O T i) (hi:i<4) (hn:n≠ec i) (hs:i7 n O T (ec i)=false):jn n O T 4 0=false:=by
 rw [h.eq,show 4 - i=(4 - (i+1))+1 by omega,jn,if_neg hn,hs]; rfl
theorem BasR.end {n O T:Nat} (h:BasR n O T 4):jn n O T 4 0=true:=by rw [h.eq]; rfl
theorem BasR.lt {n O T i:Nat} (h:BasR n O T i) (hi:i<4) (hn:n≠ec i) (h2:2<n) (ho:n % 2=1):ec i<n:=by
 have h0:=h.ne
 match i,hi with
 | 0, _ => show 2 < n; omega
 | 1, _ => have : n ≠ 3 := hn; show 3 < n; omega
 | 2, _ => have : n ≠ 5 := hn; have : n ≠ 3 := h0 1 X; show 5 < n; omega
 | 3, _ => have : n ≠ 7 := hn; have : n ≠ 3 := h0 1 X; have : n ≠ 5 := h0 2 X; show 7 < n; omega
attribute [local irreducible] J PJ aJ one slT bQ bC bv exT bZ eP aP aI slV VT.le Ret bJ
set_option maxRecDepth 20000 in
theorem j9 (n:Nat) (hn64:n<18446744073709551616):Ok Tryz.prog 156 [one (.int .u64 n)] (one (.bool (cC n))):=by
 refine Ok.enter Tryz.func156 Y Tryz.ntmps156 Y (fun w O => ?_)
 unfold cC
 by_cases h1:n<2
 ·rw [if_pos (.inl h1)]
  refine ae (ai (En Y (Ep (aa (ij (ae (ae (ai (Em Y ?_)))))))))
  refine El (sT X (a7 Y Y)) (Em Y (sg0 Y Y Y Y (sg0 Y Y Y Y (El (bp Y Y) (Ep (aa (aH Y (ae (ai ?_)))))))))
  refine En Y (Ep (aa (aF (aU (eh ?_)))))
  refine aV Tryz.results156 (.tmp Y H)
 ·by_cases h2:2147483648≤n
  ·rw [if_pos (.inr h2)]
   refine ae (ai (En Y (Ep (aa (ij (ae (ae (ai (Em Y ?_)))))))))
   refine El (sF X (a7 Y Y)) (Em Y (Eo (ab Y) (Eo (sT X (fh Y Y)) (El (bE Y Y) (Ep (aa (aH Y (ae (ai ?_)))))))))
   refine En Y (Ep (aa (aF (aU (eh ?_)))))
   refine aV Tryz.results156 (.tmp Y H)
  ·rw [if_neg X]
   by_cases h3:n % 2=0
   ·rw [if_pos h3]
    refine ae (ai (En Y (Ep (aa (ij (ae (ae (ai (Em Y ?_)))))))))
    refine El (sF X (a7 Y Y)) (Em Y (Eo (ab Y) (Eo (sF X (fh Y Y)) (El (bE Y Y) (Ep (aa (aB Y (az (aa ?_)))))))))
    refine ae (ae (ai (Em Y (El (eK 2 Y Y Y S) (El (sT X (cm Y Y)) (Ep (aa (aH Y (ae ?_)))))))))
    refine ai (Em Y (El (cm Y Y) (En Y (Ep (aa (aF (aU (eh ?_))))))))
    refine aV Tryz.results156 (.tmp Y (aq (by congr 1;rw [decide_eq_decide]; omega)))
   ·rw [if_neg h3]
    obtain ⟨s1,s2,s3,s4⟩:=kJ 32 (n - 1) 0 X X
    have hST:dL 32 (n - 1) 0=((dL 32 (n - 1) 0).1,(dL 32 (n - 1) 0).2):=rfl
    generalize (dL 32 (n - 1) 0).1=OO at *
    generalize (dL 32 (n - 1) 0).2=TT at *
    have hn1:1≤n:=by omega
    refine ae (ai (En Y (Ep (aa (ij (ae (ae (ai (Em Y ?_)))))))))
    refine El (sF X (a7 Y Y)) (Em Y (Eo (ab Y) (Eo (sF X (fh Y Y)) (El (bE Y Y) (Ep (aa (aB Y (az (aa ?_)))))))))
    refine ae (ae (ai (Em Y (El (eK 2 Y Y Y S) (El (sF X (cm Y Y)) (Ep (aa (aB Y (az ?_)))))))))
    refine aa (ae (ai (Em Y (El (kD 1 Y Y X X) (En Y (En Y (Ep (aa (ae ?_)))))))))
    refine au (cp (Γ' := [(0,_),(2,_),(3,_),(4,_)]) Eg (SubM.refl _) ?_)
    refine bD (σ:=Nat × Nat × Nat) (Γk := [(0,_),(2,_)]) Eg (fun p => [(3,one (.int .u64 (p.1:Nat))),(4,one (.int .i64 (p.2.1:Nat)))]) (fun p M0=>M0) (fun p=>dL p.2.2 p.1 p.2.1=(OO,TT)∧0<p.1∧p.1<2^p.2.2∧p.2.1+p.2.2=32) (fun p=>p.1) ((n - 1,0,32)) (⟨hST,(by omega:0<n - 1),(by omega:n - 1<2^32),rfl⟩) Eh (.nil) (fun p hp => ?_)
    refine bU (Γ' := [(3,_),(4,_),(0,_),(2,_)]) (M' := []) Y Y ?_
    obtain ⟨o,t,f⟩:=p
    dsimp only at hp ⊢
    obtain ⟨p1,p2,p3,p4⟩:=hp
    have ho31:o<4294967296:=Nat.lt_of_lt_of_le p3 (Nat.pow_le_pow_right (n:=2) S (show f≤32 by omega))
    by_cases ho:o % 2=0
    ·have hf0:f≠0:=fun h=>by rw [h] at p3;simp at p3;omega
     obtain ⟨g,rfl⟩ : ∃ g,f=g+1:=⟨f - 1,by omega⟩
     rw [dL,if_pos ho] at p1
     have p5:o / 2<2^g:=by rw [Nat.pow_succ] at p3;omega
     refine ae (ae (ai (Em Y (El (eK 2 Y Y Y S) (El (sT X (cm Y Y)) (Ep (aa (aH Y (az ?_)))))))))
     refine aa (au (ae (ai (Em Y (El (jx Y Y X S) (En Y (Ep (aa (ai ?_)))))))))
     refine Em Y (El (bI _ 1 Y Y X) (En Y (Ep (aD ?_))))
     refine aR ((o / 2,t+1,g)) (⟨p1,(by omega:0<o / 2),p5,(by omega:t+1+g=32)⟩) X Eh (.nil)
    ·have e2:dL f o t=(o,t):=by cases f <;> simp [dL,ho]
     rw [e2] at p1
     obtain ⟨rfl,rfl⟩:=Prod.mk.inj p1
     refine ae (ae (ai (Em Y (El (eK 2 Y Y Y S) (El (sF X (cm Y Y)) (Ep (aa (aB Y (aX ?_)))))))))
     refine av (av (aE (aa (ae (jU (aa (ae (ae (ai ?_)))))))))
     refine stB Y Y Y (BuildK.cons Y Y Y (BuildK.cons Y Y Y (BuildK.cons Y Y Y (BuildK.cons Y Y Y (BuildK.nil (Em Y (Ep (aa (au ?_)))))))))
     refine cp (Γ' := [(0,_),(2,_),(3,_),(4,_),(28,_),(29,_)]) Eg (SubM.refl _) ?_
     refine bD (σ:=Nat) (Γk := [(0,_),(3,_),(4,_),(28,_)]) Eg (fun i => [(29,one (.int .i64 (i:Nat)))]) (fun i M0=>M0) (fun i=>BasR n o t i) (fun i=>4 - i) (0) (⟨by decide,fun j hj=>absurd hj (Nat.not_lt_zero j),rfl⟩) Eh (.nil) (fun i hi => ?_)
     refine bU (Γ' := [(29,_),(0,_),(3,_),(4,_),(28,_)]) (M' := []) Y Y ?_
     have hile:=hi.le
     refine ae (ai (El (a7 Y Y) (Ep (aa (ae ?_)))))
     refine qr Y (fun hc => ?_) (fun hc => ?_)
     ·have hi4:i<4:=by omega
      have hbl:=om i
      refine az (aa (ae (au (ae (ai ?_)))))
      refine El (wo (fun j=>one (.int .u64 (ec j:Nat))) Y Y hi4 (fun j hj=>by rcases (show j=0∨j=1∨j=2∨j=3 by omega) with rfl | rfl | rfl | rfl <;> rfl)) ?_
      refine En Y (Ep (aa (ae (ae (ai (Em Y (Em Y (El (cm Y Y) (Ep ?_)))))))))
      refine aa ?_
      refine qr Y (fun hnb => ?_) (fun hnb => ?_)
      ·rw [hi.hit hi4 X]
       refine ae (ai (En Y (Ep (aa (aF (aU (bK (aU (aU ?_)))))))))
       refine bK (aU (eh ?_))
       refine aV Tryz.results156 (.tmp Y H)
      ·have hnb':n≠ec i:=by omega
       have hlt:=hi.lt hi4 hnb' X X
       have hpw:=vu n (ec i) o X hlt X
       have hxl:ec i^o % n<n:=Nat.mod_lt _ X
       have hss:i7 n o t (ec i)=(decide (ec i^o % n=1) || decide (ec i^o % n=n - 1) || sqrF n (t - 1) (ec i^o % n)):=rfl
       generalize ec i^o % n=x0 at *
       clear p3 p4 ho31 s3 e2 p1 hST
       by_cases c1:x0=1
       ·have hst:=hi.next hi4 hnb' (by rw [hss,decide_eq_true c1]; rfl)
        refine az (aa (ae (ai (Em Y (Em Y (Em Y ?_))))))
        refine El (am (hpw) Y ⟨H,H,H,Er⟩) ?_
        refine En Y (Ep (aa (ae (ae (ai (Em Y (El (sT X (cm Y Y)) (Em Y (sg0 Y Y Y Y ?_)))))))))
        refine sg0 Y Y Y Y (sg0 Y Y Y Y (sg0 Y Y Y Y (El (bp Y Y) (Ep (aa (aH Y (aX (av (aE ?_)))))))))
        refine aa (ai (El (bI _ 1 Y Y X) (Em Y (Ep ?_))))
        refine aR (i+1) (hst) X Eh (.nil)
       ·by_cases c2:x0=n - 1
        ·have hst:=hi.next hi4 hnb' (by rw [hss,decide_eq_true c2,Bool.or_true]; rfl)
         refine az (aa (ae (ai (Em Y (Em Y (Em Y ?_))))))
         refine El (am (hpw) Y ⟨H,H,H,Er⟩) ?_
         refine En Y (Ep (aa (ae (ae (ai (Em Y (El (sF X (cm Y Y)) (Em Y (Eo (ab Y) ?_)))))))))
         refine Eo (ab Y) (Eo (kD 1 Y Y X X) (Eo (sT X (cm Y Y)) (El (bE Y Y) (Ep (aa (aH Y (aX (av (aE ?_)))))))))
         refine aa (ai (El (bI _ 1 Y Y X) (Em Y (Ep ?_))))
         refine aR (i+1) (hst) X Eh (.nil)
        ·rw [decide_eq_false c1,decide_eq_false c2] at hss
         simp only [Bool.false_or] at hss
         refine az (aa (ae (ai (Em Y (Em Y (Em Y ?_))))))
         refine El (am (hpw) Y ⟨H,H,H,Er⟩) ?_
         refine En Y (Ep (aa (ae (ae (ai (Em Y (El (sF X (cm Y Y)) (Em Y (Eo (ab Y) ?_)))))))))
         refine Eo (ab Y) (Eo (kD 1 Y Y X X) (Eo (sF X (cm Y Y)) (El (bE Y Y) (Ep (aa (aB Y (az (aa (ae ?_)))))))))
         refine ae (ai (Em Y (El (eo Y Y (aO X X)) (Em Y (Ep (aa (au (cp (Γ' := [(0,_),(3,_),(4,_),(7,_),(28,_),(29,_),(48,_),(49,_)]) Eg (SubM.refl _) ?_))))))))
         refine bD (σ:=Nat × Nat) (Γk := [(0,_),(3,_),(4,_),(28,_),(29,_),(48,_)]) Eg (fun q => [(49,one (.int .i64 (q.1:Nat))),(7,one (.int .u64 (q.2:Nat)))]) (fun q M0=>M0) (fun q=>q.2<n∧sqrF n (t - 1) x0=sqrF n (t - 1 - q.1) q.2) (fun q=>t - 1 - q.1) ((0,x0)) (⟨hxl,rfl⟩) Eh (.nil) (fun q hq => ?_)
         refine bU (Γ' := [(49,_),(7,_),(0,_),(3,_),(4,_),(28,_),(29,_),(48,_)]) (M' := []) Y Y ?_
         obtain ⟨j,x⟩:=q
         dsimp only at hq ⊢
         obtain ⟨q1,q2⟩:=hq
         by_cases hj:j<t - 1
         ·rw [show t - 1 - j=(t - 1 - (j+1))+1 by omega,sqrF] at q2
          have hxx:x*x % n<n:=Nat.mod_lt _ X
          by_cases c3:x*x % n=n - 1
          ·rw [if_pos c3] at q2
           have hst:=hi.next hi4 hnb' (hss.trans q2)
           have e3:((x*x % n:Nat):Int)=((n - 1:Nat):Int):=by rw [c3]
           refine ae (ai (El (sT X (a7 Y Y)) (Ep (aa (ae (aH Y (az (aa (ae ?_)))))))))
           refine au (ae (ai (Em Y (Em Y (Em Y ?_)))))
           refine El (am (it _ _ _ (by assumption) X X X) Y ⟨H,H,H,Er⟩) ?_
           refine En Y (Ep (aa (ae (ai (Em Y (Em Y (El (kD 1 Y Y X X) (El (sT (by assumption) (cm Y Y)) (Ep ?_)))))))))
           refine aa (aH Y (aX (c9 Y (av (av (c9 Y (av (aE (aa ?_)))))))))
           refine ai (El (bI _ 1 Y Y X) (Em Y (Ep ?_)))
           refine aR (i+1) (hst) X Eh (.nil)
          ·rw [if_neg c3] at q2
           refine ae (ai (El (sT X (a7 Y Y)) (Ep (aa (ae (aH Y (az (aa (ae ?_)))))))))
           refine au (ae (ai (Em Y (Em Y (Em Y ?_)))))
           refine El (am (it _ _ _ (by assumption) X X X) Y ⟨H,H,H,Er⟩) ?_
           refine En Y (Ep (aa (ae (ai (Em Y (Em Y (El (kD 1 Y Y X X) (El (sF X (cm Y Y)) (Ep ?_)))))))))
           refine aa (aB Y (az (aD (aa (ai (El (bI _ 1 Y Y X) (Em Y (Ep ?_))))))))
           refine aR ((j+1,x*x % n)) (⟨hxx,q2⟩) X Eh (.nil)
         ·have hf:i7 n o t (ec i)=false:=by rw [hss,q2,show t - 1 - j=0 by omega]; rfl
          rw [hi.miss hi4 hnb' hf]
          refine ae (ai (El (sF X (a7 Y Y)) (Ep (aa (ae (aB Y (aX (av (av ?_)))))))))
          refine aE (aa (ae (ai (En Y (Ep (aa (aF (bK (aU ?_)))))))))
          refine aU (bK (aU (eh ?_)))
          refine aV Tryz.results156 (.tmp Y H)
     ·have:i=4:=by omega
      subst this
      rw [hi.end]
      refine aX (av (av (aE (aa (ae (ai (En Y (Ep (aa ?_)))))))))
      refine aF (eh ?_)
      refine aV Tryz.results156 (.tmp Y H)
end Tor
end
section
namespace Tor
def mu:Nat→Nat→Nat→Nat→Nat→Nat
 | 0, _, r, _, _ => r
 | f + 1, p, r, a, e => if e = 0 then r else mu f p (if e % 2 = 1 then r * a % p else r) (a * a % p) (e / 2)
theorem qT : ∀ (f:Nat) {p v r a e:Nat},e<2^f→PowR p v (r,a,e)→mu f p r a e=v
 | 0, p, v, r, a, e, h, hR => by
  have:e=0:=by simpa using h
  subst this;exact hR.done
 | f + 1, p, v, r, a, e, h, hR => by
  rw [mu]
  by_cases h0:e=0
  ·subst h0;rw [if_pos Y]; exact hR.done
  ·rw [if_neg h0]
   have h2:e / 2<2^f:=by rw [Nat.pow_succ] at h;omega
   by_cases h1:e % 2=1
   ·rw [if_pos h1]; exact qT f h2 (hR.odd h1)
   ·rw [if_neg h1]; exact qT f h2 (hR.even h1)
def dV (n O T b:Nat):Bool:=decide (mu 64 n (1 % n) b O=1) || decide (mu 64 n (1 % n) b O=n - 1) || sqrF n (T - 1) (mu 64 n (1 % n) b O)
theorem wC {n O T b:Nat} (hb:b<n) (hO:O<18446744073709551616):i7 n O T b=dV n O T b:=by
 have:=qT 64 (e:=O) hO (PowR.start (p:=n) X hb hO)
 unfold i7 dV
 rw [this]
def pL (n O T:Nat):Nat→Nat→Bool
 | 0, _ => true
 | c + 1, j => if n = ec j then true else dV n O T (ec j) && pL n O T c (j + 1)
theorem vv {n O T:Nat} (h7:7<n) (hO:O<18446744073709551616) : ∀ c j,jn n O T c j=pL n O T c j
 | 0, _ => rfl
 | c + 1, j => by
  have hb:=(om j).1
  rw [jn,pL,wC X hO,vv h7 hO c (j+1)]
def qU (n:Nat):Bool:=if n<2∨2147483648≤n then false else if n % 2=0 then decide (n=2) else
 pL n (dL 32 (n - 1) 0).1 (dL 32 (n - 1) 0).2 4 0
theorem lR {n:Nat} (h7:7<n):cC n=qU n:=by
 unfold cC qU
 by_cases h1:n<2∨2147483648≤n
 ·rw [if_pos h1,if_pos h1]
 ·rw [if_neg h1,if_neg h1]
  by_cases h2:n % 2=0
  ·rw [if_pos h2,if_pos h2]
  ·rw [if_neg h2,if_neg h2]
   have:=kJ 32 (n - 1) 0 X X
   exact vv h7 X 4 0
theorem iQ:cC 2147483647=true:=by rw [lR S]; decide +kernel
theorem iR:cC 2147483629=true:=by rw [lR S]; decide +kernel
end Tor
end
section
namespace Tor
open Go Go.RowKit Go.Proofs
def mX (v:Nat):Nat:=if v=0 then 0 else 32*((aK v).length - 1)+gh ((aK v).getD ((aK v).length - 1) 0)
attribute [local irreducible] J PJ aJ one slT bQ bC bv exT bZ eP aP aI slV VT.le Ret bJ
end Tor
end
section
namespace Tor
open Go Go.RowKit Go.Proofs
attribute [local irreducible] J PJ aJ one slT bQ bC bv exT bZ eP aP aI slV VT.le Ret bJ
theorem yE (a b:Int) (ha:bm a) (hb:bm b):Ok Tryz.prog 105 [aL a,aL b] (aL (Nat.gcd a.natAbs b.natAbs)):=by
 have ha':(aK a.natAbs).length≤1099511627776:=ha
 have hb':(aK b.natAbs).length≤1099511627776:=hb
 unfold aL
 refine Ok.enter Tryz.func105 Y Tryz.ntmps105 Y (fun w O => ?_)
 refine ae (ai ?_)
 refine aS Y Y (ltN Y) (fun b2 => ?_)
 refine aS Y Y (ltN Y) (fun b3 => ?_)
 refine aG (T:=37) Y (ltN Y) (fun b4 => ?_)
 refine Ep (aa (ae (a8 7 a4 Z S (El (aj Y) (El (ak 2 Y Y Y) ?_)))))
 refine El (am (cZ _) Y ⟨(cz _),Er⟩) ?_
 refine El (aj Y) (El (ak 1 Y Y Y) ?_)
 refine El (am (cZ _) Y ⟨(cz _),Er⟩) ?_
 refine En Y (Ep (En Y (Ep (aa (ae (au (cp (Γ' := [(4,_),(5,_),(6,_)]) Eg (SubM.refl _) ?_)))))))
 refine bD (σ:=Nat × Nat) (Γk := [(4,_)]) Eg (fun p => [(5,co (aK p.1)),(6,co (aK p.2))]) (fun p M0=>M0) (fun p=>Nat.gcd p.1 p.2=Nat.gcd a.natAbs b.natAbs∧(aK p.1).length≤1099511627776∧(aK p.2).length≤1099511627776) (fun p=>p.2) ((a.natAbs,b.natAbs)) (⟨rfl,ha',hb'⟩) Eh (.keep Ek (.keep Ek (.keep Ek (.nil)))) (fun p hp => ?_)
 refine bU (Γ' := [(5,_),(6,_),(4,_)]) (M' := [_,_,_]) Y Y ?_
 obtain ⟨x,y⟩:=p
 dsimp only at hp ⊢
 obtain ⟨p1,p2,p3⟩:=hp
 by_cases hy:y=0
 ·subst hy
  have hl:(aK 0).length=0:=rfl
  have hcl:=jF (aK x) p2
  have hv:=dE false x
  rw [Nat.gcd_zero_right] at p1
  rw [← p1]
  unfold aL at hv
  refine ae (ae (ai (Em Y (El (aW Y) (El (sF X (db Y Y)) (Em Y (sg0 Y Y Y Y (sg0 Y Y Y Y (sg0 Y Y Y Y ?_)))))))))
  refine sg0 Y Y Y Y (sg0 Y Y Y Y (sg0 Y Y Y Y (El (bE Y Y) (Ep (aa (aB Y (aX (av (av ?_)))))))))
  refine aE (aa (ae (ae (ai (Em Y (El (aW Y) (El (sT X (cm Y Y)) (Ep (aa ?_)))))))))
  refine aH Y (ae (ai (Em Y ?_)))
  refine El (am (hcl) Y ⟨H,Er⟩) ?_
  refine El (am (hv) Y ⟨H,(cz _),Er⟩) ?_
  refine aA 0 Y Y Y Y Y (leN Y) Y (Ep (aa (aF (aU ?_))))
  refine aV Tryz.results105 (.cellB 0 Y Y Y H)
 ·have hl:(aK y).length≠0:=fun h=>hy (eR h)
  have hd:=pK x y hy p2
  have hm:=Nat.mod_lt x (Nat.pos_of_ne_zero hy)
  have hg:Nat.gcd y (x % y)=Nat.gcd a.natAbs b.natAbs:=by rw [← p1,Nat.gcd_comm y, ← Nat.gcd_rec,Nat.gcd_comm]
  have hml:=cd (Nat.le_of_lt hm)
  refine ae (ae (ai (Em Y (El (aW Y) (El (sT X (db Y Y)) (Em Y (Eo (ab Y) (Eo (aW Y) (Eo (ab Y) ?_)))))))))
  refine Eo (aW Y) (Eo (ph Y Y) (Eo (db Y Y) (El (bp Y Y) (Ep (aa ?_)))))
  refine qr Y (fun hc => ?_) (fun hc => ?_)
  ·refine az (aa (au (ae (ai (Em Y (Em Y ?_))))))
   refine El (am (hd) Y ⟨H,H,Er⟩) ?_
   refine Em Y (El (ar Y Y) (El (ar Y Y) (En Y (En Y (Ep (aa (ai (Em Y (Em Y ?_)))))))))
   refine El (am (cZ _) Y ⟨H,Er⟩) ?_
   refine En Y (En Y (Ep (aD ?_)))
   refine aR ((y,x % y)) (⟨hg,p3,by dsimp only;omega⟩) (by assumption) Eh (.keep Ek (.keep Ek (.keep Ek (.nil))))
  ·have hx2:(aK x).length≤2:=by omega
   have hy2:(aK y).length≤2:=by omega
   have hw1:=np (aK x) (a6 x) hx2
   have hw2:=np (aK y) (a6 y) hy2
   rw [bY] at hw1 hw2
   have x64:x<18446744073709551616:=Nat.lt_of_lt_of_le (cY x) (Nat.pow_le_pow_right (n:=4294967296) S hx2)
   have y64:y<18446744073709551616:=Nat.lt_of_lt_of_le (cY y) (Nat.pow_le_pow_right (n:=4294967296) S hy2)
   refine aX (av (av (aE (aa (ae (ae (ai (Em Y (El (aW Y) ?_)))))))))
   refine El (sF X (cm Y Y)) (Ep (aa (aB Y (az (aa (ae (ai (Em Y ?_))))))))
   refine El (am (hw1) Y ⟨H,Er⟩) ?_
   refine Em Y ?_
   refine El (am (hw2) Y ⟨H,Er⟩) ?_
   refine En Y (En Y (Ep (aa (ae (au (cp (Γ' := [(4,_),(9,_),(10,_)]) Eg (SubM.refl _) ?_))))))
   refine bD (σ:=Nat × Nat) (Γk := [(4,_)]) Eg (fun q => [(9,one (.int .u64 (q.1:Nat))),(10,one (.int .u64 (q.2:Nat)))]) (fun q M0=>M0) (fun q=>Nat.gcd q.1 q.2=Nat.gcd a.natAbs b.natAbs∧q.1<18446744073709551616∧q.2<18446744073709551616) (fun q=>q.2) ((x,y)) (⟨p1,x64,y64⟩) Eh (.keep Ek (.keep Ek (.keep Ek (.nil)))) (fun q hq => ?_)
   refine bU (Γ' := [(9,_),(10,_),(4,_)]) (M' := [_,_,_]) Y Y ?_
   obtain ⟨u,v⟩:=q
   dsimp only at hq ⊢
   obtain ⟨q1,q2,q3⟩:=hq
   by_cases hv0:v=0
   ·subst hv0
    rw [Nat.gcd_zero_right] at q1
    have hlu:=jD u q2
    have hv:=dE false u
    rw [← q1]
    unfold aL at hv
    refine ae (ae (ai (Em Y (El (sF X (db Y Y)) (Ep (aa (aB Y (aX (av ?_)))))))))
    refine av (aE (aa (ae (ai (Em Y ?_)))))
    refine El (am (hlu) Y ⟨H,Er⟩) ?_
    refine El (am (hv) Y ⟨H,H,Er⟩) ?_
    refine aA 0 Y Y Y Y Y (leN Y) Y (Ep (aa (aF ?_)))
    refine aV Tryz.results105 (.cellB 0 Y Y Y H)
   ·have hvm:=Nat.mod_lt u (Nat.pos_of_ne_zero hv0)
    have hvg:Nat.gcd v (u % v)=Nat.gcd a.natAbs b.natAbs:=by rw [← q1,Nat.gcd_comm v, ← Nat.gcd_rec,Nat.gcd_comm]
    refine ae (ae (ai (Em Y (El (sT X (db Y Y)) (Ep (aa (aH Y (az (aa ?_)))))))))
    refine au (a8 5 a4 Z S (Em Y (Em Y (Em Y (El (eK _ Y Y Y X) (En Y (Ep (En Y (Ep ?_)))))))))
    refine aD ?_
    refine aR ((v,u % v)) (⟨hvg,q3,by dsimp only;omega⟩) (by assumption) Eh (.keep Ek (.keep Ek (.keep Ek (.nil))))
end Tor
end
section
namespace Tor
open Go Go.RowKit Go.Proofs
attribute [local irreducible] J PJ aJ one slT bQ bC bv exT bZ eP aP aI slV VT.le Ret bJ
theorem AX (a:Int) (ha:bm a):Ok Tryz.prog 147 [aL a] (one (.int .i64 (mX a.natAbs:Nat))):=by
 have ha':(aK a.natAbs).length≤1099511627776:=ha
 have hx:=a9 (a6 a.natAbs) ((aK a.natAbs).length - 1)
 have hbl:=j8 (n:=32) (x:=(aK a.natAbs).getD ((aK a.natAbs).length - 1) 0) X S
 have hL:=sc _ hx
 unfold aL mX
 refine Ok.enter Tryz.func147 Y Tryz.ntmps147 Y (fun w O => ?_)
 by_cases h0:a.natAbs=0
 ·have hl:(aK a.natAbs).length=0:=by rw [h0]; rfl
  rw [if_pos h0]
  refine ae (ai ?_)
  refine aS Y Y (ltN Y) (fun b1 => ?_)
  refine En Y (Ep (aa (ae (ai (El (aj Y) (El (ak 0 Y Y Y) ?_))))))
  refine El (am (cZ _) Y ⟨(cz _),Er⟩) ?_
  refine En Y (Ep (aa (ae (ae (ai (Em Y (El (aW Y) (El (sT X (cm Y Y)) (Ep ?_)))))))))
  refine aa (aH Y (ae (ai (En Y (Ep (aa (aF (aU ?_))))))))
  refine aV Tryz.results147 (.tmp Y H)
 ·have hl:(aK a.natAbs).length≠0:=fun h=>h0 (eR h)
  rw [if_neg h0]
  refine ae (ai ?_)
  refine aS Y Y (ltN Y) (fun b1 => ?_)
  refine En Y (Ep (aa (ae (ai (El (aj Y) (El (ak 0 Y Y Y) ?_))))))
  refine El (am (cZ _) Y ⟨(cz _),Er⟩) ?_
  refine En Y (Ep (aa (ae (ae (ai (Em Y (El (aW Y) (El (sF X (cm Y Y)) (Ep ?_)))))))))
  refine aa (aB Y (az (aa (ae (ai (Em Y (El (aW Y) (El (cg _ 1 Y Y X X) (El (x4 32 _ Y Y X) ?_)))))))))
  refine Em Y (Em Y (El (aW Y) (El (cg _ 1 Y Y X X) (El (aC Y Y X) (El (aM Y) ?_)))))
  refine El (am (hL) Y ⟨H,Er⟩) ?_
  refine El (bI _ _ Y Y X) (En Y (Ep (aa (aF ?_))))
  refine aV Tryz.results147 (.tmp Y H)
end Tor
end
section
namespace Tor
theorem D0 (s x:Nat):(2*s - x)*x≤s*s:=by
 rcases Nat.le_total x s with h | h
 ·obtain ⟨d,rfl⟩ : ∃ d,s=x+d:=⟨s - x,by omega⟩
  rw [show 2*(x+d) - x=x+2*d by omega,Nat.add_mul,Nat.add_mul,Nat.mul_add,Nat.mul_add,Nat.mul_assoc,Nat.mul_comm d x]
  have:=Nat.zero_le (d*d)
  omega
 ·rcases Nat.le_total x (2*s) with h2 | h2
  ·obtain ⟨d,rfl⟩ : ∃ d,x=s+d:=⟨x - s,by omega⟩
   obtain ⟨e,rfl⟩ : ∃ e,s=d+e:=⟨s - d,by omega⟩
   rw [show 2*(d+e) - (d+e+d)=e by omega]
   simp only [Nat.add_mul,Nat.mul_add]
   have:=Nat.mul_comm d e
   have:=Nat.zero_le (d*d)
   omega
  ·rw [show 2*s - x=0 by omega,Nat.zero_mul]; exact Nat.zero_le _
theorem wD {a s x:Nat} (h:s*s≤a) (hx:0<x):s≤(x+a / x) / 2:=by
 rcases Nat.lt_or_ge ((x+a / x) / 2) s with h1 | h1
 ·exfalso
  have h2:=Nat.lt_mul_div_succ a hx
  generalize a / x=q at *
  have h3:q+1≤2*s - x:=by omega
  have h4:=D0 s x
  have h5:x*(q+1)≤(2*s - x)*x:=by rw [Nat.mul_comm]; exact Nat.mul_le_mul_right _ h3
  omega
 ·exact h1
theorem wE {a x:Nat} (hx:0<x) (h:x≤(x+a / x) / 2):x*x≤a:=by
 have h1:x≤a / x:=by
  generalize a / x=q at *; omega
 exact (Nat.le_div_iff_mul_le hx).1 h1
theorem wF {a s x:Nat} (h1:x*x≤a) (h2:a<(s+1)*(s+1)) (h3:s≤x):x=s:=by
 rcases Nat.lt_or_ge s x with h | h
 ·have h4:(s+1)*(s+1)≤x*x:=Nat.mul_le_mul h h
  omega
 ·omega
end Tor
end
section
namespace Tor
open Go Go.RowKit Go.Proofs
theorem AY (v:Nat):v<2^mX v:=by
 unfold mX
 by_cases h0:v=0
 ·rw [if_pos h0]; subst h0;decide
 ·rw [if_neg h0]
  have hl:(aK v).length≠0:=fun h=>h0 (eR h)
  obtain ⟨k,hk⟩ : ∃ k,(aK v).length=k+1:=⟨(aK v).length - 1,by omega⟩
  rw [hk,Nat.add_sub_cancel]
  have hL:=a6 v
  have h1:=bM (l:=aK v) (k:=k) X
  rw [List.take_of_length_le X,bY] at h1
  have h2:=kI hL k
  have h3:=qN (x:=(aK v).getD k 0) (by have:=a9 hL k;omega)
  generalize gh ((aK v).getD k 0)=n at *
  generalize (aK v).getD k 0=d at *
  rw [se] at h1
  generalize lv ((aK v).take k)=y at *
  rw [Nat.pow_add]
  have h4:2^(32*k)*(d+1)≤2^(32*k)*2^n:=Nat.mul_le_mul_left _ h3
  rw [Nat.mul_add,Nat.mul_one] at h4
  omega
theorem pM (n:Nat):bF ((List.replicate (n / 32+1) 0).set (n / 32) (2^(n % 32)))∧lv ((List.replicate (n / 32+1) 0).set (n / 32) (2^(n % 32)))=2^n:=by
 have h1:2^(n % 32)<4294967296:=Nat.lt_of_le_of_lt (Nat.pow_le_pow_right (n:=2) S (show n % 32≤31 by omega)) S
 refine ⟨(bF.replicate _).set h1,?_⟩
 have hs:=fO (l:=List.replicate (n / 32+1) 0) (k:=n / 32) (v:=2^(n % 32)) (by simp)
 rw [cx,Nat.mul_zero,Nat.add_zero,dT,Nat.zero_add] at hs
 rw [hs,se, ← Nat.pow_add,Nat.div_add_mod]
theorem AZ {v m:Nat} (h:(aK v).length≤m):mX v≤32*m:=by
 unfold mX
 by_cases h0:v=0
 ·rw [if_pos h0]; exact Nat.zero_le _
 ·rw [if_neg h0]
  have hl:(aK v).length≠0:=fun h=>h0 (eR h)
  have h1:=a9 (a6 v) ((aK v).length - 1)
  have h2:=j8 (n:=32) (x:=(aK v).getD ((aK v).length - 1) 0) X S
  omega
end Tor
end
section
namespace Tor
open Go Go.RowKit Go.Proofs
theorem CI {P:Program} {E:Env} {Γ:Ctx} {M:Mem} {d:Option Tmp} {ty:TypeId} {pos:String} {af:Array Edge} {gd:Option (Nat × Bool)} {T T':TypeId} {x y:Operand} {k':IntKind} {s:Nat} (hx:aN Γ x=some (one (.int .u32 1))) (hy:aN Γ y=some (one (.int k' (s:Int)))) (hs:s<32) :
  aJ P E Γ M ⟨d, .binOp .shl T x y T',ty,pos,af,gd⟩ (one (.int .u32 ((2^s:Nat):Int))) :=
 B9 hx hy X (by
  have e:min ((s:Int)).toNat IntKind.u32.bits=s:=by show min _ 32=s;omega
  rw [e,kZ]
  have h1:2^s<4294967296:=Nat.lt_of_le_of_lt (Nat.pow_le_pow_right (n:=2) S (show s≤31 by omega)) S
  have:((1:Int)*2^s)=((2^s:Nat):Int):=by simp
  rw [this]
  generalize 2^s=x at h1 ⊢
  omega)
theorem nq (i j:Nat) (h:i≤j):2^i≤2^j:=Nat.pow_le_pow_right S h
theorem yF (n k:Nat) (h:k=n+1):2^k=2^n+2^n:=by rw [h,Nat.pow_succ]; omega
theorem CJ (n k:Nat) (h:k=n+n):2^k=2^n*2^n:=by rw [h,Nat.pow_add]
theorem yG (n:Nat):VT.le (slT .one (n / 32+1) (upd (fun _=>one (.int .u32 0)) (n / 32) (one (.int .u32 ((2^(n % 32):Nat):Int))))) (lJ (2^n)) :=
 VT.le_trans (cB (m:=((List.replicate (n / 32+1) 0).set (n / 32) (2^(n % 32))).length) (ψ:=fQ ((List.replicate (n / 32+1) 0).set (n / 32) (2^(n % 32)))) (by simp) (fun q hq=>by
  unfold upd fQ
  by_cases h:q=n / 32
  ·subst h;rw [if_pos Y]; simp [List.getD]
  ·rw [if_neg h]
   simp only [List.getD,List.getElem?_set,if_neg (Ne.symm h),List.getElem?_replicate,if_pos hq]; rfl)) (fv (pM n).1 (pM n).2)
attribute [local irreducible] J PJ aJ one slT bQ bC bv exT bZ eP aP aI slV VT.le Ret bJ
theorem vy (a s:Nat) (ha:a<2^800) (h0:a≠0) (h1:s*s≤a) (h2:a<(s+1)*(s+1)):Ok Tryz.prog 101 [aL (a:Int)] (bv [aL (s:Int),one (.int .i64 0)]):=by
 have hsm:bm (a:Int):=dU (Nat.lt_trans ha U)
 have hbi:=AX (a:Int) hsm
 rw [Int.natAbs_natCast] at hbi
 have hbl:=AY a
 have hsg:c6 (a:Int)=1:=by unfold c6;rw [if_neg X,if_neg X]
 have hsi:=dc (a:Int)
 rw [hsg] at hsi
 have hb8:mX a≤832:=AZ (v:=a) (m:=26) (cF (Nat.lt_trans ha U))
 generalize mX a=bn at *
 refine Ok.enter Tryz.func101 Y Tryz.ntmps101 Y (fun w O => ?_)
 obtain ⟨n,hn⟩ : ∃ n,n=(bn+1) / 2:=⟨_,rfl⟩
 have hn2:a<2^n*2^n:=by
  rw [← Nat.pow_add]
  exact Nat.lt_of_lt_of_le hbl (Nat.pow_le_pow_right S X)
 obtain ⟨e5,he5⟩ : ∃ e,e=500:=⟨_,rfl⟩
 have hn5:2^n<2^e5:=Nat.pow_lt_pow_right S X
 have hsn:s≤2^n:=by
  rcases Nat.lt_or_ge (2^n) s with h | h
  ·have:=Nat.mul_le_mul (Nat.le_of_lt h) (Nat.le_of_lt h);omega
  ·exact h
 have hn0:0<2^n:=Nat.two_pow_pos n
 have hv:=dE false (2^n)
 rw [if_neg S] at hv
 refine ae (ai ?_)
 refine aS Y Y (ltN Y) (fun b1 => ?_)
 refine aG (T:=37) Y (ltN Y) (fun b2 => ?_)
 refine En Y (Ep (aa (ae (ae (ai (El (aQ 1 Y Y) ?_))))))
 refine El (am (hsi) Y ⟨H,Er⟩) ?_
 refine Ep (aa (au (ae (ai (El (sF X (cm Y Y)) (En Y (Ep (aa (aB Y ?_)))))))))
 refine ae (ai (El (sF X (cm Y Y)) (En Y (Ep (aa (aB Y (az (aD (aa ?_)))))))))
 refine ae (ai ?_)
 refine El (am (jm _ X X) Y ⟨H,Er⟩) ?_
 refine aG (T:=37) Y (ltN Y) (fun b4 => ?_)
 refine aA 0 Y Y Y Y Y (leN Y) Y (Ep (aa (ae (ai (El (aQ 2 Y Y) ?_)))))
 refine El (am (hbi) Y ⟨H,Er⟩) ?_
 refine El (bI _ 1 Y Y X) (El (tR 2 Y Y Y S X) (En Y (Ep (aa (ae (ai (Em Y (El (tR 32 Y Y Y S X) (El (bI _ 1 Y Y X) ?_)))))))))
 rw [← hn]
 refine bV (n / 32+1) (n / 32+1) Y Y Y Y (Nat.le_refl _) Y Y X Y Y (fun bz => ?_)
 refine En Y (Ep (aa (ae (ai (Em Y (Em Y (El (tR 32 Y Y Y S X) (Em Y (El (eK 32 Y Y Y S) ?_)))))))))
 refine El (CI (s:=n % 32) Y Y X) (El (ao Y Y X) ?_)
 (refine aw 0 Y Y Y ?_ Y ?_;omega)
 refine Ep (aa (ae (ai (Em Y (gK (t:=38) (j:=0) Y Y ?_)))))
 refine El (am (hv) Y ⟨H,(yG _),Er⟩) ?_
 refine aG (T:=37) Y (ltN Y) (fun b7 => ?_)
 refine aA 0 Y Y Y Y Y (leN Y) Y (Ep (aa (au (cp (Γ' := [(1,_),(2,_),(3,_),(4,_),(7,_)]) Eg (SubM.refl _) ?_))))
 refine bD (σ:=Nat) (Γk := [(1,_),(2,_),(4,_),(7,_)]) Eg (fun x => []) (fun x M0=>(M0.set 0 (aP b7 37 (Lay.agg 2).sz [(0,Lay.agg 2,aL (x:Int))]))) (fun x=>s≤x∧x<2^e5) (fun x=>x) (2^n) (⟨hsn,hn5⟩) Eh (.keep Ek (.keep Ek (.keep Ek (.keep Ek (.nil))))) (fun x hx => ?_)
 refine bU (Γ' := [(1,_),(2,_),(4,_),(7,_)]) (M' := [_,_,_,_]) Y Y ?_
 obtain ⟨g1,g2⟩:=hx
 have g0:0<x:=by
  rcases Nat.eq_zero_or_pos s with h | h
  ·subst h;omega
  ·omega
 have gx:x<2^2048:=Nat.lt_of_lt_of_le g2 (nq e5 2048 X)
 have ga:a<2^2048:=Nat.lt_of_lt_of_le ha (nq 800 2048 S)
 have hxs:bm (x:Int):=dU gx
 have hqa:a / x≤a:=Nat.div_le_self _ _
 have hd:=dt (a:Int) (x:Int) X hsm hxs
 rw [← Int.natCast_ediv, ← Int.natCast_emod] at hd
 have hqs:bm ((a / x:Nat):Int):=dU (Nat.lt_of_le_of_lt hqa ga)
 have had:=j7 (x:Int) ((a / x:Nat):Int) hxs hqs
 rw [← Int.natCast_add] at had
 have hss:x+a / x<2^2048:=by
  have e1:x<2^2047:=Nat.lt_of_lt_of_le g2 (nq e5 2047 X)
  have e2:a<2^2047:=Nat.lt_of_lt_of_le ha (nq 800 2047 S)
  have e3:2^2048=2^2047+2^2047:=yF 2047 2048 Y
  rw [e3]; generalize 2^2047=z at *; omega
 have hd2:=dt ((x+a / x:Nat):Int) 2 S (dU hss) (dU U)
 rw [show ((x+a / x:Nat):Int) / 2=(((x+a / x) / 2:Nat):Int) from (Int.natCast_ediv _ _).symm,show ((x+a / x:Nat):Int) % 2=(((x+a / x) % 2:Nat):Int) from (Int.natCast_emod _ _).symm] at hd2
 have hcm:=gz (((x+a / x) / 2:Nat):Int) (x:Int)
 have hnx:s≤(x+a / x) / 2:=wD h1 g0
 by_cases hy:x≤(x+a / x) / 2
 ·have hxe:x=s:=wF (wE g0 hy) h2 g1
  have hc : ¬ cV (((x+a / x) / 2:Nat):Int) (x:Int)<0:=by unfold cV;split <;> (try split) <;> omega
  refine au (ae (ai (El (aQ 3 Y Y) (El (ak 0 Y Y Y) ?_))))
  refine El (am (hd) Y ⟨H,H,Er⟩) ?_
  refine Em Y (El (ar Y Y) (El (ar Y Y) (El (ar Y Y) ?_)))
  refine aG (T:=37) Y (ltN Y) (fun b8 => ?_)
  refine aG (T:=37) Y (ltN Y) (fun b9 => ?_)
  refine aA 1 Y Y Y Y Y (leN Y) Y (aA 0 Y Y Y Y Y (leN Y) Y (En Y (Ep (aa (ae ?_)))))
  refine ep a4 Z Z ?_
  refine ux (fun B=>ak 2 Y Y Y) Y Y ?_
  refine ux (fun B=>ak 1 Y Y Y) Y Y ?_
  refine uxk (had) Y ⟨H,H,Er⟩ Y ?_
  refine ux (fun B=>ak 3 Y Y Y) Y Y ?_
  refine uxk (hd2) Y ⟨H,H,Er⟩ Y ?_
  refine ux (fun B=>ab Y) Y Y ?_
  refine ux (fun B=>ar Y Y) Y Y ?_
  refine ux (fun B=>ar Y Y) Y Y ?_
  refine ux (fun B=>ar Y Y) Y Y ?_
  refine ua Y (ua Y (us Y (us Y ?_)))
  refine ux (fun B=>ah Y) Y Y ?_
  refine RunU.nil (fun γ => ?_)
  refine cK (M' := [_,_,_,_,_,_,_,_]) Y (aa (ae (ae (ai (El (ak 1 Y Y Y) (El (ak 4 Y Y Y) ?_))))))
  refine El (am (hcm) Y ⟨H,H,Er⟩) ?_
  refine El (sT X (fh Y Y)) (Ep (aa (aH Y (ae (ai (El (ak 4 Y Y Y) (aA 6 Y Y Y Y Y (leN Y) Y (En Y (Ep ?_)))))))))
  refine aa (aF (aU (bK (aU (bK ?_)))))
  refine cT Tryz.results101 (.cellB 6 Y Y Y (cf (by rw [hxe]))) (.tmp Y H)
 ·have hc:cV (((x+a / x) / 2:Nat):Int) (x:Int)<0:=by unfold cV;rw [if_pos X]; decide
  refine au (ae (ai (El (aQ 3 Y Y) (El (ak 0 Y Y Y) ?_))))
  refine El (am (hd) Y ⟨H,H,Er⟩) ?_
  refine Em Y (El (ar Y Y) (El (ar Y Y) (El (ar Y Y) ?_)))
  refine aG (T:=37) Y (ltN Y) (fun b8 => ?_)
  refine aG (T:=37) Y (ltN Y) (fun b9 => ?_)
  refine aA 1 Y Y Y Y Y (leN Y) Y (aA 0 Y Y Y Y Y (leN Y) Y (En Y (Ep (aa (ae ?_)))))
  refine ep a4 Z Z ?_
  refine ux (fun B=>ak 2 Y Y Y) Y Y ?_
  refine ux (fun B=>ak 1 Y Y Y) Y Y ?_
  refine uxk (had) Y ⟨H,H,Er⟩ Y ?_
  refine ux (fun B=>ak 3 Y Y Y) Y Y ?_
  refine uxk (hd2) Y ⟨H,H,Er⟩ Y ?_
  refine ux (fun B=>ab Y) Y Y ?_
  refine ux (fun B=>ar Y Y) Y Y ?_
  refine ux (fun B=>ar Y Y) Y Y ?_
  refine ux (fun B=>ar Y Y) Y Y ?_
  refine ua Y (ua Y (us Y (us Y ?_)))
  refine ux (fun B=>ah Y) Y Y ?_
  refine RunU.nil (fun γ => ?_)
  refine cK (M' := [_,_,_,_,_,_,_,_]) Y (aa (ae (ae (ai (El (ak 1 Y Y Y) (El (ak 4 Y Y Y) ?_))))))
  refine El (am (hcm) Y ⟨H,H,Er⟩) ?_
  refine El (sF X (fh Y Y)) (Ep (aa (aB Y (az (aa (ai (El (ak 1 Y Y Y) (aA 4 Y Y Y Y Y (leN Y) Y (Ep ?_)))))))))
  refine aD ?_
  refine aR ((x+a / x) / 2) (⟨hnx,by omega⟩) X Eh (.drop (.drop (.drop (.drop (.keep Ek (.keep Ek (.keep Ek (.keep Ek (.nil)))))))))
end Tor
end
