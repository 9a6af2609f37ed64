/-
  Theorems that the proofs of laws of this seat rest on.
  No condition.
-/
import Derived.Test.YtbgloceimmbliaaGreatED7
set_option maxHeartbeats 20000000
set_option linter.unusedVariables false
set_option linter.unusedSimpArgs false
section
namespace Tor
open Go Go.RowKit Go.Proofs
def ul (p:Nat):Prop := ∀ x,x<p→x≠0→(x^(p - 2) % p)*x % p=1
def um (p n:Nat) (F:Nat→Nat→Int):Prop := ∀ u:Nat→Int,(∀ h,h<n→(p:Int)∣bh n (fun j=>F h j*u j)) → ∀ j,j<n→(p:Int)∣u j
abbrev CY (p n:Nat) (F:Nat→Nat→Int):Type := { s:(Nat→Nat) × (Nat→Nat) × (Nat→Nat→Nat) // EchI p n F n s.2.2 }
abbrev DK (sv:Option Nat) (cap k:Nat):Own:=aI sv 3 .one cap k (fun q=>one (.int .i64 (q:Nat)))
theorem Bb:VT.le (one (.slice none 0 0)) (one (slV none 0 0)):=aq Y
theorem mB {sv:Option Nat} {T:TypeId} {cap c j:Nat} {G Ef:Nat→Nat} : Own.le (aI sv T .one cap c (upd (fun q=>one (.int .u64 ((if q<j then G q else Ef q:Nat)))) j (one (.int .u64 (G j:Nat))))) (aI sv T .one cap c (fun q=>one (.int .u64 ((if q<j+1 then G q else Ef q:Nat))))):=bg fun q _=>by
 unfold upd
 by_cases h:q=j
 ·subst h;rw [if_pos Y,if_pos (Nat.lt_succ_self q)]
 ·rw [if_neg h]
  dsimp only
  by_cases h2:q<j
  ·rw [if_pos h2,if_pos X]
  ·rw [if_neg h2,if_neg X]
theorem y8 (a b c:Own) (l:Mem):(a :: b :: c :: l).Perm ([c,b] ++ (a :: l)) :=
 ((List.Perm.swap c b l).cons a).trans ((List.Perm.swap c a (b :: l)).trans ((List.Perm.swap b a l).cons c))
theorem CZ {c n h p v:Nat} {B C:Nat→Nat} {W:Nat→Nat→Nat} : Own.le (rwO 44 .one c n B C (fun a q=>one (.int .u64 ((if a<h then ig p v h W a q else W a q:Nat)))) (fun q=>if q=h then true else false)) (rwO 44 .one c n B C (fun a q=>one (.int .u64 ((if a<h+1 then ig p v h W a q else W a q:Nat)))) (fun q=>if q=h then true else false)) :=
 kE (fun _ _=>rfl) (fun _ _ _=>⟨rfl,rfl⟩) fun a q _ ha _=>by
  have:a≠h:=fun e=>by rw [if_pos e] at ha;cases ha
  by_cases h2:a<h
  ·rw [if_pos h2,if_pos X]; exact VT.le_refl _
  ·rw [if_neg h2,if_neg X]; exact VT.le_refl _
theorem y9 (a b c:Own) (l:Mem):(a :: b :: c :: l).Perm (c :: b :: a :: l) :=
 ((List.Perm.swap c b l).cons a).trans ((List.Perm.swap c a (b :: l)).trans ((List.Perm.swap b a l).cons c))
theorem DL {c n h k p v:Nat} {B C:Nat→Nat} {W:Nat→Nat→Nat} (hne : ¬ h=k):Own.le (rwO 44 .one c n (fun q=>if q=h then B h else B q) (fun q=>if q=h then C h else C q) (fun q=>if q=h then (fun j=>one (.int .u64 ((W h j+(0+p - W h k) % p*(v*W k j % p) % p) % p:Nat))) else (fun j=>one (.int .u64 ((if q<h then ig p v k W q j else W q j:Nat))))) (fun q=>if q=h then false else (if q=h then true else (if q=k then true else false)))) (rwO 44 .one c n B C (fun a q=>one (.int .u64 ((if a<h+1 then ig p v k W a q else W a q:Nat)))) (fun q=>if q=k then true else false)) :=
 kE (fun q _=>by
  by_cases e:q=h
  ·rw [if_pos e,if_neg X]
  ·rw [if_neg e,if_neg e]) (fun q _ _=>by
  by_cases e:q=h
  ·rw [if_pos e,if_pos e,e]; exact ⟨rfl,rfl⟩
  ·rw [if_neg e,if_neg e]; exact ⟨rfl,rfl⟩) fun q j _ _ _=>by
  by_cases e:q=h
  ·subst e;rw [if_pos Y,if_pos (Nat.lt_succ_self q)]; unfold ig;rw [if_neg hne]; exact VT.le_refl _
  ·rw [if_neg e]
   by_cases h2:q<h
   ·rw [if_pos h2,if_pos X]; exact VT.le_refl _
   ·rw [if_neg h2,if_neg X]; exact VT.le_refl _
theorem DM {c n h k p v:Nat} {B C:Nat→Nat} {W:Nat→Nat→Nat} (hn:h=n):Own.le (rwO 44 .one c n (fun q=>if q=k then B k else B q) (fun q=>if q=k then C k else C q) (fun q=>if q=k then (fun j=>one (.int .u64 ((v*W k j % p:Nat)))) else (fun j=>one (.int .u64 ((if q<h then ig p v k W q j else W q j:Nat))))) (fun q=>if q=k then false else (if q=k then true else false))) (ow c n B C (ig p v k W) (fun _=>false)) :=
 kE (fun q _=>by
  by_cases e:q=k
  ·rw [if_pos e]
  ·rw [if_neg e,if_neg e]) (fun q _ _=>by
  by_cases e:q=k
  ·rw [if_pos e,if_pos e,e]; exact ⟨rfl,rfl⟩
  ·rw [if_neg e,if_neg e]; exact ⟨rfl,rfl⟩) fun q j hq _ _=>by
  by_cases e:q=k
  ·subst e;rw [if_pos Y]; unfold wT ig;rw [if_pos Y]; exact VT.le_refl _
  ·rw [if_neg e,if_pos X]; exact VT.le_refl _
theorem wX {sv:Option Nat} {cap k:Nat} : Own.le (aI sv 3 .one cap (k+1) (fun q=>if q<k then one (.int .i64 (q:Nat)) else one (.int .i64 (k:Nat)))) (DK sv cap (k+1)):=bg fun q hq=>by
 by_cases h:q<k
 ·rw [if_pos h]
 ·rw [if_neg h,show q=k by omega]
theorem Bc {bz n c i k:Nat} {B C:Nat→Nat} : Own.le (aI (some bz) 173 .one n n (upd (upd (fun q=>one (slV (some (B q)) c (C q))) k (one (slV (some (B i)) c (C i)))) i (one (slV (some (B k)) c (C k))))) (sM bz n c (swp i k B) (swp i k C)):=bg fun q _=>by
 unfold upd swp
 by_cases h1:q=i
 ·rw [if_pos h1,if_pos h1,if_pos h1]
 ·rw [if_neg h1,if_neg h1,if_neg h1]
  by_cases h2:q=k
  ·rw [if_pos h2,if_pos h2,if_pos h2]
  ·rw [if_neg h2,if_neg h2,if_neg h2]
theorem za {n c i k:Nat} {B C:Nat→Nat} {W:Nat→Nat→Nat} : Own.le (rwO 44 .one c n B C (swp i k (wT W)) (fun _=>false)) (ow c n B C (swp i k W) (fun _=>false)):=kE (fun _ _=>rfl) (fun _ _ _=>⟨rfl,rfl⟩) fun q j _ _ _=>by
 show VT.le (swp i k (wT W) q j) (one (.int .u64 (swp i k W q j:Nat)))
 unfold swp
 split
 ·exact VT.le_refl _
 ·split <;> exact VT.le_refl _
attribute [local irreducible] J PJ aJ one slT bQ bC bv exT bZ eP aP aI slV VT.le Ret bJ
attribute [local irreducible] rwO
theorem un (p n bz:Nat) (F:Nat→Nat→Int) (B C:Nat→Nat) (W:Nat→Nat→Nat) (hp2:2≤p) (hp:p<2147483648) (hinv:ul p) (hF:um p n F) (hn:n≤1024) (h0:EchI p n F 0 W) :
  OkI (σ:=CY p n F) Tryz.prog 162 [one (.int .u64 (p:Nat)),one (slV (some bz) n n),one (.int .i64 ((n+n:Nat):Int))] [sM bz n (n+n) B C,ow (n+n) n B C W (fun _=>false)]
   (fun s=>slT .one n (fun q=>one (.int .i64 (q:Nat)))) (fun s => [sM bz n (n+n) s.1.1 s.1.2.1,ow (n+n) n s.1.1 s.1.2.1 s.1.2.2 (fun _=>false)]):=by
 refine OkI.enter Tryz.func162 Y Tryz.ntmps162 Y (fun w O => ?_)
 refine gn (ConvM.nilSl0 (T:=3) (L := .one) (φ:=fun q=>one (.int .i64 (q:Nat))) _) ?_
 refine gn (.ofPerm (List.perm_append_comm (l₁ := [_]) (l₂ := [_,_]))) (ae (ai (En Y (Ep (aa (ae (ai (En Y (Ep ?_)))))))))
 refine aa (ae (ae (ai (En Y (Ep (aa (au (ny (t:=7) (ψ:=one (slV none 0 0)) Y Bb (cp (Γ' := [(0,_),(1,_),(2,_),(6,_),(7,_),(8,_)]) Eg (SubM.refl _) ?_)))))))))
 refine bD (σ:=Nat × (Nat→Nat) × (Nat→Nat) × (Nat→Nat→Nat) × Option Nat × Nat) (Γk := [(0,_),(1,_),(2,_),(6,_)]) Eg (fun s => [(8,one (.int .i64 (s.1:Nat))),(7,one (slV s.2.2.2.2.1 s.1 s.2.2.2.2.2))]) (fun s M0=>(((M0.set 0 (sM bz n (n+n) s.2.1 s.2.2.1)).set 1 (ow (n+n) n s.2.1 s.2.2.1 s.2.2.2.1 (fun _=>false))).set 2 (DK s.2.2.2.2.1 s.2.2.2.2.2 s.1))) (fun s=>s.1≤n∧EchI p n F s.1 s.2.2.2.1) (fun s=>n - s.1) ((0,B,C,W,none,0)) (⟨Nat.zero_le _,h0⟩) Eh (.keep Ek (.keep Ek (.keep Ek (.nil)))) (fun s hs => ?_)
 refine bU (Γ' := [(8,_),(7,_),(0,_),(1,_),(2,_),(6,_)]) (M' := [_,_,_]) Y Y ?_
 obtain ⟨k,B,C,W,sv,cap⟩:=s
 obtain ⟨hk,hI⟩:=hs
 dsimp only at hk hI ⊢
 by_cases hkn:k<n
 ·obtain ⟨i,hf⟩:=hI.first hp2 hkn hF
  obtain ⟨f1,f2,f3,f4⟩:=hf
  have hse:=wW bz n (n+n) k k i B C W X X ⟨f1,f2,f3,f4⟩
  refine ae (ae (ai (Em Y (Em Y (El (sT X (a7 Y Y)) (Em Y (Eo (ab Y) (Eo (cv Y) (Eo (ab Y) ?_)))))))))
  refine Eo (cv Y) (Eo (sT X (a7 Y Y)) (El (bp Y Y) (Ep (aa (aH Y (az (aa (ae (au ?_)))))))))
  refine ae (ai (Em Y (El (cv Y) (En Y (Ep (aa (ae (ai (Em Y ?_)))))))))
  refine Em Y (Em Y ?_)
  refine gw (Min := [_,_]) (Kp := [_]) hse Y ⟨H,H,H,Er⟩ (List.Perm.refl _) Y Y (fun _ => ?_)
  refine En Y (Ep (aa (ae (ae (ai (Em Y (El (sF X (a7 Y Y)) (Ep (aa ?_)))))))))
  refine aB Y (az (aa (ae ?_)))
  apply iC (Γ1 := [(0,_),(1,_),(2,_),(6,_),(7,_),(8,_),(9,_)]) (M1 := [_,_,_]) 12 7 [2,3] [] a4 Z S
  ·refine Em Y (Em Y (Em Y (Em Y (Em Y (Em Y (El (ao Y Y X) (El (be 0 Y Y X) (Em Y (Em Y ?_)))))))))
   refine El (ao Y Y X) (El (be 0 Y Y X) (Ep ?_))
   refine yf (Γa := [(0,_),(1,_),(2,_),(6,_),(7,_),(8,_),(9,_),(10,_),(37,_),(38,_),(44,_),(48,_)]) (Γb := [(0,_),(1,_),(2,_),(6,_),(7,_),(8,_),(9,_),(10,_),(37,_),(38,_),(44,_),(48,_),(40,_)]) (Γc := [(0,_),(1,_),(2,_),(6,_),(7,_),(8,_),(9,_),(10,_),(37,_),(38,_),(44,_),(48,_),(39,_)]) (Γd := [(0,_),(1,_),(2,_),(6,_),(7,_),(8,_),(9,_),(10,_),(37,_),(38,_),(44,_),(48,_),(39,_),(40,_)]) (rem := [12,13,14,15]) Y Ej Y Ej Y Ej Y Ej Y ?_ ?_ ?_ ?_
   ·refine ey (r1 := [3,12,13,14,15]) (r2 := [2,12,13,14,15]) (r3 := [2,3,13,14,15]) (i:=2) (j:=3) (k:=12) Z Y Y Y Y Y Y ?_ ?_ ?_ iB.nil
    refine Em Y (Ep ?_)
    refine ⟨rfl,?_⟩
    refine bL (rem' := [12,13,14,15]) (rem'' := [3,13,14,15]) (i:=3) (j:=12) Z Y Y Y Y ?_ ?_ iB.nil
    refine Em Y (Ep ?_)
    refine ⟨rfl,?_⟩
    refine an (rem' := [13,14,15]) (i:=12) Z Y Y ?_ iB.nil
    refine El (ao Y Y X) (Ep ?_)
    refine ⟨rfl,?_⟩
    refine an (rem' := [14,15]) (i:=13) Z Y Y ?_ iB.nil
    (refine aw 0 Y Y Y ?_ Y ?_;omega)
    refine Ep ?_
    refine ⟨rfl,?_⟩
    refine an (rem' := [15]) (i:=14) Z Y Y ?_ iB.nil
    refine El (ao Y Y X) (Ep ?_)
    refine ⟨rfl,?_⟩
    refine an (rem' := []) (i:=15) Z Y Y ?_ iB.nil
    (refine aw 0 Y Y Y ?_ Y ?_;omega)
    refine Ep ?_
    refine ⟨rfl,?_⟩
    refine aT Ej (SubM.refl _) iB.nil
    refine El (ao Y Y X) (Ep ?_)
    refine ⟨rfl,?_⟩
    refine bL (rem' := [13,14,15]) (rem'' := [3,14,15]) (i:=3) (j:=13) Z Y Y Y Y ?_ ?_ iB.nil
    refine Em Y (Ep ?_)
    refine ⟨rfl,?_⟩
    refine an (rem' := [14,15]) (i:=13) Z Y Y ?_ iB.nil
    (refine aw 0 Y Y Y ?_ Y ?_;omega)
    refine Ep ?_
    refine ⟨rfl,?_⟩
    refine an (rem' := [15]) (i:=14) Z Y Y ?_ iB.nil
    refine El (ao Y Y X) (Ep ?_)
    refine ⟨rfl,?_⟩
    refine an (rem' := []) (i:=15) Z Y Y ?_ iB.nil
    (refine aw 0 Y Y Y ?_ Y ?_;omega)
    refine Ep ?_
    refine ⟨rfl,?_⟩
    refine aT Ej (SubM.refl _) iB.nil
    (refine aw 0 Y Y Y ?_ Y ?_;omega)
    refine Ep ?_
    refine ⟨rfl,?_⟩
    refine an (rem' := [14,15]) (i:=3) Z Y Y ?_ iB.nil
    refine Em Y (Ep ?_)
    refine ⟨rfl,?_⟩
    refine an (rem' := [15]) (i:=14) Z Y Y ?_ iB.nil
    refine El (ao Y Y X) (Ep ?_)
    refine ⟨rfl,?_⟩
    refine an (rem' := []) (i:=15) Z Y Y ?_ iB.nil
    (refine aw 0 Y Y Y ?_ Y ?_;omega)
    refine Ep ?_
    refine ⟨rfl,?_⟩
    refine aT Ej (SubM.refl _) iB.nil
    refine Em Y (Ep ?_)
    refine ⟨rfl,?_⟩
    refine bL (rem' := [12,13,14,15]) (rem'' := [2,13,14,15]) (i:=2) (j:=12) Z Y Y Y Y ?_ ?_ iB.nil
    refine Em Y (Ep ?_)
    refine ⟨rfl,?_⟩
    refine an (rem' := [13,14,15]) (i:=12) Z Y Y ?_ iB.nil
    refine El (ao Y Y X) (Ep ?_)
    refine ⟨rfl,?_⟩
    refine an (rem' := [14,15]) (i:=13) Z Y Y ?_ iB.nil
    (refine aw 0 Y Y Y ?_ Y ?_;omega)
    refine Ep ?_
    refine ⟨rfl,?_⟩
    refine an (rem' := [15]) (i:=14) Z Y Y ?_ iB.nil
    refine El (ao Y Y X) (Ep ?_)
    refine ⟨rfl,?_⟩
    refine an (rem' := []) (i:=15) Z Y Y ?_ iB.nil
    (refine aw 0 Y Y Y ?_ Y ?_;omega)
    refine Ep ?_
    refine ⟨rfl,?_⟩
    refine aT Ej (SubM.refl _) iB.nil
    refine El (ao Y Y X) (Ep ?_)
    refine ⟨rfl,?_⟩
    refine bL (rem' := [13,14,15]) (rem'' := [2,14,15]) (i:=2) (j:=13) Z Y Y Y Y ?_ ?_ iB.nil
    refine Em Y (Ep ?_)
    refine ⟨rfl,?_⟩
    refine an (rem' := [14,15]) (i:=13) Z Y Y ?_ iB.nil
    (refine aw 0 Y Y Y ?_ Y ?_;omega)
    refine Ep ?_
    refine ⟨rfl,?_⟩
    refine an (rem' := [15]) (i:=14) Z Y Y ?_ iB.nil
    refine El (ao Y Y X) (Ep ?_)
    refine ⟨rfl,?_⟩
    refine an (rem' := []) (i:=15) Z Y Y ?_ iB.nil
    (refine aw 0 Y Y Y ?_ Y ?_;omega)
    refine Ep ?_
    refine ⟨rfl,?_⟩
    refine aT Ej (SubM.refl _) iB.nil
    (refine aw 0 Y Y Y ?_ Y ?_;omega)
    refine Ep ?_
    refine ⟨rfl,?_⟩
    refine an (rem' := [14,15]) (i:=2) Z Y Y ?_ iB.nil
    refine Em Y (Ep ?_)
    refine ⟨rfl,?_⟩
    refine an (rem' := [15]) (i:=14) Z Y Y ?_ iB.nil
    refine El (ao Y Y X) (Ep ?_)
    refine ⟨rfl,?_⟩
    refine an (rem' := []) (i:=15) Z Y Y ?_ iB.nil
    (refine aw 0 Y Y Y ?_ Y ?_;omega)
    refine Ep ?_
    refine ⟨rfl,?_⟩
    refine aT Ej (SubM.refl _) iB.nil
    refine El (ao Y Y X) (Ep ?_)
    refine ⟨rfl,?_⟩
    refine ey (r1 := [3,13,14,15]) (r2 := [2,13,14,15]) (r3 := [2,3,14,15]) (i:=2) (j:=3) (k:=13) Z Y Y Y Y Y Y ?_ ?_ ?_ iB.nil
    refine Em Y (Ep ?_)
    refine ⟨rfl,?_⟩
    refine bL (rem' := [13,14,15]) (rem'' := [3,14,15]) (i:=3) (j:=13) Z Y Y Y Y ?_ ?_ iB.nil
    refine Em Y (Ep ?_)
    refine ⟨rfl,?_⟩
    refine an (rem' := [14,15]) (i:=13) Z Y Y ?_ iB.nil
    (refine aw 0 Y Y Y ?_ Y ?_;omega)
    refine Ep ?_
    refine ⟨rfl,?_⟩
    refine an (rem' := [15]) (i:=14) Z Y Y ?_ iB.nil
    refine El (ao Y Y X) (Ep ?_)
    refine ⟨rfl,?_⟩
    refine an (rem' := []) (i:=15) Z Y Y ?_ iB.nil
    (refine aw 0 Y Y Y ?_ Y ?_;omega)
    refine Ep ?_
    refine ⟨rfl,?_⟩
    refine aT Ej (SubM.refl _) iB.nil
    (refine aw 0 Y Y Y ?_ Y ?_;omega)
    refine Ep ?_
    refine ⟨rfl,?_⟩
    refine an (rem' := [14,15]) (i:=3) Z Y Y ?_ iB.nil
    refine Em Y (Ep ?_)
    refine ⟨rfl,?_⟩
    refine an (rem' := [15]) (i:=14) Z Y Y ?_ iB.nil
    refine El (ao Y Y X) (Ep ?_)
    refine ⟨rfl,?_⟩
    refine an (rem' := []) (i:=15) Z Y Y ?_ iB.nil
    (refine aw 0 Y Y Y ?_ Y ?_;omega)
    refine Ep ?_
    refine ⟨rfl,?_⟩
    refine aT Ej (SubM.refl _) iB.nil
    refine Em Y (Ep ?_)
    refine ⟨rfl,?_⟩
    refine bL (rem' := [13,14,15]) (rem'' := [2,14,15]) (i:=2) (j:=13) Z Y Y Y Y ?_ ?_ iB.nil
    refine Em Y (Ep ?_)
    refine ⟨rfl,?_⟩
    refine an (rem' := [14,15]) (i:=13) Z Y Y ?_ iB.nil
    (refine aw 0 Y Y Y ?_ Y ?_;omega)
    refine Ep ?_
    refine ⟨rfl,?_⟩
    refine an (rem' := [15]) (i:=14) Z Y Y ?_ iB.nil
    refine El (ao Y Y X) (Ep ?_)
    refine ⟨rfl,?_⟩
    refine an (rem' := []) (i:=15) Z Y Y ?_ iB.nil
    (refine aw 0 Y Y Y ?_ Y ?_;omega)
    refine Ep ?_
    refine ⟨rfl,?_⟩
    refine aT Ej (SubM.refl _) iB.nil
    (refine aw 0 Y Y Y ?_ Y ?_;omega)
    refine Ep ?_
    refine ⟨rfl,?_⟩
    refine an (rem' := [14,15]) (i:=2) Z Y Y ?_ iB.nil
    refine Em Y (Ep ?_)
    refine ⟨rfl,?_⟩
    refine an (rem' := [15]) (i:=14) Z Y Y ?_ iB.nil
    refine El (ao Y Y X) (Ep ?_)
    refine ⟨rfl,?_⟩
    refine an (rem' := []) (i:=15) Z Y Y ?_ iB.nil
    (refine aw 0 Y Y Y ?_ Y ?_;omega)
    refine Ep ?_
    refine ⟨rfl,?_⟩
    refine aT Ej (SubM.refl _) iB.nil
    (refine aw 0 Y Y Y ?_ Y ?_;omega)
    refine Ep ?_
    refine ⟨rfl,?_⟩
    refine bL (rem' := [3,14,15]) (rem'' := [2,14,15]) (i:=2) (j:=3) Z Y Y Y Y ?_ ?_ iB.nil
    refine Em Y (Ep ?_)
    refine ⟨rfl,?_⟩
    refine an (rem' := [14,15]) (i:=3) Z Y Y ?_ iB.nil
    refine Em Y (Ep ?_)
    refine ⟨rfl,?_⟩
    refine an (rem' := [15]) (i:=14) Z Y Y ?_ iB.nil
    refine El (ao Y Y X) (Ep ?_)
    refine ⟨rfl,?_⟩
    refine an (rem' := []) (i:=15) Z Y Y ?_ iB.nil
    (refine aw 0 Y Y Y ?_ Y ?_;omega)
    refine Ep ?_
    refine ⟨rfl,?_⟩
    refine aT Ej (SubM.refl _) iB.nil
    refine Em Y (Ep ?_)
    refine ⟨rfl,?_⟩
    refine an (rem' := [14,15]) (i:=2) Z Y Y ?_ iB.nil
    refine Em Y (Ep ?_)
    refine ⟨rfl,?_⟩
    refine an (rem' := [15]) (i:=14) Z Y Y ?_ iB.nil
    refine El (ao Y Y X) (Ep ?_)
    refine ⟨rfl,?_⟩
    refine an (rem' := []) (i:=15) Z Y Y ?_ iB.nil
    (refine aw 0 Y Y Y ?_ Y ?_;omega)
    refine Ep ?_
    refine ⟨rfl,?_⟩
    refine aT Ej (SubM.refl _) iB.nil
   ·refine bL (rem' := [12,13,14,15]) (rem'' := [2,13,14,15]) (i:=2) (j:=12) Z Y Y Y Y ?_ ?_ iB.nil
    refine Em Y (Ep ?_)
    refine ⟨rfl,?_⟩
    refine an (rem' := [13,14,15]) (i:=12) Z Y Y ?_ iB.nil
    refine El (ao Y Y X) (Ep ?_)
    refine ⟨rfl,?_⟩
    refine an (rem' := [14,15]) (i:=13) Z Y Y ?_ iB.nil
    (refine aw 0 Y Y Y ?_ Y ?_;omega)
    refine Ep ?_
    refine ⟨rfl,?_⟩
    refine an (rem' := [15]) (i:=14) Z Y Y ?_ iB.nil
    refine El (ao Y Y X) (Ep ?_)
    refine ⟨rfl,?_⟩
    refine an (rem' := []) (i:=15) Z Y Y ?_ iB.nil
    (refine aw 0 Y Y Y ?_ Y ?_;omega)
    refine Ep ?_
    refine ⟨rfl,?_⟩
    refine aT Ej (SubM.refl _) iB.nil
    refine El (ao Y Y X) (Ep ?_)
    refine ⟨rfl,?_⟩
    refine bL (rem' := [13,14,15]) (rem'' := [2,14,15]) (i:=2) (j:=13) Z Y Y Y Y ?_ ?_ iB.nil
    refine Em Y (Ep ?_)
    refine ⟨rfl,?_⟩
    refine an (rem' := [14,15]) (i:=13) Z Y Y ?_ iB.nil
    (refine aw 0 Y Y Y ?_ Y ?_;omega)
    refine Ep ?_
    refine ⟨rfl,?_⟩
    refine an (rem' := [15]) (i:=14) Z Y Y ?_ iB.nil
    refine El (ao Y Y X) (Ep ?_)
    refine ⟨rfl,?_⟩
    refine an (rem' := []) (i:=15) Z Y Y ?_ iB.nil
    (refine aw 0 Y Y Y ?_ Y ?_;omega)
    refine Ep ?_
    refine ⟨rfl,?_⟩
    refine aT Ej (SubM.refl _) iB.nil
    (refine aw 0 Y Y Y ?_ Y ?_;omega)
    refine Ep ?_
    refine ⟨rfl,?_⟩
    refine an (rem' := [14,15]) (i:=2) Z Y Y ?_ iB.nil
    refine Em Y (Ep ?_)
    refine ⟨rfl,?_⟩
    refine an (rem' := [15]) (i:=14) Z Y Y ?_ iB.nil
    refine El (ao Y Y X) (Ep ?_)
    refine ⟨rfl,?_⟩
    refine an (rem' := []) (i:=15) Z Y Y ?_ iB.nil
    (refine aw 0 Y Y Y ?_ Y ?_;omega)
    refine Ep ?_
    refine ⟨rfl,?_⟩
    refine aT Ej (SubM.refl _) iB.nil
   ·refine bL (rem' := [12,13,14,15]) (rem'' := [3,13,14,15]) (i:=3) (j:=12) Z Y Y Y Y ?_ ?_ iB.nil
    refine Em Y (Ep ?_)
    refine ⟨rfl,?_⟩
    refine an (rem' := [13,14,15]) (i:=12) Z Y Y ?_ iB.nil
    refine El (ao Y Y X) (Ep ?_)
    refine ⟨rfl,?_⟩
    refine an (rem' := [14,15]) (i:=13) Z Y Y ?_ iB.nil
    (refine aw 0 Y Y Y ?_ Y ?_;omega)
    refine Ep ?_
    refine ⟨rfl,?_⟩
    refine an (rem' := [15]) (i:=14) Z Y Y ?_ iB.nil
    refine El (ao Y Y X) (Ep ?_)
    refine ⟨rfl,?_⟩
    refine an (rem' := []) (i:=15) Z Y Y ?_ iB.nil
    (refine aw 0 Y Y Y ?_ Y ?_;omega)
    refine Ep ?_
    refine ⟨rfl,?_⟩
    refine aT Ej (SubM.refl _) iB.nil
    refine El (ao Y Y X) (Ep ?_)
    refine ⟨rfl,?_⟩
    refine bL (rem' := [13,14,15]) (rem'' := [3,14,15]) (i:=3) (j:=13) Z Y Y Y Y ?_ ?_ iB.nil
    refine Em Y (Ep ?_)
    refine ⟨rfl,?_⟩
    refine an (rem' := [14,15]) (i:=13) Z Y Y ?_ iB.nil
    (refine aw 0 Y Y Y ?_ Y ?_;omega)
    refine Ep ?_
    refine ⟨rfl,?_⟩
    refine an (rem' := [15]) (i:=14) Z Y Y ?_ iB.nil
    refine El (ao Y Y X) (Ep ?_)
    refine ⟨rfl,?_⟩
    refine an (rem' := []) (i:=15) Z Y Y ?_ iB.nil
    (refine aw 0 Y Y Y ?_ Y ?_;omega)
    refine Ep ?_
    refine ⟨rfl,?_⟩
    refine aT Ej (SubM.refl _) iB.nil
    (refine aw 0 Y Y Y ?_ Y ?_;omega)
    refine Ep ?_
    refine ⟨rfl,?_⟩
    refine an (rem' := [14,15]) (i:=3) Z Y Y ?_ iB.nil
    refine Em Y (Ep ?_)
    refine ⟨rfl,?_⟩
    refine an (rem' := [15]) (i:=14) Z Y Y ?_ iB.nil
    refine El (ao Y Y X) (Ep ?_)
    refine ⟨rfl,?_⟩
    refine an (rem' := []) (i:=15) Z Y Y ?_ iB.nil
    (refine aw 0 Y Y Y ?_ Y ?_;omega)
    refine Ep ?_
    refine ⟨rfl,?_⟩
    refine aT Ej (SubM.refl _) iB.nil
   ·refine an (rem' := [13,14,15]) (i:=12) Z Y Y ?_ iB.nil
    refine El (ao Y Y X) (Ep ?_)
    refine ⟨rfl,?_⟩
    refine an (rem' := [14,15]) (i:=13) Z Y Y ?_ iB.nil
    (refine aw 0 Y Y Y ?_ Y ?_;omega)
    refine Ep ?_
    refine ⟨rfl,?_⟩
    refine an (rem' := [15]) (i:=14) Z Y Y ?_ iB.nil
    refine El (ao Y Y X) (Ep ?_)
    refine ⟨rfl,?_⟩
    refine an (rem' := []) (i:=15) Z Y Y ?_ iB.nil
    (refine aw 0 Y Y Y ?_ Y ?_;omega)
    refine Ep ?_
    refine ⟨rfl,?_⟩
    refine aT Ej (SubM.refl _) iB.nil
  ·refine fl (ConvM.le Bc) (fl (ConvM.cons (yn f2 hkn)) ?_)
   have hI':=hI.swap hkn f2 f1
   have hnz:swp i k W k k≠0:=by rw [gT]; exact f3
   refine fl (ConvM.cons (ConvM.le za)) ?_
   generalize swp i k W=W' at *
   generalize swp i k B=B' at *
   generalize swp i k C=C' at *
   have hWk:W' k k<p:=hI'.lt k k hkn X
   have hin:=AW p (W' k k) hp2 X hnz hWk
   have hin1:=hinv (W' k k) hWk hnz
   have hinlt:W' k k^(p - 2) % p<p:=Nat.mod_lt _ X
   generalize W' k k^(p - 2) % p=v at *
   refine aa (ae (ai (Em Y (Em Y (Em Y (El (ao Y Y X) (El (be 0 Y Y X) (Em Y (El (ao Y Y X) ?_)))))))))
   refine El (n7 1 Y Y X Y X) ?_
   refine El (am (hin) Y ⟨H,H,Er⟩) ?_
   refine Em Y (El (ar Y Y) (El (ar Y Y) (En Y (En Y (Ep (aa (ae (ae (ai ?_)))))))))
   refine Em Y (Em Y (El (ao Y Y X) (El (be 0 Y Y X) (El (cv Y) (Em Y (Ep (aa (au (gn (ConvM.cons (lE hkn Y)) ?_)))))))))
   refine cp (Γ' := [(0,_),(1,_),(2,_),(6,_),(7,_),(8,_),(9,_),(11,_),(66,_),(67,_),(68,_)]) Eg (SubM.refl _) ?_
   refine bD (σ:=Nat) (Γk := [(0,_),(1,_),(2,_),(6,_),(7,_),(8,_),(9,_),(11,_),(66,_),(67,_)]) Eg (fun j => [(68,one (.int .i64 (j:Nat)))]) (fun j M0=>(M0.set 1 (aI (some (B' k)) 44 .one (C' k) (n+n) (fun q=>one (.int .u64 ((if q<j then v*W' k q % p else W' k q:Nat))))))) (fun j=>j≤n+n) (fun j=>n+n - j) (0) (Nat.zero_le _) Eh (.keep Ek (.keep Ek (.keep Ek (.keep Ek (.nil))))) (fun j hj => ?_)
   refine bU (Γ' := [(68,_),(0,_),(1,_),(2,_),(6,_),(7,_),(8,_),(9,_),(11,_),(66,_),(67,_)]) (M' := [_,_,_,_]) Y Y ?_
   by_cases hj2:j<n+n
   ·have h1:=hI'.lt k j hkn hj2
    have hmu:=it p v (W' k j) X X X X
    refine ae (ai (El (sT X (a7 Y Y)) (Ep (aa (ae (aH Y (az (aa (ae ?_)))))))))
    refine au (ae (ai (Em Y (El (ao Y Y X) (El (be 1 Y Y X) (En Y (En Y (Ep (aa ?_)))))))))
    refine a8 9 a4 Z S (Em Y (Em Y (El (ao Y Y X) (El (be 0 Y Y X) (Em Y (Em Y (Em Y (Em Y ?_))))))))
    refine El (am (hmu) Y ⟨H,H,(aq (by rw [if_neg (Nat.lt_irrefl j)])),Er⟩) ?_
    refine Ep (El (ao Y Y X) ?_)
    (refine aw 1 Y Y Y ?_ Y ?_;omega)
    refine Ep (aD (aa (ai (El (bI _ 1 Y Y X) (Em Y (Ep ?_))))))
    refine aR (j+1) X X Eh (.keep Ek (.keep (mB) (.keep Ek (.keep Ek (.nil)))))
   ·have hjn:j=n+n:=by omega
    refine ae (ai (El (sF X (a7 Y Y)) (Ep (aa (ae (aB Y (aX (av (av ?_)))))))))
    refine aE (aa (ae (ae (ai (Em Y (El (cv Y) (Em Y (Ep (aa ?_)))))))))
    refine au ?_
    refine gn (ConvM.cons (ConvM.le (b:=aI (some (B' k)) 44 .one (C' k) (n+n) (fun q=>one (.int .u64 (v*W' k q % p:Nat)))) (bg fun q hq=>by rw [if_pos X]))) ?_
    refine cp (Γ' := [(0,_),(1,_),(2,_),(6,_),(7,_),(8,_),(9,_),(84,_),(85,_),(86,_)]) Eg (SubM.refl _) ?_
    refine bD (σ:=Nat) (Γk := [(0,_),(1,_),(2,_),(6,_),(7,_),(8,_),(9,_),(84,_),(85,_)]) Eg (fun h => [(86,one (.int .i64 (h:Nat)))]) (fun h M0=>(M0.set 2 (rwO 44 .one (n+n) n B' C' (fun a q=>one (.int .u64 ((if a<h then ig p v k W' a q else W' a q:Nat)))) (fun q=>if q=k then true else false)))) (fun h=>h≤n) (fun h=>n - h) (0) (Nat.zero_le _) Eh (.keep Ek (.keep Ek (.keep Ek (.keep Ek (.nil))))) (fun h hh => ?_)
    refine bU (Γ' := [(86,_),(0,_),(1,_),(2,_),(6,_),(7,_),(8,_),(9,_),(84,_),(85,_)]) (M' := [_,_,_,_]) Y Y ?_
    by_cases hh2:h<n
    ·by_cases hhk:h=k
     ·subst hhk
      refine ae (ai (El (sT X (a7 Y Y)) (Ep (aa (ae (aH Y (az (aa (ae ?_)))))))))
      refine au (ae (ai (Em Y (El (ao Y Y X) (El (be 0 Y Y X) (En Y (En Y (Ep (aa ?_)))))))))
      refine ae (ai (Em Y (Em Y (El (sF X (dy Y Y)) (Ep (aa (aB Y (az (aD ?_)))))))))
      refine aa (ai (El (bI _ 1 Y Y X) (Em Y (Ep ?_))))
      refine aR (h+1) X X Eh (.keep Ek (.keep Ek (.keep (CZ) (.keep Ek (.nil)))))
     ·refine gn (ConvM.cons (ConvM.cons (lE hh2 (if_neg hhk)))) ?_
      refine gn (ConvM.cons (ConvM.cons (ConvM.le (b:=aI (some (B' h)) 44 .one (C' h) (n+n) (fun q=>one (.int .u64 (W' h q:Nat)))) (bg fun q hq=>by rw [if_neg (Nat.lt_irrefl h)])))) ?_
      have h1:=hI'.lt h k hh2 X
      have hsu:=AV p 0 (W' h k) X X X X
      have had:=y6 p (n+n) (B' h) (B' k) (C' h) (C' k) ((0+p - W' h k) % p) (W' h) (fun q=>v*W' k q % p) X X (Nat.mod_lt _ X) (fun q hq=>hI'.lt h q hh2 hq) (fun q _=>Nat.mod_lt _ X) X
      refine ae (ai (El (sT X (a7 Y Y)) (Ep (aa (ae (aH Y (az (aa (ae ?_)))))))))
      refine au (ae (ai (Em Y (El (ao Y Y X) (El (be 0 Y Y X) (En Y (En Y (Ep (aa ?_)))))))))
      refine ae (ai (Em Y (Em Y (El (sT X (dy Y Y)) (Ep (aa (aH Y (qo 16 12 a4 Z S (Em Y ?_)))))))))
      refine Em Y (Em Y (Em Y (El (ao Y Y X) (El (be 0 Y Y X) (Em Y (Em Y (Em Y (El (ao Y Y X) (El (be 2 Y Y X) ?_)))))))))
      refine El (am (hsu) Y ⟨H,H,H,Er⟩) ?_
      refine Ep ?_
      refine gw (Min := [_,_]) (Kp := [_,_,_]) had Y ⟨H,H,H,H,Er⟩ (y8 _ _ _ _) Y Y (fun _ => ?_)
      refine Ep (aD (aa (ai (El (bI _ 1 Y Y X) (Em Y (Ep (fl (.ofPerm (y9 _ _ _ _)) (fl (ConvM.cons (ConvM.cons (lG hh2 (if_pos Y)))) ?_))))))))
      refine aR (h+1) X X Eh (.keep Ek (.keep Ek (.keep (DL hhk) (.keep Ek (.nil)))))
    ·have hhn:h=n:=by omega
     have hst:=hI'.step hp2 hkn hin1
     refine ae (ai (El (sF X (a7 Y Y)) (Ep (aa (ae (aB Y (aX (av (av ?_)))))))))
     refine aE (aa (ai (Em Y (Em Y (gm Y Y Y Y ?_)))))
     (refine cW 3 Y Y Y (leN Y) ?_ ?_ Y (ltN Y) (fun sv111 cap111 => ?_);omega;omega)
     refine En Y (Ep (aD (aa (ai (Em Y (El (bI _ 1 Y Y X) (En Y (Ep (fl (ConvM.cons (lG hkn (if_pos Y))) ?_)))))))))
     refine aR ((k+1,B',C',ig p v k W',sv111,cap111)) (⟨hkn,hst⟩) X Eh (.keep Ek (.keep (DM hhn) (.keep (wX) (.nil))))
 ·have hkn:k=n:=by omega
  by_cases hn0:n=0
  ·refine ae (ae (ai (Em Y (Em Y (El (sF X (a7 Y Y)) (Em Y (sn0 Y Y Y Y Y (sn0 Y Y Y Y Y (sn0 Y Y Y Y Y ?_)))))))))
   refine sn0 Y Y Y Y Y (sn0 Y Y Y Y Y (El (bE Y Y) (Ep (aa (aB Y (aX (av (av (aE ?_)))))))))
   refine aa (ae (ai (Em Y (En Y (Ep (aa (aF ?_)))))))
   subst hkn
   refine cq (t:=6) (i:=2) Y Y ?_
   exact pw (⟨(B,C,W),hI⟩:CY p k F) Tryz.results162 (.tmp Y H) (SubM.refl _)
  ·refine ae (ae (ai (Em Y (Em Y (El (sT X (a7 Y Y)) (Em Y (Eo (ab Y) (Eo (cv Y) (Eo (ab Y) ?_)))))))))
   refine Eo (cv Y) (Eo (sF X (a7 Y Y)) (El (bp Y Y) (Ep (aa (aB Y (aX (av (av (aE ?_)))))))))
   refine aa (ae (ai (Em Y (En Y (Ep (aa (aF ?_)))))))
   subst hkn
   refine cq (t:=6) (i:=2) Y Y ?_
   exact pw (⟨(B,C,W),hI⟩:CY p k F) Tryz.results162 (.tmp Y H) (SubM.refl _)
end Tor
end
section
set_option linter.unusedSectionVars false
namespace Tor
open Go Go.RowKit
section
variable {P:Program} {E:Env} {ops:Array Oper}
abbrev mC (d:Nat→Nat) (V:Nat→Value) (l:List Nat):Ctx:=l.map fun j=>(d j,one (V j))
theorem pU {d:Nat→Nat} {V:Nat→Value} {Γ:Ctx} {t:Nat} {φ:VT} : ∀ {l:List Nat},bR (mC d V l ++ Γ) t=some φ→(∃ j∈l,d j=t∧φ=one (V j))∨bR Γ t=some φ
 | [], h => .inr h
 | j :: l, h => by
  have h:bR ((d j,one (V j)) :: (mC d V l ++ Γ)) t=some φ:=h
  rw [bx] at h
  split at h
  ·rename_i e;cases h;exact .inl ⟨j,List.mem_cons_self,e,rfl⟩
  ·rcases pU h with ⟨k,h1,h2⟩ | h2
   ·exact .inl ⟨k,List.mem_cons_of_mem _ h1,h2⟩
   ·exact .inr h2
theorem vH {D:List Deferred} {Γ:Ctx} {M:Mem} {a:Act} {w:World} {d:Nat→Nat} {V:Nat→Value} {l:List Nat} (hS:St E D Γ M a w) (h : ∀ j∈l,a.tmps.getD (d j) undef=V j):St E D (mC d V l ++ Γ) M a w :=
 ⟨hS.base,hS.sz,hS.df,fun t φ ht=>by
  rcases pU ht with ⟨j,h1,rfl,rfl⟩ | h2
  ·exact h j h1
  ·exact hS.tm t φ h2⟩
def zc (E:Env) (D:List Deferred) (Γ:Ctx) (M:Mem) (row:Nat→Own) (n m:Nat) (d:Nat→Nat) (V:Nat→Value) (W:Nat→Value) (l:Array Bool) (a:Act) (w:World):Prop :=
 ∃ M',(l.getD m false=false∧M'=M∨l.getD m false=true ∧ ∃ b,M'=row b :: M∧a.tmps.getD (d m) undef=W b)∧St E D Γ M' a w ∧ ∀ j,j<n→j≠m→l.getD j false=true→a.tmps.getD (d j) undef=V j
theorem C0 {T e:TypeId} {z:Value} {by':Nat} {L:Lay} [hS:SliceOf P T e] [hL:LayOf P e L] [hZ:ZeroOf P e z by'] [hF:Flat (one z) L] {D:List Deferred} {Γ:Ctx} {M:Mem} {id:Nat} {Q:Exit→Act→World→Prop} (n m c:Nat) (d:Nat→Nat) (V:Nat→Value) (pre:Nat→List Nat) (Γ0:Ctx) {x y:Operand} {ty:TypeId} {pos:String} {af:Array Edge}
  (hm:P.follows .mixedOrders=true) (hok:e9 n ops=true) (hmn:m<n)
  (hd:((List.range n).all fun i=>(List.range n).all fun j => !Nat.beq (d i) (d j) || Nat.beq i j)=true)
  (hpre:((List.range n).all fun i=>(pre i).all fun j => !Nat.beq j m && Nat.blt j n && predB ops j i)=true)
  (h0:((List.range n).all fun j=>(bR Γ0 (d j)).isNone)=true) (hs0:dJ Γ Γ0)
  (hA : ∀ i,i<n→i≠m → ∃ o,ops[i]? = some o ∧ ∀ M',(M'=M ∨ ∃ b,M'=aI (some b) e L c c (fun _=>one z) :: M)→StepG P E (mC d V (pre i) ++ Γ0) M' ops o ((d i,one (V i)) :: (mC d V (pre i) ++ Γ0)))
  (hmk:ops[m]? = some ⟨some (d m), .makeSlice T x y,ty,pos,af,none⟩) (hx:aN (mC d V (pre m) ++ Γ0) x=some (one (.int .i64 (c:Nat)))) (hy:aN (mC d V (pre m) ++ Γ0) y=some (one (.int .i64 (c:Nat))))
  (hb0:Nat.ble 1 by'=true) (hz0:Nat.ble 1 L.sz=true) (hc:by'*c≤2^48) (hdm:Nat.ble (d m+1) E.N=true)
  (hT : ∀ b,Run P E ops false n D ((d m,one (slV (some b) c c)) :: (mC d V ((List.range n).filter fun j => !Nat.beq j m) ++ Γ0)) (aI (some b) e L c c (fun _=>one z) :: M) (ops.toList.drop n) (fun D' Γ' M'=>PJ E D' Γ' M' .normal Q)):J P E D Γ M (.region id ops true) Q:=by
 intro a w hSt
 have hn:n≤ops.size:=by simp only [e9,Bool.and_eq_true] at hok;exact of_decide_eq_true hok.1
 have hd' : ∀ i j,i<n→j<n→d i=d j→i=j:=fun i j hi hj e=>by
  have h1:=List.all_eq_true.1 (List.all_eq_true.1 hd i (List.mem_range.2 hi)) j (List.mem_range.2 hj)
  rw [e] at h1
  simpa using h1
 have hpre' : ∀ i j,i<n→j∈pre i→j≠m∧j<n∧predB ops j i=true:=fun i j hi hj=>by
  have h1:=List.all_eq_true.1 (List.all_eq_true.1 hpre i (List.mem_range.2 hi)) j hj
  simp only [Bool.and_eq_true,Bool.not_eq_true'] at h1
  exact ⟨fun e=>(by rw [e,Nat.beq_refl] at h1;exact absurd h1.1.1 S),Nat.le_of_ble_eq_true h1.1.2,h1.2⟩
 have h0' : ∀ j,j<n→bR Γ0 (d j)=none:=fun j hj=>by
  have h1:=List.all_eq_true.1 h0 j (List.mem_range.2 hj)
  simpa using h1
 refine ed hm ?_
 have k0:Ext w { w with drawn:=w.drawn+1 } := ⟨rfl,rfl,rfl,Nat.le_refl _,fun _ _=>rfl⟩
 have hl0 : ∀ j,(Array.replicate ops.size false).getD j false=false:=fun j=>by
  simp [Array.getD_eq_getD_getElem?,Array.getElem?_replicate]; split <;> rfl
 have hS1:St E D Γ M a { w with drawn:=w.drawn+1 } := ⟨hSt.base.ext k0,hSt.sz,hSt.df,fun t φ ht=>φ.mono (Base.hv_ext k0) (hSt.tm t φ ht)⟩
 refine gE (n:=n) hok (fun l a w=>((∃ j,j<n∧l.getD j false=false)∧(∀ j,n≤j→l.getD j false=false)∧zc E D Γ0 M (fun b=>aI (some b) e L c c (fun _=>one z)) n m d V (fun b=>slV (some b) c c) l a w) ∨
  ∃ k,n≤k∧k≤ops.size∧(∀ j,j<ops.size→(l.getD j false=true↔j<k))∧wpOps P ops (nrm Q) (List.range' k (ops.size - k)) a w) ?_ ?_ ops.size _ a _ ⟨by simp,fun j hj => ?_⟩ ?_ (.inl ⟨⟨m,hmn,hl0 m⟩,fun j _=>hl0 j,M, .inl ⟨hl0 m,rfl⟩,hS1.sub hs0 (SubM.refl _),fun j _ _ hj => ?_⟩)
 ·rintro l a w (⟨⟨j,hj,hlj⟩,_⟩ | ⟨k,h1,h2,h3,h4⟩) hall
  ·rw [hall j X] at hlj;cases hlj
  ·have hk:k=ops.size:=by
    rcases Nat.lt_or_ge k ops.size with h | h
    ·exact absurd ((h3 k h).1 (hall k h)) (Nat.lt_irrefl k)
    ·omega
   subst hk
   simpa [wpOps] using h4
 ·rintro l a w i (⟨⟨j0,hj0,hlj0⟩,hlate,M',hM',hS',hV⟩ | ⟨k,h1,h2,h3,h4⟩) hl hi1 hi2 hi
  ·have hin:i<n:=by
    rcases Nat.lt_or_ge i n with h | h
    ·exact h
    ·rcases cI hok (i:=j0) (j:=i) X hi1 with hp | ⟨h',_⟩
     ·have:=cy hi hp;rw [hlj0] at this;cases this
     ·omega
   have hls:=hl.size
   have hself:(l.setIfInBounds i true).getD i false=true:=by rw [bN X,if_pos Y]
   have hsame : ∀ j,j≠i→(l.setIfInBounds i true).getD j false=l.getD j false:=fun j hj=>by rw [bN X,if_neg (fun e=>hj e.symm)]
   have hSp:St E D (mC d V (pre i) ++ Γ0) M' a w:=vH hS' fun j hj=>by
    obtain ⟨g1,g2,g3⟩:=hpre' i j hin hj
    exact hV j g2 g1 (cy hi g3)
   -- what holds behind it
   have fin : ∀ a' w',zc E D Γ0 M (fun b=>aI (some b) e L c c (fun _=>one z)) n m d V (fun b=>slV (some b) c c) (l.setIfInBounds i true) a' w'→(((∃ j,j<n∧(l.setIfInBounds i true).getD j false=false)∧(∀ j,n≤j→(l.setIfInBounds i true).getD j false=false)∧zc E D Γ0 M (fun b=>aI (some b) e L c c (fun _=>one z)) n m d V (fun b=>slV (some b) c c) (l.setIfInBounds i true) a' w') ∨
     ∃ k,n≤k∧k≤ops.size∧(∀ j,j<ops.size→((l.setIfInBounds i true).getD j false=true↔j<k))∧wpOps P ops (nrm Q) (List.range' k (ops.size - k)) a' w'):=fun a' w' hH=>by
    by_cases hmore : ∃ j,j<n∧(l.setIfInBounds i true).getD j false=false
    ·exact .inl ⟨hmore,fun j hj=>by rw [hsame j X]; exact hlate j hj,hH⟩
    ·have hall : ∀ j,j<n→(l.setIfInBounds i true).getD j false=true:=fun j hj=>by
      rw [← Bool.not_eq_false]; intro h;exact hmore ⟨j,hj,h⟩
     refine .inr ⟨n,Nat.le_refl _,hn,fun j hj=>⟨fun h => ?_,hall j⟩,?_⟩
     ·rcases Nat.lt_or_ge j n with h' | h'
      ·exact h'
      ·rw [hsame j X,hlate j h'] at h;cases h
     ·obtain ⟨M2,hM2,hS2,hV2⟩:=hH
      rcases hM2 with ⟨h1,_⟩ | ⟨_,b,rfl,hb⟩
      ·rw [hall m hmn] at h1;cases h1
      ·have hS3:=vH (l:=(List.range n).filter fun j => !Nat.beq j m) hS2 fun j hj=>by
        obtain ⟨g1,g2⟩:=List.mem_filter.1 hj
        exact hV2 j (List.mem_range.1 g1) (fun e=>by subst e;simp at g2) (hall j (List.mem_range.1 g1))
       have hS4:St E D ((d m,one (slV (some b) c c)) :: (mC d V ((List.range n).filter fun j => !Nat.beq j m) ++ Γ0)) (aI (some b) e L c c (fun _=>one z) :: M) a' w':=⟨hS3.base,hS3.sz,hS3.df,fun t φ ht=>by
        rw [bx] at ht
        split at ht
        ·rename_i e;cases ht;subst e;exact hb
        ·exact hS3.tm t φ ht⟩
       have:=(hT b).seq (nrm Q) [] (fun j _=>by simp [List.getElem?_drop]) (fun D' Γ' M' a w hK hS=>by simpa [wpOps] using hK a w hS) a' w' hS4
       simpa using this
   by_cases him:i=m
   ·subst him
    rcases hM' with ⟨_,rfl⟩ | ⟨hc1,_⟩
    ·have hx':a.eval x = .int .i64 c:=cG hSp hx
     have hy':a.eval y = .int .i64 c:=cG hSp hy
     have hb1:=Nat.le_of_ble_eq_true hb0
     have hz1:=Nat.le_of_ble_eq_true hz0
     obtain ⟨f1,f2,f3⟩:=hF.ok z (fun _=>none) Y
     have hc48:c≤2^48:=by
      have:c≤by'*c:=Nat.le_mul_of_pos_left c hb1
      omega
     have hr:(execOp a.eval ⟨some (d i), .makeSlice T x y,ty,pos,af,none⟩).run P w = .ok (.value (slV (some w.heap.size) c c)) (w.alloc (.cells (dW z.cells (c*L.sz)) e)):=by
      simp only [execOp,hx',hy',Sem.run_bind,iz hb1 (Nat.le_refl c) hc,Result.andThen_ok,Sem.run_pure]
     have hS2:St E D ((d i,one (slV (some w.heap.size) c c)) :: (mC d V (pre i) ++ Γ0)) (aI (some w.heap.size) e L c c (fun _=>one z) :: M') (a.put (some (d i)) (slV (some w.heap.size) c c)) (w.alloc (.cells (dW z.cells (c*L.sz)) e)):=by
      refine hSp.alloc (o:=aI (some w.heap.size) e L c c (fun _=>one z)) Y ⟨Nat.le_refl _,by omega,(fun h=>by cases h),fun b hb => ?_⟩ (Nat.le_of_ble_eq_true hdm) Y
      cases hb
      exact ⟨_,cJ w _ _ _,fa _ _,fun q hq=>⟨z,kw f1 f3 X hz1,rfl⟩⟩
     simp only [wpOp,hmk,cP (o:=⟨some (d i), .makeSlice T x y,ty,pos,af,none⟩) Y,if_true]
     refine .inl ?_
     unfold Oper.wp
     rw [hr]
     refine fin _ _ ⟨_, .inr ⟨hself,w.heap.size,rfl,?_⟩,?_,fun j hj hne hlj => ?_⟩
     ·exact cr (by rw [hS'.sz]; exact Nat.le_of_ble_eq_true hdm)
     ·refine hS2.sub (fun t φ ht=>⟨φ,?_,H⟩) (SubM.refl _)
      have htd:d i≠t:=fun e=>by subst e;rw [h0' i hin] at ht;cases ht
      rw [bx,if_neg htd]
      have : ∀ l:List Nat,(∀ j∈l,j<n)→bR (mC d V l ++ Γ0) t=some φ:=fun l=>by
       induction l with
       | nil => exact fun _ => ht
       | cons j l ih =>
        intro hl
        show bR ((d j,one (V j)) :: (mC d V l ++ Γ0)) t=some φ
        rw [bx,if_neg (fun e=>by subst e;rw [h0' j (hl j List.mem_cons_self)] at ht;cases ht)]
        exact ih fun j hj=>hl j (List.mem_cons_of_mem _ hj)
      exact this _ fun j hj=>(hpre' i j hin hj).2.1
     ·rw [hsame j hne] at hlj
      show (a.put (some (d i)) _).tmps.getD (d j) undef=_
      rw [cj (fun e=>hne (hd' i j hin hj e).symm)]
      exact hV j hj hne hlj
    ·rw [hc1] at hi2;cases hi2
   ·obtain ⟨o,ho,hst⟩:=hA i hin him
    obtain ⟨d', ψ',hdd,hN,heq,hrun⟩:=(hst M' (by rcases hM' with ⟨_,h⟩ | ⟨_,b,h,_⟩;exact .inl h;exact .inr ⟨b,h⟩)).run ho
    cases heq
    refine hrun a w hSp.base (hSp.names _) _ (nrm Q) fun v w' k hv'=>fin _ _ ?_
    have hv':v=V i:=hv'
    subst hv'
    refine ⟨M',?_,?_,fun j hj hne hlj => ?_⟩
    ·rw [hsame m (fun e=>him e.symm),cj (fun e=>him (hd' i m hin hmn e))]; exact hM'
    ·refine (hS'.put k hN (ψ:=one (V i)) Y).sub (fun t φ ht=>⟨φ,?_,H⟩) (SubM.refl _)
     rw [bx,if_neg (fun e=>by subst e;rw [h0' i hin] at ht;cases ht)]
     exact ht
    ·by_cases hji:j=i
     ·subst hji;exact cr (by rw [hS'.sz]; exact hN)
     ·rw [hsame j hji] at hlj
      rw [cj (fun e=>hji (hd' i j hin hj e).symm)]
      exact hV j hj hne hlj
  ·have hik:i=k:=by
    rcases Nat.lt_trichotomy i k with h | h | h
    ·rw [(h3 i hi1).2 h] at hi2;cases hi2
    ·exact h
    ·rcases cI hok h hi1 with hp | ⟨h',_⟩
     ·have:=(h3 k X).1 (cy hi hp);omega
     ·omega
   subst hik
   rw [show ops.size - i=(ops.size - (i+1))+1 by omega,List.range'_succ,wpOps_cons] at h4
   refine wpOp_mono (fun a' w' h' => .inr ⟨i+1,by omega,hi1,fun j hj => ?_,h'⟩) h4
   have hls:=hl.size
   rw [bN X]
   by_cases e:i=j
   ·subst e;simp
   ·rw [if_neg e,h3 j hj]; omega
 ·rw [hl0] at hj;cases hj
 ·unfold left;refine Nat.le_trans (List.length_filter_le _ _) (by simp)
 ·rw [hl0] at hj;cases hj
end
end Tor
end
section
namespace Tor
open Go Go.RowKit Go.Proofs
def na (p:Nat) (G:Nat→Nat→Int):Nat→Nat→Nat:=fun i j=>(G i j % (p:Int)).toNat
theorem Bd (a b:Own) (l:Mem):(a :: b :: l).Perm ([b] ++ (a :: l)):=List.Perm.swap b a l
theorem zd {Ms:Mem} {b2 br n c i j p:Nat} {G:Nat→Nat→Int} {T:TypeId} (hm:aI (some br) T .one c c (fun q=>one (.int .u64 ((if q<j then na p G i q else 0:Nat))))∈Ms) (hj:j=c) :
  wd Ms (aI (some b2) 173 .one n n (upd (fun q=>if q<i then jb c (na p G q) else bJ) i (one (slV (some br) c c)))) (aI (some b2) 173 .one n n (fun q=>if q<i+1 then jb c (na p G q) else bJ)):=wd.sl fun q hq=>by
 unfold upd
 by_cases h:q=i
 ·subst h
  rw [if_pos Y,if_pos (Nat.lt_succ_self q)]
  exact Ent.slE hm fun k hk=>Ent.le (by rw [if_pos X]; exact VT.le_refl _)
 ·rw [if_neg h]
  dsimp only
  by_cases h2:q<i
  ·rw [if_pos h2,if_pos X]; exact Ent.refl _
  ·rw [if_neg h2,if_neg X]; exact Ent.refl _
attribute [local irreducible] J PJ aJ one slT bQ bC bv exT bZ eP aP aI slV VT.le Ret bJ
attribute [local irreducible] aL
theorem sO (p n c:Nat) (G:Nat→Nat→Int) (hp:cC p=true) (hp0:0<p) (hp':p<2147483648) (hn:n≤1048576) (hc:c≤1048576) (hG : ∀ i j,bm (G i j)):Ok Tryz.prog 139 [one (.int .u64 (p:Nat)),bP n c G] (wP p n c (na p G)):=by
 have h1:=j9 p X
 rw [hp] at h1
 unfold bP
 refine Ok.enter Tryz.func139 Y Tryz.ntmps139 Y (fun w O => ?_)
 refine ae (ai ?_)
 refine aS Y Y (ltN Y) (fun b3 => ?_)
 refine bj (T:=169) Y Y Y (fun b4 => ?_)
 refine Ep (aa (ae (ae (ai (Em Y ?_)))))
 refine El (am (h1) Y ⟨H,Er⟩) ?_
 refine El (cR Y) (Em Y (Eo (aj Y) (Eo (ak 1 Y Y Y) (Eo (sF X (a7 Y Y)) (El (bE Y Y) (Ep (aa (aB Y (az ?_)))))))))
 refine aa (ae ?_)
 refine xU a4 Z Z (fun a1 w1 hS1 => ?_)
 refine ux (fun B=>ab Y) Y Y ?_
 refine ux (fun B=>aj Y) Y Y ?_
 refine ux (fun B=>ak 1 Y Y Y) Y Y ?_
 refine ux (fun B=>aj Y) Y Y ?_
 refine ux (fun B=>ak 1 Y Y Y) Y Y ?_
 refine ux (fun B=>aW Y) Y Y ?_
 refine ux (fun B=>lj w1.heap.size n Y Y Y Y Y Y Y ?_) Y Y ?_
 ·omega
 refine uB Y Y Y (BuildK.cons Y Y Y (BuildK.cons Y Y Y (BuildK.cons Y Y Y (BuildK.nil (ua Y (us Y ?_))))))
 refine RunU.nil (fun γ a2 w2 hS2 hx hk2 => ?_)
 obtain ⟨b2,hS3⟩:=tQ (t:=5) (b:=γ 5) (T:=169) (m:=3) (k:=2) (n:=n) (cs1 := [(0, .one,one (.int .u64 (p:Nat))),(1, .one,one (.int .i64 (c:Nat)))])
  (Γk := [(0,one (.int .u64 (p:Nat))),(3,one (.pointer (some ⟨b3,0,none⟩))),(4,one (.pointer (some ⟨b4,0,none⟩)))])
  hS1 Y hS2 hx hk2 (.cons Y Z (.cons Y Z (.cons Y Z .nil))) Y Y (fun q hq=>by
   rcases List.mem_cons.1 hq with rfl | hq
   ·exact ⟨_,rfl,rfl⟩
   rcases List.mem_cons.1 hq with rfl | hq
   ·exact ⟨_,rfl,rfl⟩
   cases hq)
 generalize γ 5=b5 at hS3
 refine xV ?_ hS3
 clear hS3 hS2 hx hk2 hS1
 refine aa (ae (ae (ai (El (aj Y) (El (ak 3 Y Y Y) (El (aW Y) (Em Y (Ep (aa ?_)))))))))
 refine au (cp (Γ' := [(0,_),(3,_),(4,_),(5,_),(28,_),(29,_),(30,_)]) Eg (SubM.refl _) ?_)
 refine bD (σ:=Nat) (Γk := [(0,_),(3,_),(4,_),(5,_),(28,_),(29,_)]) Eg (fun i => [(30,one (.int .i64 (i:Nat)))]) (fun i M0=>(M0.set 1 (aI (some b2) 173 .one n n (fun q=>if q<i then jb c (na p G q) else bJ)))) (fun i=>i≤n) (fun i=>n - i) (0) (Nat.zero_le _) Eh (.keep Ek (.keep (ee fun q hq=>by rw [if_neg (Nat.not_lt_zero q)]; exact jE _) (.keep Ek (.keep Ek (.nil))))) (fun i hi => ?_)
 refine bU (Γ' := [(30,_),(0,_),(3,_),(4,_),(5,_),(28,_),(29,_)]) (M' := [_,_,_,_]) Y Y ?_
 by_cases hi2:i<n
 ·refine ae (ai (El (sT X (a7 Y Y)) (Ep (aa (ae (aH Y (az (aa (ae ?_)))))))))
  refine au (ae (ai (Em Y (El (aC Y Y X) (El (aM Y) (En Y (En Y (Ep (aa ?_)))))))))
  refine ae (ae (ai (Em Y (El (aW Y) (El (aj Y) (El (ak 3 Y Y Y) (El (sF X (dy Y Y)) (Ep (aa ?_)))))))))
  refine aB Y (az (aa (ae ?_)))
  refine C0 6 5 c (fun j=>41+j) (fun j=>match j with | 0 => .pointer (some ⟨b5,0+2,none⟩) | 1=>slV (some b2) n n | 2 => .int .i64 (i:Nat) | 3 => .pointer (some ⟨b3,0+1,none⟩) | _ => .int .i64 (c:Nat)) (fun j=>match j with | 1 => [0] | 4 => [3] | 5 => [4] | _ => [])
   [(0,one (.int .u64 (p:Nat))),(3,one (.pointer (some ⟨b3,0,none⟩))),(4,one (.pointer (some ⟨b4,0,none⟩))),(5,one (.pointer (some ⟨b5,0,none⟩))),(6,one (.int .i64 (i:Nat))),(7,bA c (G i)),(28,slT .one n (fun i=>bA c (G i))),(29,one (.int .i64 (n:Nat))),(30,one (.int .i64 (i:Nat)))]
   a4 Z S S U Y Ej
   (fun j hj hne => ?_) Y Y Y Y Y X Y (fun br => ?_)
  ·match j,hj,hne with
   | 0, _, _ => exact ⟨_, rfl, fun M' hM' => by rcases hM' with rfl | ⟨b, rfl⟩ <;> exact .plain (aj Y) Y Y (Nat.le_of_ble_eq_true Y)⟩
   | 1, _, _ => exact ⟨_, rfl, fun M' hM' => by
     rcases hM' with rfl | ⟨b,rfl⟩
     ·exact .plain (ak 0 Y Y Y) Y Y (Nat.le_of_ble_eq_true Y)
     ·exact .plain (ak 1 Y Y Y) Y Y (Nat.le_of_ble_eq_true Y)⟩
   | 2, _, _ => exact ⟨_, rfl, fun M' hM' => by rcases hM' with rfl | ⟨b, rfl⟩ <;> exact .plain (ab Y) Y Y (Nat.le_of_ble_eq_true Y)⟩
   | 3, _, _ => exact ⟨_, rfl, fun M' hM' => by rcases hM' with rfl | ⟨b, rfl⟩ <;> exact .plain (aj Y) Y Y (Nat.le_of_ble_eq_true Y)⟩
   | 4, _, _ => exact ⟨_, rfl, fun M' hM' => by
     rcases hM' with rfl | ⟨b,rfl⟩
     ·exact .plain (ak 3 Y Y Y) Y Y (Nat.le_of_ble_eq_true Y)
     ·exact .plain (ak 4 Y Y Y) Y Y (Nat.le_of_ble_eq_true Y)⟩
   | 5, _, h => exact absurd Y h
  refine El (ao Y Y X) ?_
  (refine aw 2 Y Y Y ?_ Y ?_;omega)
  refine Ep (aa (ae (ai (Em Y (El (aW Y) (Em Y (Ep (aa (au ?_)))))))))
  refine cp (Γ' := [(0,_),(3,_),(4,_),(5,_),(6,_),(28,_),(29,_),(30,_),(48,_),(49,_),(50,_)]) Eg (SubM.refl _) ?_
  refine bD (σ:=Nat) (Γk := [(0,_),(3,_),(4,_),(5,_),(6,_),(28,_),(29,_),(30,_),(48,_),(49,_)]) Eg (fun j => [(50,one (.int .i64 (j:Nat)))]) (fun j M0=>(M0.set 0 (aI (some br) 44 .one c c (fun q=>one (.int .u64 ((if q<j then na p G i q else 0:Nat))))))) (fun j=>j≤c) (fun j=>c - j) (0) (Nat.zero_le _) Eh (.keep Ek (.keep Ek (.keep Ek (.keep Ek (.keep Ek (.nil)))))) (fun j hj => ?_)
  refine bU (Γ' := [(50,_),(0,_),(3,_),(4,_),(5,_),(6,_),(28,_),(29,_),(30,_),(48,_),(49,_)]) (M' := [_,_,_,_,_]) Y Y ?_
  by_cases hjc:j<c
  ·have hre:=ia p (G i j) hp0 X (hG i j)
   refine ae (ai (El (sT X (a7 Y Y)) (Ep (aa (ae (aH Y (az (aa (ae ?_)))))))))
   refine au (ae (ai (Em Y (El (aC Y Y X) (El (aM Y) ?_)))))
   refine aG (T:=37) Y (ltN Y) (fun b9 => ?_)
   refine En Y (aA 0 Y Y Y Y Y (leN Y) Y (Ep (aa (qo 16 9 a4 Z S (El (aj Y) (El (ak 2 Y Y Y) (Em Y (El (ao Y Y X) (El (aJ.le' (be 3 Y Y hi2) (gN (by unfold upd;rw [if_pos Y]))) ?_)))))))))
   refine Em Y (Em Y (El (ak 0 Y Y Y) ?_))
   refine El (am (hre) Y ⟨H,H,Er⟩) ?_
   refine Ep (El (ao Y Y X) ?_)
   (refine aw 1 Y Y Y ?_ Y ?_;omega)
   refine Ep (aD (aa (ai (El (bI _ 1 Y Y X) (Em Y (Ep ?_))))))
   refine aR (j+1) X X Eh (.drop (.keep (mB (G:=na p G i) (Ef:=fun _=>0)) (.keep Ek (.keep Ek (.keep Ek (.keep Ek (.nil)))))))
  ·refine ae (ai (El (sF X (a7 Y Y)) (Ep (aa (ae (aB Y (aX (av (av ?_)))))))))
   refine aE (aD (aa (ai (El (bI _ 1 Y Y X) (Em Y (Ep ?_))))))
   refine fV [_] (List.Perm.refl _) (.keep (wd.refl _) (.keep (zd (j:=j) List.mem_cons_self X) (EntM.refl _))) (we.refl _) ?_
   refine aR (i+1) X X Eh (.keep Ek (.keep Ek (.keep Ek (.keep Ek (.nil)))))
 ·have hin:i=n:=by omega
  subst hin
  refine ae (ai (El (sF X (a7 Y Y)) (Ep (aa (ae (aB Y (aX (av (av ?_)))))))))
  refine aE (aa (ae (ai (El (aQ 0 Y Y) (aY 2 Y Y Y Y (Ep (aa (aF ?_))))))))
  refine fV [_] (Bd _ _ _) (.keep (wd.refl _) (.keep (wd.box (cs' := [(0, .one,one (.int .u64 (p:Nat))),(1, .one,one (.int .i64 (c:Nat))),(2, .one,slT .one i (fun q=>jb c (na p G q)))]) (.cons (by simp) (Ent.refl _) (.cons (by simp) (Ent.refl _) (.cons List.mem_cons_self (Ent.slE List.mem_cons_self (fun q hq=>Ent.le (by rw [if_pos hq]; exact VT.le_refl _))) .nil)))) (.keep (wd.refl _) .nil))) (we.refl _) ?_
  refine aV Tryz.results139 (.cellW 1 Y Y H)
end Tor
end
section
namespace Tor
open Go Go.RowKit Go.Proofs
theorem DN {p n:Nat} {W':Nat→Nat→Nat} : VT.le (bC 3 [(0, .one,one (.int .u64 (p:Nat))),(1, .one,one (.int .i64 ((n+n:Nat):Int))),(2, .one,slT .one ((n:Int) - 0).toNat (fun j=>jb (n+n) (W' (Int.toNat 0+j))))]) (wP p n (n+n) W') :=
 eW fun q hq=>by
  rcases List.mem_cons.1 hq with rfl | hq
  ·exact ⟨_,List.mem_cons_self,H⟩
  ·rcases List.mem_cons.1 hq with rfl | hq
   ·exact ⟨_,List.mem_cons_of_mem _ List.mem_cons_self,H⟩
   ·rcases List.mem_singleton.1 hq with rfl
    exact ⟨_,List.mem_cons_of_mem _ (List.mem_cons_of_mem _ List.mem_cons_self),cB X (fun i hi=>by rw [show Int.toNat 0+i=i from Nat.zero_add i])⟩
attribute [local irreducible] J PJ aJ one slT bQ bC bv exT bZ eP aP aI slV VT.le Ret bJ
attribute [local irreducible] aL rwO
theorem Be (p n:Nat) (F:Nat→Nat→Int) (W:Nat→Nat→Nat) (hpb:cC p=true) (hp2:2≤p) (hp:p<2147483648) (hinv:ul p) (hF:um p n F) (hn:n≤1024) (h0:EchI p n F 0 W) :
  Ok Tryz.prog 138 [wP p n (n+n) W] (exT fun W':Nat→Nat→Nat=>bZ (EchI p n F n W') (bv [wP p n (n+n) W',slT .one n (fun q=>one (.int .i64 (q:Nat)))])):=by
 have hv:=wR p n (n+n) W hpb hp (fun i j hi hj=>h0.lt i j hi hj) X X
 have hcp:=sN n (n+n) W X X X
 refine Ok.enter Tryz.func138 Y Tryz.ntmps138 Y (fun w O => ?_)
 refine ae (ai ?_)
 refine aS Y Y (ltN Y) (fun b1 => ?_)
 refine bj (T:=169) Y Y Y (fun b2 => ?_)
 refine En Y (Ep (aa (ae (ae (ai (El (aQ 1 Y Y) ?_))))))
 refine El (am (hv) Y ⟨H,Er⟩) ?_
 refine El (cR Y) (Ep (aa (aB Y (az (aa (ae (ai (El (aj Y) (El (ak 1 Y Y Y) ?_)))))))))
 refine fU (hcp) Y ⟨H,Er⟩ Y Y (fun s13 => ?_)
 refine En Y (Ep (aa (ae (ai (El (aj Y) (El (ak 3 Y Y Y) (Em Y (El (aj Y) (El (ak 3 Y Y Y) ?_)))))))))
 refine gw (Min := [_,_]) (Kp := [_,_]) (un p n s13.2.2 F s13.1 s13.2.1 W hp2 hp hinv hF hn h0) Y ⟨H,H,H,Er⟩ (List.Perm.refl _) Y Y (fun s => ?_)
 obtain ⟨⟨B,C,W'⟩,hI⟩:=s
 refine rC [_,_] (List.Perm.refl _) (EntM.refl _) (we.set (t:=4) (ψ:=slT .one n (fun i=>jb (n+n) (W' i))) Y (Ent.slE List.mem_cons_self (fun q hq=>Ent.rwo (List.mem_cons_of_mem _ List.mem_cons_self) hq Y))) ?_
 refine En Y (Ep (aa (ae (ai (Em Y (El (aW Y) (En Y (Ep (aa ?_)))))))))
 refine ae (ai (Em Y (Em Y ?_)))
 refine El (fT Y Y Y Y (fun h=>nomatch h) X X X X) ?_
 refine kK (t:=24) (ψ:=slT .one 0 (fun _=>bJ)) Y (cB X (fun q hq=>by omega)) ?_
 refine yp Y Y (Ep (aa (ae ?_)))
 apply iC (Γ1 := [(2,_),(3,_)]) (M1 := [_,_]) 10 4 [9] [] a4 Z S
 ·refine El (aj Y) (El (ak 1 Y Y Y) (El (aj Y) (El (ak 1 Y Y Y) (Em Y (Em Y (Em Y ?_))))))
  refine El (fT Y Y Y Y (fun _=>rfl) X X X X) ?_
  refine stB Y Y Y (BuildK.cons Y Y Y (BuildK.cons Y Y Y (BuildK.cons Y Y Y (BuildK.nil (Em Y (Ep ?_))))))
  refine ye (Γe := [(2,_),(5,_),(33,_)]) (Γe' := [(2,_),(5,_),(33,_),(34,_)]) (rem := [10,11]) Y Ej Y Ej Y ?_ ?_
  ·refine bL (rem' := [10,11]) (rem'' := [9,11]) (i:=9) (j:=10) Z Y Y Y Y ?_ ?_ iB.nil
   refine Em Y (Ep ?_)
   refine ⟨rfl,?_⟩
   refine an (rem' := [11]) (i:=10) Z Y Y ?_ iB.nil
   refine aY 0 Y Y Y Y (Ep ?_)
   refine ⟨rfl,?_⟩
   refine an (rem' := []) (i:=11) Z Y Y ?_ iB.nil
   refine En Y (Ep ?_)
   refine ⟨rfl,?_⟩
   refine aT Ej (SubM.refl _) iB.nil
   refine aY 0 Y Y Y Y (Ep ?_)
   refine ⟨rfl,?_⟩
   refine an (rem' := [11]) (i:=9) Z Y Y ?_ iB.nil
   refine Em Y (Ep ?_)
   refine ⟨rfl,?_⟩
   refine an (rem' := []) (i:=11) Z Y Y ?_ iB.nil
   refine En Y (Ep ?_)
   refine ⟨rfl,?_⟩
   refine aT Ej (SubM.refl _) iB.nil
  ·refine an (rem' := [11]) (i:=10) Z Y Y ?_ iB.nil
   refine aY 0 Y Y Y Y (Ep ?_)
   refine ⟨rfl,?_⟩
   refine an (rem' := []) (i:=11) Z Y Y ?_ iB.nil
   refine En Y (Ep ?_)
   refine ⟨rfl,?_⟩
   refine aT Ej (SubM.refl _) iB.nil
 ·refine aa (aF ?_)
  refine r6 (ψ:=bv [wP p n (n+n) W',slT .one n (fun q=>one (.int .i64 (q:Nat)))]) (nI W' (lc hI H)) ?_
  refine cT Tryz.results138 (.cellW 0 Y Y (DN)) (.tmp Y H)
end Tor
end
section
namespace Tor
open Go Go.RowKit Go.Proofs
theorem oy {sv:Option Nat} {T:TypeId} {cap n j:Nat} {h:Nat→Int} {x:Int} (hx:x=h j):Own.le (aI sv T (.agg 2) cap n (upd (fun q=>aL (if q<j then h q else 0)) j (aL x))) (aI sv T (.agg 2) cap n (fun q=>aL (if q<j+1 then h q else 0))):=bg (fun q _=>by
 subst hx
 show (if q=j then aL (h j) else aL (if q<j then h q else 0))=_
 by_cases c:q=j
 ·rw [if_pos c,if_pos X,c]
 ·rw [if_neg c]
  by_cases c2:q<j
  ·rw [if_pos c2,if_pos X]
  ·rw [if_neg c2,if_neg X])
attribute [local irreducible] J PJ aJ one slT bQ bC bv exT bZ eP aP aI slV VT.le Ret bJ xO
attribute [local irreducible] aL
theorem sP (b:Nat) (sv:Option Nat) (r cap:Nat) (last:Int) (odd:Bool) (ψ:VT) (w c:Nat) (f g:Nat→Int) (hc:c<w) (hw:w≤1048576) (hl0:last≠0) (hl:bm last) (hf : ∀ j,bm (f j)) (hg : ∀ j,bm (g j))
  (hp : ∀ j,bm (g c*f j)) (hq : ∀ j,bm (f c*g j)) (hd : ∀ j,bm (g c*f j - f c*g j)) :
  OkR Tryz.prog 152 [one (.pointer (some ⟨b,0,none⟩)),bA w f,bA w g,one (.int .i64 (c:Nat))] [eI b sv r cap last odd ψ] (bA w (fun j=>jl (g c) (f j) (f c) (g j) last)):=by
 intro g0
 show OkI _ _ _ [xO g0 (eI b sv r cap last odd ψ)] _ (fun _ => [xO g0 (eI b sv r cap last odd ψ)])
 unfold bA
 refine OkI.enter Tryz.func152 Y Tryz.ntmps152 Y (fun w0 O => ?_)
 refine ae (ai (En Y (Ep (aa (ae (ai (Em Y (El (aW Y) ?_))))))))
 refine bV w w Y Y Y Y (Nat.le_refl _) Y Y X Y Y (fun bz => ?_)
 refine En Y (Ep (aa (ae (ae (ai (Em Y (El (aW Y) (Em Y (Ep ?_)))))))))
 refine aa (au (cp (Γ' := [(0,_),(1,_),(2,_),(3,_),(8,_),(9,_),(16,_),(17,_),(18,_)]) Eg (SubM.refl _) ?_))
 refine bD (σ:=Nat) (Γk := [(0,_),(1,_),(2,_),(3,_),(8,_),(9,_),(16,_),(17,_)]) Eg (fun j => [(18,one (.int .i64 (j:Nat)))]) (fun j M0=>(M0.set 0 (aI (some bz) 37 (.agg 2) w w (fun q=>aL (if q<j then jl (g c) (f q) (f c) (g q) last else 0))))) (fun j=>j≤w) (fun j=>w - j) (0) (Nat.zero_le _) Eh (.keep (ee fun q hq=>iT) (.keep Ek (.nil))) (fun j hj => ?_)
 refine bU (Γ' := [(18,_),(0,_),(1,_),(2,_),(3,_),(8,_),(9,_),(16,_),(17,_)]) (M' := [_,_]) Y Y ?_
 by_cases hj:j<w
 ·have m1:=eY (g c) (f j) (hg c) (hf j)
  have m2:=eY (f c) (g j) (hf c) (hg j)
  have m3:=lN (g c*f j) (f c*g j) (hp j) (hq j)
  have sp:=hp j
  have sd:=hd j
  have hs1:c6 (f c)=0↔f c=0:=eF _
  have hs2:c6 (g j)=0↔g j=0:=eF _
  by_cases h1:f c=0
  ·have d1:=dt (g c*f j) last hl0 sp hl
   have h3:=hs1.2 h1
   rw [← vf (y:=f c) (z:=g j) (.inl h1)] at d1
   refine ae (ai (El (sT X (a7 Y Y)) (Ep (aa (ae (aH Y (az (aa (ae ?_)))))))))
   refine au (ae (ai (Em Y (El (aC Y Y X) (El (aM Y) ?_)))))
   refine aG (T:=37) Y (ltN Y) (fun b11 => ?_)
   refine En Y (aA 0 Y Y Y Y Y (leN Y) Y (Ep (aa (ae ?_))))
   refine ep a4 Z Z ?_
   refine ux (fun B=>ab Y) Y Y ?_
   refine ux (fun B=>ab Y) Y Y ?_
   refine ux (fun B=>aC Y Y X) Y Y ?_
   refine ux (fun B=>aM Y) Y Y ?_
   refine ux (fun B=>ak 0 Y Y Y) Y Y ?_
   refine uxk (m1) Y ⟨H,H,Er⟩ Y ?_
   refine ua Y (us Y ?_)
   refine RunU.nil (fun γ => ?_)
   refine cK (M' := [_,_,_,_]) Y (aa (ae (ae (ai (Em Y (Em Y (El (aC Y Y X) (El (aM Y) ?_))))))))
   refine El (am (dc _) Y ⟨H,Er⟩) ?_
   refine El (sF X (dy Y Y)) (Em Y (sn0 Y Y Y Y Y (sn0 Y Y Y Y Y (sn0 Y Y Y Y Y (sn0 Y Y Y Y Y (sn0 Y Y Y Y Y (sn0 Y Y Y Y Y (El (bE Y Y) (Ep ?_)))))))))
   refine aa (aB Y (az (aa ?_)))
   apply iC (Γ1 := [(0,_),(1,_),(2,_),(3,_),(8,_),(9,_),(16,_),(17,_),(18,_)]) (M1 := [_,_,_,_]) 12 3 [] [10,11] a4 Z S
   ·refine Em Y (Em Y (El (ak 0 Y Y Y) (Em Y (El (bH Y) (El (aj Y) (El (qC 3 Y Y Y) ?_))))))
    refine El (am (d1) Y ⟨H,H,Er⟩) ?_
    refine Em Y (El (ar Y Y) (El (ar Y Y) (El (ar Y Y) (Ep ?_))))
    refine nT (Γe := [(0,_),(1,_),(2,_),(3,_),(8,_),(9,_),(16,_),(17,_),(18,_),(54,_),(55,_),(56,_),(63,_)]) (rem := [12,13]) Y Ej Y ?_
    refine an (rem' := [13]) (i:=12) Z Y Y ?_ (iB.cons Y (StepG.plain (ar Y Y) Y Y (ltN Y)) Y (iB.cons Y (StepG.plain (ar Y Y) Y Y (ltN Y)) Y iB.nil))
    refine El (ao Y Y X) (Ep ?_)
    refine ⟨rfl,?_⟩
    refine an (rem' := []) (i:=13) Z Y Y ?_ (iB.cons Y (StepG.plain (ar Y Y) Y Y (ltN Y)) Y (iB.cons Y (StepG.plain (ar Y Y) Y Y (ltN Y)) Y iB.nil))
    (refine aw 2 Y Y Y ?_ Y ?_;omega)
    refine Ep ?_
    refine ⟨rfl,?_⟩
    refine aT Ej (SubM.refl _) (iB.cons Y (StepG.plain (ar Y Y) Y Y (ltN Y)) Y (iB.cons Y (StepG.plain (ar Y Y) Y Y (ltN Y)) Y iB.nil))
   ·refine aD (aa (ai (El (bI _ 1 Y Y X) (Em Y (Ep ?_)))))
    refine aR (j+1) (hj) X Eh (.drop (.drop (.keep (oy (h:=fun q=>jl (g c) (f q) (f c) (g q) last) Y) (.keep Ek (.nil)))))
  have h3:c6 (f c)≠0:=fun e=>h1 (hs1.1 e)
  by_cases h2:g j=0
  ·have d1:=dt (g c*f j) last hl0 sp hl
   have h4:=hs2.2 h2
   rw [← vf (y:=f c) (z:=g j) (.inr h2)] at d1
   refine ae (ai (El (sT X (a7 Y Y)) (Ep (aa (ae (aH Y (az (aa (ae ?_)))))))))
   refine au (ae (ai (Em Y (El (aC Y Y X) (El (aM Y) ?_)))))
   refine aG (T:=37) Y (ltN Y) (fun b11 => ?_)
   refine En Y (aA 0 Y Y Y Y Y (leN Y) Y (Ep (aa (ae ?_))))
   refine ep a4 Z Z ?_
   refine ux (fun B=>ab Y) Y Y ?_
   refine ux (fun B=>ab Y) Y Y ?_
   refine ux (fun B=>aC Y Y X) Y Y ?_
   refine ux (fun B=>aM Y) Y Y ?_
   refine ux (fun B=>ak 0 Y Y Y) Y Y ?_
   refine uxk (m1) Y ⟨H,H,Er⟩ Y ?_
   refine ua Y (us Y ?_)
   refine RunU.nil (fun γ => ?_)
   refine cK (M' := [_,_,_,_]) Y (aa (ae (ae (ai (Em Y (Em Y (El (aC Y Y X) (El (aM Y) ?_))))))))
   refine El (am (dc _) Y ⟨H,Er⟩) ?_
   refine El (sT (by assumption) (dy Y Y)) (Em Y (Eo (ab Y) (Eo (ab Y) (Eo (aC Y Y X) (Eo (aM Y) ?_)))))
   refine Eo (am (dc _) Y ⟨H,Er⟩) ?_
   refine Eo (sF X (dy Y Y)) (El (bp Y Y) (Ep (aa (aB Y (az (aa ?_))))))
   apply iC (Γ1 := [(0,_),(1,_),(2,_),(3,_),(8,_),(9,_),(16,_),(17,_),(18,_)]) (M1 := [_,_,_,_]) 12 3 [] [10,11] a4 Z S
   ·refine Em Y (Em Y (El (ak 0 Y Y Y) (Em Y (El (bH Y) (El (aj Y) (El (qC 3 Y Y Y) ?_))))))
    refine El (am (d1) Y ⟨H,H,Er⟩) ?_
    refine Em Y (El (ar Y Y) (El (ar Y Y) (El (ar Y Y) (Ep ?_))))
    refine nT (Γe := [(0,_),(1,_),(2,_),(3,_),(8,_),(9,_),(16,_),(17,_),(18,_),(54,_),(55,_),(56,_),(63,_)]) (rem := [12,13]) Y Ej Y ?_
    refine an (rem' := [13]) (i:=12) Z Y Y ?_ (iB.cons Y (StepG.plain (ar Y Y) Y Y (ltN Y)) Y (iB.cons Y (StepG.plain (ar Y Y) Y Y (ltN Y)) Y iB.nil))
    refine El (ao Y Y X) (Ep ?_)
    refine ⟨rfl,?_⟩
    refine an (rem' := []) (i:=13) Z Y Y ?_ (iB.cons Y (StepG.plain (ar Y Y) Y Y (ltN Y)) Y (iB.cons Y (StepG.plain (ar Y Y) Y Y (ltN Y)) Y iB.nil))
    (refine aw 2 Y Y Y ?_ Y ?_;omega)
    refine Ep ?_
    refine ⟨rfl,?_⟩
    refine aT Ej (SubM.refl _) (iB.cons Y (StepG.plain (ar Y Y) Y Y (ltN Y)) Y (iB.cons Y (StepG.plain (ar Y Y) Y Y (ltN Y)) Y iB.nil))
   ·refine aD (aa (ai (El (bI _ 1 Y Y X) (Em Y (Ep ?_)))))
    refine aR (j+1) (hj) X Eh (.drop (.drop (.keep (oy (h:=fun q=>jl (g c) (f q) (f c) (g q) last) Y) (.keep Ek (.nil)))))
  ·have d1:=dt (g c*f j - f c*g j) last hl0 sd hl
   have h4:c6 (g j)≠0:=fun e=>h2 (hs2.1 e)
   refine ae (ai (El (sT X (a7 Y Y)) (Ep (aa (ae (aH Y (az (aa (ae ?_)))))))))
   refine au (ae (ai (Em Y (El (aC Y Y X) (El (aM Y) ?_)))))
   refine aG (T:=37) Y (ltN Y) (fun b11 => ?_)
   refine En Y (aA 0 Y Y Y Y Y (leN Y) Y (Ep (aa (ae ?_))))
   refine ep a4 Z Z ?_
   refine ux (fun B=>ab Y) Y Y ?_
   refine ux (fun B=>ab Y) Y Y ?_
   refine ux (fun B=>aC Y Y X) Y Y ?_
   refine ux (fun B=>aM Y) Y Y ?_
   refine ux (fun B=>ak 0 Y Y Y) Y Y ?_
   refine uxk (m1) Y ⟨H,H,Er⟩ Y ?_
   refine ua Y (us Y ?_)
   refine RunU.nil (fun γ => ?_)
   refine cK (M' := [_,_,_,_]) Y (aa (ae (ae (ai (Em Y (Em Y (El (aC Y Y X) (El (aM Y) ?_))))))))
   refine El (am (dc _) Y ⟨H,Er⟩) ?_
   refine El (sT (by assumption) (dy Y Y)) (Em Y (Eo (ab Y) (Eo (ab Y) (Eo (aC Y Y X) (Eo (aM Y) ?_)))))
   refine Eo (am (dc _) Y ⟨H,Er⟩) ?_
   refine Eo (sT (by assumption) (dy Y Y)) (El (bp Y Y) (Ep (aa (aH Y (a8 11 a4 Z S (El (ak 0 Y Y Y) (Em Y (Em Y (El (aC Y Y X) ?_)))))))))
   refine El (aM Y) (Em Y (Em Y (El (aC Y Y X) (El (aM Y) ?_))))
   refine El (am (m2) Y ⟨H,H,Er⟩) ?_
   refine El (am (m3) Y ⟨H,H,Er⟩) ?_
   refine Ep (aA 0 Y Y Y Y Y (leN Y) Y (Ep (aa ?_)))
   apply iC (Γ1 := [(0,_),(1,_),(2,_),(3,_),(8,_),(9,_),(16,_),(17,_),(18,_)]) (M1 := [_,_,_,_]) 12 3 [] [10,11] a4 Z S
   ·refine Em Y (Em Y (El (ak 0 Y Y Y) (Em Y (El (bH Y) (El (aj Y) (El (qC 3 Y Y Y) ?_))))))
    refine El (am (d1) Y ⟨H,H,Er⟩) ?_
    refine Em Y (El (ar Y Y) (El (ar Y Y) (El (ar Y Y) (Ep ?_))))
    refine nT (Γe := [(0,_),(1,_),(2,_),(3,_),(8,_),(9,_),(16,_),(17,_),(18,_),(54,_),(55,_),(56,_),(63,_)]) (rem := [12,13]) Y Ej Y ?_
    refine an (rem' := [13]) (i:=12) Z Y Y ?_ (iB.cons Y (StepG.plain (ar Y Y) Y Y (ltN Y)) Y (iB.cons Y (StepG.plain (ar Y Y) Y Y (ltN Y)) Y iB.nil))
    refine El (ao Y Y X) (Ep ?_)
    refine ⟨rfl,?_⟩
    refine an (rem' := []) (i:=13) Z Y Y ?_ (iB.cons Y (StepG.plain (ar Y Y) Y Y (ltN Y)) Y (iB.cons Y (StepG.plain (ar Y Y) Y Y (ltN Y)) Y iB.nil))
    (refine aw 2 Y Y Y ?_ Y ?_;omega)
    refine Ep ?_
    refine ⟨rfl,?_⟩
    refine aT Ej (SubM.refl _) (iB.cons Y (StepG.plain (ar Y Y) Y Y (ltN Y)) Y (iB.cons Y (StepG.plain (ar Y Y) Y Y (ltN Y)) Y iB.nil))
   ·refine aD (aa (ai (El (bI _ 1 Y Y X) (Em Y (Ep ?_)))))
    refine aR (j+1) (hj) X Eh (.drop (.drop (.keep (oy (h:=fun q=>jl (g c) (f q) (f c) (g q) last) Y) (.keep Ek (.nil)))))
 ·have he:j=w:=by omega
  subst he
  refine ae (ai (El (sF X (a7 Y Y)) (Ep (aa (ae (aB Y (aX (av (av ?_)))))))))
  refine aE (aa (ae (ai (Em Y (En Y (Ep (aa (aF (cq (t:=8) (i:=0) Y Y ?_)))))))))
  exact pw (σ:=Unit) (ψ:=fun _=>slT (.agg 2) j (fun q=>aL (jl (g c) (f q) (f c) (g q) last))) () Tryz.results152 (.tmp Y (dZ fun q hq=>gN (by rw [if_pos hq]))) (SubM.refl _)
end Tor
end
section
namespace Tor
open Go Go.RowKit Go.Proofs
def lz (n:Nat) (x:Int):Prop:=(aK x.natAbs).length≤n
theorem lz.small {n:Nat} {x:Int} (h:lz n x) (hn:n≤1099511627776):bm x:=Nat.le_trans h hn
theorem lz.small0 {n:Nat} {x:Int} (h:lz n x) (hn:n≤1099511627700):dw x:=Nat.le_trans h hn
theorem lz.mono {n m:Nat} {x:Int} (h:lz n x) (hn:n≤m):lz m x:=Nat.le_trans h hn
theorem vI {n:Nat} {x y:Int} (h:lz n y) (hl:x.natAbs≤y.natAbs):lz n x:=Nat.le_trans (cd hl) h
theorem lz.lt {n:Nat} {x:Int} (h:lz n x):x.natAbs<4294967296^n:=Nat.lt_of_lt_of_le (cY _) (Nat.pow_le_pow_right S h)
theorem d8 {n m:Nat} {x y:Int} (hx:lz n x) (hy:lz m y):lz (n+m) (x*y):=cF (by
 rw [Int.natAbs_mul,Nat.pow_add]
 have h1:=hx.lt
 have h2:=hy.lt
 exact Nat.mul_lt_mul'' h1 h2)
theorem ze {n:Nat} {x y:Int} (hx:lz n x) (hy:lz n y):lz (n+1) (x - y):=cF (by
 have h1:=hx.lt
 have h2:=hy.lt
 rw [Nat.pow_succ]
 generalize 4294967296^n=z at *
 omega)
theorem zf {n:Nat} {x y:Int} (hx:lz n x) (hy:lz n y):lz (n+1) (x+y):=cF (by
 have h1:=hx.lt
 have h2:=hy.lt
 rw [Nat.pow_succ]
 generalize 4294967296^n=z at *
 omega)
theorem zg {n:Nat} {x:Int} (h:lz n x):lz n (-x):=vI h X
theorem nf (x q:Int):(x / q).natAbs≤x.natAbs:=Int.natAbs_ediv_le_natAbs x q
theorem C1 {n:Nat} {x:Int} (h:lz n x) (q:Int):lz n (x / q):=vI h (nf x q)
theorem Bf (n:Nat):lz n 0:=Nat.zero_le _
theorem uo {n:Nat} (h:1≤n):lz n 1:=Nat.le_trans (cF (k:=1) S) h
theorem Bg {n:Nat} {p x y z:Int} (hp:lz n p) (hx:lz n x) (hy:lz n y) (hz:lz n z) (q:Int):lz (2*n+1) (jl p x y z q):=by
 unfold jl
 have h1:=d8 hp hx
 have h2:=d8 hy hz
 have h3:=ze h1 h2
 rw [show n+n+1=2*n+1 by omega] at h3
 exact C1 h3 q
theorem zh {n k c:Nat} {last:Int} {full:Bool} {R:Nat→Nat→Int} (h : ∀ i j,lz n (R i j)) : ∀ i j,lz (2*n+1) (gp k c last full R i j):=fun i j=>by
 unfold gp;split
 ·exact Bg (h _ _) (h _ _) (h _ _) (h _ _) _
 ·exact (h _ _).mono X
theorem mD {sv:Option Nat} {T:TypeId} {cap n w i:Nat} {R Ed:Nat→Nat→Int} {f:Nat→Int} (hf : ∀ j,f j=Ed i j):Own.le (aI sv T .one cap n (upd (fun q=>bA w (if q<i then Ed q else R q)) i (bA w f))) (aI sv T .one cap n (fun q=>bA w (if q<i+1 then Ed q else R q))):=bg (fun q _=>by
 have e:f=Ed i:=funext hf
 show (if q=i then bA w f else bA w (if q<i then Ed q else R q))=_
 by_cases c:q=i
 ·rw [if_pos c,if_pos X,c,e]
 ·rw [if_neg c]
  by_cases c2:q<i
  ·rw [if_pos c2,if_pos X]
  ·rw [if_neg c2,if_neg X])
theorem pV {sv:Option Nat} {T:TypeId} {cap n w i:Nat} {R Ed:Nat→Nat→Int} (hf : ∀ j,R i j=Ed i j):Own.le (aI sv T .one cap n (fun q=>bA w (if q<i then Ed q else R q))) (aI sv T .one cap n (fun q=>bA w (if q<i+1 then Ed q else R q))):=bg (fun q _=>by
 have e:R i=Ed i:=funext hf
 by_cases c:q=i
 ·subst c;rw [if_neg X,if_pos X,e]
 ·by_cases c2:q<i
  ·rw [if_pos c2,if_pos X]
  ·rw [if_neg c2,if_neg X])
theorem Bh:VT.le (one (.slice none 0 0)) (one (slV none 0 0)):=aq Y
instance {n:Nat} {f:Nat→Int} : Flat (bA n f) .one:=by unfold bA;infer_instance
attribute [local irreducible] J PJ aJ one slT bQ bC bv exT bZ eP aP aI slV VT.le Ret bJ xO
theorem wY (r:Nat) (φ:Nat→VT) [hF : ∀ i,Flat (φ i) .one] (hr:r≤1048576):OkM (σ:=Option Nat × Nat) Tryz.prog 125 [slT .one r φ] (fun s=>one (slV s.1 r s.2)) (fun s => [aI s.1 32 .one s.2 r φ]):=by
 refine OkM.enter Tryz.func125 Y Tryz.ntmps125 Y (fun w O => ?_)
 refine ae (ai (En Y (Ep (aa (ae (ae (ai (Em Y (El (qq Y) ?_)))))))))
 refine Ep (aa ?_)
 refine wb (t:=4) Y (fun b => ?_)
 refine po (t:=4) Y (fun hb => ?_)
 refine a5 Y (fun hc => ?_) (fun hc => ?_)
 ·have h0:=hb hc
  subst h0
  refine ae (ai (En Y (Ep (aa (aF (aU (va (nU 32 .one φ) ?_)))))))
  exact ks (σ:=Option Nat × Nat) (ψ:=fun s=>one (slV s.1 0 s.2)) (Ms:=fun s => [aI s.1 32 .one s.2 0 φ]) (none,0) Tryz.results125 (.tmp Y Bh) (SubM.refl _)
 ·refine az (aa (ae (ai (nJ (n:=0) Y Y Y Y Y ?_))))
  refine PartsK.nil (fun bl => ?_)
  refine Em Y ?_
  (refine cW 0 Y Y Y (leN Y) ?_ ?_ Y (ltN Y) (fun sv7 cap7 => ?_);omega;omega)
  refine En Y (Ep (aa (aF ?_)))
  exact ks (σ:=Option Nat × Nat) (ψ:=fun s=>one (slV s.1 r s.2)) (Ms:=fun s => [aI s.1 32 .one s.2 r φ]) (sv7,cap7) Tryz.results125 (.tmp Y (lM (Nat.zero_add r))) (.keep (gY (Nat.zero_add r) (fun q hq=>by rw [if_neg (Nat.not_lt_zero q),Nat.sub_zero])) .nil)
attribute [local irreducible] aL bA
theorem Bi (b bs r cap:Nat) (last:Int) (odd:Bool) (ψ:VT) (w:Nat) (R:Nat→Nat→Int) (k c:Nat) (full:Bool) (n:Nat) (hk:k<r) (hc:c<w) (hw:w≤1048576) (hr:r≤1048576) (hl0:last≠0) (hn:2*n+1≤1099511627776) (hl:lz n last) (hR : ∀ i j,lz n (R i j)) :
  OkI Tryz.prog 127 [one (.pointer (some ⟨b,0,none⟩)),one (.int .i64 (k:Nat)),one (.int .i64 (c:Nat)),one (.bool full)] [eI b (some bs) r cap last odd ψ,aI (some bs) 32 .one cap r (fun i=>bA w (R i))]
   (fun _:Unit=>bv []) (fun _ => [eI b (some bs) r cap (R k c) odd ψ,aI (some bs) 32 .one cap r (fun i=>bA w (gp k c last full R i))]):=by
 have hrep:=fun f g (hf : ∀ j,lz n (f j)) (hg : ∀ j,lz n (g j))=>sP b (some bs) r cap last odd ψ w c f g hc hw hl0 (hl.small X) (fun j=>(hf j).small X) (fun j=>(hg j).small X) (fun j=>(d8 (hg c) (hf j)).small X) (fun j=>(d8 (hf c) (hg j)).small X) (fun j=>(ze (d8 (hg c) (hf j)) (d8 (hf c) (hg j))).small X)
 refine OkI.enter Tryz.func127 Y Tryz.ntmps127 Y (fun w0 O => ?_)
 refine ae (ai (Em Y (El (bH Y) (El (aj Y) (El (ak 0 Y Y Y) (Em Y (El (ao Y Y X) (El (be 1 Y Y X) (En Y ?_)))))))))
 refine Ep (aa (ae (ae (ai (Em Y (El (bH Y) (El (aj Y) (El (ak 0 Y Y Y) (El (cv Y) ?_)))))))))
 refine Em Y (Ep (aa (au (cp (Γ' := [(0,_),(1,_),(2,_),(3,_),(8,_),(21,_),(22,_),(23,_)]) Eg (SubM.refl _) ?_))))
 refine bD (σ:=Nat) (Γk := [(0,_),(1,_),(2,_),(3,_),(8,_),(21,_),(22,_)]) Eg (fun i => [(23,one (.int .i64 (i:Nat)))]) (fun i M0=>(M0.set 1 (aI (some bs) 32 .one cap r (fun q=>bA w (if q<i then gp k c last full R q else R q))))) (fun i=>i≤r) (fun i=>r - i) (0) (Nat.zero_le _) Eh (.keep Ek (.keep Ek (.nil))) (fun i hi => ?_)
 refine bU (Γ' := [(23,_),(0,_),(1,_),(2,_),(3,_),(8,_),(21,_),(22,_)]) (M' := [_,_]) Y Y ?_
 cases full with
 | true =>
  by_cases hi:i<r
  ·by_cases h1:k<i
   ·refine ae (ai (El (sT X (a7 Y Y)) (Ep (aa (ae (aH Y (az (aa (ae ?_)))))))))
    refine au (ae (ai (Em Y (El (ao Y Y X) (El (be 1 Y Y X) (En Y (En Y (Ep (aa ?_)))))))))
    refine ae (ai (Em Y (Em Y (El (sT X (db Y Y)) (Em Y (sn0 Y Y Y Y Y (sn0 Y Y Y Y Y (snU Y Y Y Y (snU Y Y Y Y ?_)))))))))
    refine snU Y Y Y Y (sn0 Y Y Y Y Y (El (bp Y Y) (Ep (aa (aH Y (a8 10 a4 Z S (Em Y (El (bH Y) (El (aj Y) ?_)))))))))
    refine El (ak 0 Y Y Y) (Em Y (Em Y (Em Y (Em Y (Em Y ?_)))))
    refine El (qD (Min := [eI b (some bs) r cap last odd ψ]) (Kp := [_]) (hrep (R i) (R k) (hR i) (hR k)) Y ⟨H,gN (by rw [if_neg (Nat.lt_irrefl i)]),H,H,Er⟩ (List.Perm.refl _)) ?_
    refine Ep (El (ao Y Y X) ?_)
    (refine aw 1 Y Y Y ?_ Y ?_;omega)
    refine Ep (aD (aa (ai (El (bI _ 1 Y Y X) (Em Y (Ep ?_))))))
    refine aR (i+1) (hi) X Eh (.keep Ek (.keep (mD (fun j=>by unfold gp;simp [h1])) (.nil)))
   ·by_cases h2:i<k
    ·refine ae (ai (El (sT X (a7 Y Y)) (Ep (aa (ae (aH Y (az (aa (ae ?_)))))))))
     refine au (ae (ai (Em Y (El (ao Y Y X) (El (be 1 Y Y X) (En Y (En Y (Ep (aa ?_)))))))))
     refine ae (ai (Em Y (Em Y (El (sF X (db Y Y)) (Em Y (Eo (ab Y) (Eo (ab Y) (Eo (ab Y) (Eo (ab Y) ?_)))))))))
     refine Eo (sT X (a7 Y Y)) (Eo (bp Y Y) (El (bE Y Y) (Ep (aa (aH Y (a8 10 a4 Z S (Em Y (El (bH Y) (El (aj Y) ?_)))))))))
     refine El (ak 0 Y Y Y) (Em Y (Em Y (Em Y (Em Y (Em Y ?_)))))
     refine El (qD (Min := [eI b (some bs) r cap last odd ψ]) (Kp := [_]) (hrep (R i) (R k) (hR i) (hR k)) Y ⟨H,gN (by rw [if_neg (Nat.lt_irrefl i)]),H,H,Er⟩ (List.Perm.refl _)) ?_
     refine Ep (El (ao Y Y X) ?_)
     (refine aw 1 Y Y Y ?_ Y ?_;omega)
     refine Ep (aD (aa (ai (El (bI _ 1 Y Y X) (Em Y (Ep ?_))))))
     refine aR (i+1) (hi) X Eh (.keep Ek (.keep (mD (fun j=>by unfold gp;simp [h2])) (.nil)))
    ·refine ae (ai (El (sT X (a7 Y Y)) (Ep (aa (ae (aH Y (az (aa (ae ?_)))))))))
     refine au (ae (ai (Em Y (El (ao Y Y X) (El (be 1 Y Y X) (En Y (En Y (Ep (aa ?_)))))))))
     refine ae (ai (Em Y (Em Y (El (sF X (db Y Y)) (Em Y (Eo (ab Y) (Eo (ab Y) (Eo (ab Y) (Eo (ab Y) ?_)))))))))
     refine Eo (sF X (a7 Y Y)) (Eo (bp Y Y) (El (bE Y Y) (Ep (aa (aB Y (az (aD (aa (ai ?_)))))))))
     refine El (bI _ 1 Y Y X) (Em Y (Ep ?_))
     refine aR (i+1) (hi) X Eh (.keep Ek (.keep (pV (fun j=>by unfold gp;simp [h1,h2])) (.nil)))
  ·have he:i=r:=by omega
   subst he
   unfold bA
   refine ae (ai (El (sF X (a7 Y Y)) (Ep (aa (ae (aB Y (aX (av (av ?_)))))))))
   refine aE (aa (ai (Em Y (Em Y (Em Y (El (aC Y Y X) (El (aM Y) (El (bH Y) (El (aj Y) ?_)))))))))
   refine aA 0 Y Y Y Y Y (leN Y) Y (Ep (i6 ?_))
   exact ln (σ:=Unit) (ψ:=fun _=>bv []) () Tryz.results127 H (.keep Ek (.keep (bg fun q hq=>by rw [if_pos hq]) .nil))
 | false =>
  by_cases hi:i<r
  ·by_cases h1:k<i
   ·refine ae (ai (El (sT X (a7 Y Y)) (Ep (aa (ae (aH Y (az (aa (ae ?_)))))))))
    refine au (ae (ai (Em Y (El (ao Y Y X) (El (be 1 Y Y X) (En Y (En Y (Ep (aa ?_)))))))))
    refine ae (ai (Em Y (Em Y (El (sT X (db Y Y)) (Em Y (sn0 Y Y Y Y Y (sn0 Y Y Y Y Y (snU Y Y Y Y (snU Y Y Y Y ?_)))))))))
    refine snU Y Y Y Y (sn0 Y Y Y Y Y (El (bp Y Y) (Ep (aa (aH Y (a8 10 a4 Z S (Em Y (El (bH Y) (El (aj Y) ?_)))))))))
    refine El (ak 0 Y Y Y) (Em Y (Em Y (Em Y (Em Y (Em Y ?_)))))
    refine El (qD (Min := [eI b (some bs) r cap last odd ψ]) (Kp := [_]) (hrep (R i) (R k) (hR i) (hR k)) Y ⟨H,gN (by rw [if_neg (Nat.lt_irrefl i)]),H,H,Er⟩ (List.Perm.refl _)) ?_
    refine Ep (El (ao Y Y X) ?_)
    (refine aw 1 Y Y Y ?_ Y ?_;omega)
    refine Ep (aD (aa (ai (El (bI _ 1 Y Y X) (Em Y (Ep ?_))))))
    refine aR (i+1) (hi) X Eh (.keep Ek (.keep (mD (fun j=>by unfold gp;simp [h1])) (.nil)))
   ·refine ae (ai (El (sT X (a7 Y Y)) (Ep (aa (ae (aH Y (az (aa (ae ?_)))))))))
    refine au (ae (ai (Em Y (El (ao Y Y X) (El (be 1 Y Y X) (En Y (En Y (Ep (aa ?_)))))))))
    refine ae (ai (Em Y (Em Y (El (sF X (db Y Y)) (Em Y (Eo (ab Y) (Eo (ab Y) (sn0 Y Y Y Y Y (sn0 Y Y Y Y Y ?_)))))))))
    refine sn0 Y Y Y Y Y (Eo (bE Y Y) (El (bE Y Y) (Ep (aa (aB Y (az (aD (aa (ai ?_)))))))))
    refine El (bI _ 1 Y Y X) (Em Y (Ep ?_))
    refine aR (i+1) (hi) X Eh (.keep Ek (.keep (pV (fun j=>by unfold gp;simp [h1])) (.nil)))
  ·have he:i=r:=by omega
   subst he
   unfold bA
   refine ae (ai (El (sF X (a7 Y Y)) (Ep (aa (ae (aB Y (aX (av (av ?_)))))))))
   refine aE (aa (ai (Em Y (Em Y (Em Y (El (aC Y Y X) (El (aM Y) (El (bH Y) (El (aj Y) ?_)))))))))
   refine aA 0 Y Y Y Y Y (leN Y) Y (Ep (i6 ?_))
   exact ln (σ:=Unit) (ψ:=fun _=>bv []) () Tryz.results127 H (.keep Ek (.keep (bg fun q hq=>by rw [if_pos hq]) .nil))
end Tor
end
section
namespace Tor
open Go Go.RowKit Go.Proofs
def lY (n:Nat):Nat→Nat
 | 0 => n
 | p + 1 => 2 * lY n p + 1
theorem lZ (n:Nat) : ∀ p,lY n p+1=(n+1)*2^p
 | 0 => by rw [Nat.pow_zero, Nat.mul_one]; rfl
 | p + 1 => by
  have:=lZ n p
  show 2*lY n p+1+1=_
  rw [Nat.pow_succ, ← Nat.mul_assoc, ← this]; omega
theorem vJ {n p q:Nat} (h:p≤q):lY n p≤lY n q:=by
 have h1:=lZ n p
 have h2:=lZ n q
 have h3:(n+1)*2^p≤(n+1)*2^q:=Nat.mul_le_mul_left _ (Nat.pow_le_pow_right S h)
 omega
structure ElOk (n r:Nat) (e:ElS):Prop where
 p:e.piv.length≤r
 nz:e.last≠0
 last:lz (lY n e.piv.length) e.last
 R : ∀ i j,lz (lY n e.piv.length) (e.R i j)
theorem uq {n i k:Nat} {R:Nat→Nat→Int} (h : ∀ i j,lz n (R i j)) : ∀ q j,lz n (swp i k R q j):=fun q j=>by
 unfold swp;split
 ·exact h _ _
 ·split
  ·exact h _ _
  ·exact h _ _
theorem ElOk.start {n r:Nat} {F:Nat→Nat→Int} (hn:1≤n) (h : ∀ i j,lz n (F i j)):ElOk n r ⟨F,1,false, []⟩:=⟨Nat.zero_le _,(by decide:(1:Int)≠0),uo hn,h⟩
theorem ElOk.round {n r:Nat} {e:ElS} (h:ElOk n r e) {i c:Nat} (full:Bool) (hp:e.piv.length<r) (hn:swp i e.piv.length e.R e.piv.length c≠0) :
  ElOk n r ⟨gp e.piv.length c e.last full (swp i e.piv.length e.R),swp i e.piv.length e.R e.piv.length c,xor e.odd (decide (i≠e.piv.length)),e.piv ++ [c]⟩:=by
 have hl:(e.piv ++ [c]).length=e.piv.length+1:=by simp
 refine ⟨by rw [hl]; exact hp,hn,?_,fun i' j => ?_⟩
 ·show lz (lY n (e.piv ++ [c]).length) _
  rw [hl]; exact (uq h.R _ _).mono (vJ (Nat.le_succ _))
 ·show lz (lY n (e.piv ++ [c]).length) _
  rw [hl]; exact zh (uq h.R) _ _
theorem ur {n r:Nat} (full:Bool) {F:Nat→Nat→Int} (hn:1≤n) (hF : ∀ i j,lz n (F i j)) : ∀ c,ElOk n r (elN r full F c)
 | 0 => ElOk.start hn hF
 | c + 1 => by
  have h:=ur (r:=r) full hn hF c
  show ElOk n r (elR r full c (elN r full F c))
  generalize elN r full F c=e at h
  rcases rY e.R c e.piv.length r with h0 | ⟨i,hk,hi,h0,hn'⟩
  ·rw [nY h0]; exact h
  ·have hp:e.piv.length<r:=by omega
   rw [nZ hp hk hi h0 hn']
   exact h.round full hp (by rw [gT]; exact hn')
def ElI (n r:Nat) (full:Bool) (F:Nat→Nat→Int) (c:Nat) (e:ElS):Prop:=e=elN r full F c∧ElOk n r e
abbrev rc (l:List Nat):Nat→VT:=fun q=>one (.int .i64 (l.getD q 0:Nat))
def vK (r w:Nat) (e:ElS):VT:=bQ (.agg 5) (bC 5 [(0, .agg 4,bC 4 [(0, .one,slT .one r (fun i=>bA w (e.R i))),(1, .agg 2,aL e.last),(3, .one,one (.bool e.odd))]),(4, .one,slT .one e.piv.length (rc e.piv))])
theorem zi (r w:Nat) (e:ElS):VT.le (bQ (.agg 5) (bC 5 [(0, .one,slT .one r (fun i=>bA w (e.R i))),(1, .agg 2,aL e.last),(3, .one,one (.bool e.odd)),(4, .one,slT .one e.piv.length (rc e.piv))])) (vK r w e) :=
 yh (yg (m:=5) (o:=0) (k:=4) (cs := [(0, .one,slT .one r (fun i=>bA w (e.R i))),(1, .agg 2,aL e.last),(3, .one,one (.bool e.odd))]) (rest := [(4, .one,slT .one e.piv.length (rc e.piv))]) Y S)
theorem ut {b r cap:Nat} {sv:Option Nat} : Own.le (aP b 117 5 (kp (dk #[Value.slice none 0 0,Value.bool false,Value.slice none 0 0,Value.bool false,Value.slice none 0 0] [(0,Lay.agg 4),(4, .one)]) 0 (bC 4 (kp (kp (dk #[Value.slice none 0 0,Value.bool false,Value.slice none 0 0,Value.bool false] [(0, .one),(1,Lay.agg 2),(3, .one)]) 0 (one (slV sv r cap))) 1 (aL 1)))))
  (eI b sv r cap 1 false (one (slV none 0 0))):=Cw (o:=0) (k:=4) (cs := [(0, .one,one (slV sv r cap)),(1, .agg 2,aL 1),(3, .one,one (.bool false))]) (rest := [(4, .one,one (.slice none 0 0))]) Y
theorem wZ {b r cap:Nat} {last:Int} {odd:Bool} {sv svp:Option Nat} {capp c:Nat} {l:List Nat} : Own.le (eI b sv r cap last odd (one (slV svp (l.length+1) capp))) (eI b sv r cap last odd (one (slV svp (l ++ [c]).length capp))):=by
 rw [List.length_append]; exact Own.le_refl _
theorem zj {sv:Option Nat} {T:TypeId} {cap c:Nat} {l:List Nat} : Own.le (aI sv T .one cap (l.length+1) (fun q=>if q<l.length then rc l q else one (.int .i64 (c:Nat)))) (aI sv T .one cap (l ++ [c]).length (rc (l ++ [c]))):=gY (by simp) (fun q hq=>by
 show _=one (Value.int .i64 ((l ++ [c]).getD q 0:Nat))
 by_cases h:q<l.length
 ·rw [if_pos h]; show one (Value.int .i64 (l.getD q 0:Nat))=_;simp [List.getD,List.getElem?_append_left h]
 ·have:q=l.length:=by omega
  subst this;rw [if_neg h]; simp [List.getD])
attribute [local irreducible] J PJ aJ one slT bQ bC bv exT bZ eP aP aI slV VT.le Ret bJ xO
attribute [local irreducible] aL bA
theorem C2 (r w cols:Nat) (F:Nat→Nat→Int) (full:Bool) (n:Nat) (hr:r≤1048576) (hw:w≤1048576) (hcw:cols≤w) (hn:1≤n) (hb:(n+1)*2^r≤1099511627776) (hF : ∀ i j,lz n (F i j)) :
  OkM (σ:=Nat × Option Nat × Nat × Option Nat × Nat) Tryz.prog 79 [slT .one r (fun i=>bA w (F i)),one (.int .i64 (cols:Nat)),one (.bool full)] (fun s=>one (.pointer (some ⟨s.1,0,none⟩)))
   (fun s => [eI s.1 s.2.1 r s.2.2.1 (elN r full F cols).last (elN r full F cols).odd (one (slV s.2.2.2.1 (elN r full F cols).piv.length s.2.2.2.2)),aI s.2.1 32 .one s.2.2.1 r (fun i=>bA w ((elN r full F cols).R i)),aI s.2.2.2.1 3 .one s.2.2.2.2 (elN r full F cols).piv.length (rc (elN r full F cols).piv)]):=by
 refine OkM.enter Tryz.func79 Y Tryz.ntmps79 Y (fun w0 O => ?_)
 have hcl:=wY r (fun i=>bA w (F i)) hr
 refine ae (ai (En Y (Ep (aa (ij (ae (ai (Em Y ?_))))))))
 refine fU (hcl) Y ⟨H,Er⟩ Y Y (fun s12 => ?_)
 refine El (am (jm _ X X) Y ⟨H,Er⟩) ?_
 refine stB Y Y Y (BuildK.cons Y Y Y (BuildK.cons Y Y Y (BuildK.nil (stB Y Y Y (BuildK.cons Y Y Y (BuildK.nil ?_))))))
 refine aS Y Y (ltN Y) (fun b16 => ?_)
 refine En Y (Ep (aa (ae (jU (aa (ae (ae (ai (En Y ?_)))))))))
 refine Ep (aa (au ?_))
 obtain ⟨sv,cap⟩:=s12
 refine Cv (nU 3 .one (rc [])) (cp (Γ' := [(1,_),(2,_),(6,_),(7,_),(8,_)]) Eg (SubM.refl _) ?_)
 refine bD (σ:=Nat × ElS × Option Nat × Nat) (Γk := [(1,_),(2,_),(6,_),(7,_)]) Eg (fun s => [(8,one (.int .i64 (s.1:Nat)))]) (fun s M0=>(((M0.set 2 (aI sv 32 .one cap r (fun i=>bA w (s.2.1.R i)))).set 1 (eI b16 sv r cap s.2.1.last s.2.1.odd (one (slV s.2.2.1 s.2.1.piv.length s.2.2.2)))).set 0 (aI s.2.2.1 3 .one s.2.2.2 s.2.1.piv.length (rc s.2.1.piv)))) (fun s=>s.1≤cols∧ElI n r full F s.1 s.2.1) (fun s=>cols - s.1) ((0,⟨F,1,false, []⟩,none,0)) (⟨Nat.zero_le _,rfl,ElOk.start hn hF⟩) Eh (.keep Ek (.keep (ut) (.keep Ek (.nil)))) (fun s hs => ?_)
 refine bU (Γ' := [(8,_),(1,_),(2,_),(6,_),(7,_)]) (M' := [_,_,_]) Y Y ?_
 obtain ⟨c,e,svp,capp⟩:=s
 obtain ⟨hcc,hE,hO⟩:=hs
 dsimp only at hcc hE hO ⊢
 refine ni (i:=2) (F:=sv=none→r=0) Y (fun g h hp he=>iU hp he) (fun hsv => ?_)
 have hpr:=hO.p
 by_cases hc:c<cols
 ·by_cases hp:e.piv.length<r
  ·obtain ⟨bs,rfl⟩:=fZ hsv X
   have hbn:=lZ n (e.piv.length+1)
   have hbp:(n+1)*2^(e.piv.length+1)≤(n+1)*2^r:=Nat.mul_le_mul_left _ (Nat.pow_le_pow_right S hp)
   have hbb:2*lY n e.piv.length+1≤1099511627776:=by
    have:lY n (e.piv.length+1)=2*lY n e.piv.length+1:=rfl
    omega
   refine ae (ae (a8 17 a4 Z S (Em Y (Em Y (El (sT X (a7 Y Y)) (Em Y (Eo (ab Y) (Eo (bH Y) (Eo (aj Y) ?_)))))))))
   refine Eo (ak 1 Y Y Y) (Eo (cv Y) (Eo (ab Y) (Eo (bH Y) (Eo (aj Y) (Eo (aj Y) (Eo (ak 1 Y Y Y) (Eo (cv Y) (Eo (sT X (a7 Y Y)) (El (bp Y Y) ?_)))))))))
   refine Ep (Ep (aa (aH Y (az (aa (ae (au (ae (ai ?_)))))))))
   refine Em Y (El (bH Y) (El (aj Y) (El (ak 1 Y Y Y) (El (cv Y) (En Y (Ep (aa (ae (ai ?_)))))))))
   refine Em Y (En Y (Ep (aa (au (cp (Γ' := [(1,_),(2,_),(6,_),(7,_),(8,_),(9,_),(10,_)]) Eg (SubM.refl _) ?_)))))
   refine bD (σ:=Nat) (Γk := [(1,_),(2,_),(6,_),(7,_),(8,_),(9,_)]) Eg (fun i => [(10,one (.int .i64 (i:Nat)))]) (fun i M0=>M0) (fun i=>e.piv.length≤i∧i≤r ∧ ∀ q,e.piv.length≤q→q<i→e.R q c=0) (fun i=>r - i) (e.piv.length) (⟨Nat.le_refl _,hpr,fun q h1 h2=>absurd h2 X⟩) Eh (.keep Ek (.keep Ek (.keep Ek (.nil)))) (fun i hi => ?_)
   refine bU (Γ' := [(10,_),(1,_),(2,_),(6,_),(7,_),(8,_),(9,_)]) (M' := [_,_,_]) Y Y ?_
   obtain ⟨hi1,hi2,hi3⟩:=hi
   by_cases hi:i<r
   ·have hz:=eF (e.R i c)
    unfold bA
    by_cases h0:e.R i c=0
    ·have hz1:=hz.2 h0
     refine ae (ae (ai (Em Y (Em Y (El (bH Y) (El (aj Y) (El (aj Y) (El (ak 1 Y Y Y) (El (cv Y) ?_)))))))))
     refine El (sT X (a7 Y Y)) (Ep (aa (aH Y (az (aa (ae (au (ae (ai ?_)))))))))
     refine Em Y (El (bH Y) (El (aj Y) (El (aj Y) (El (ak 1 Y Y Y) (Em Y (El (ao Y Y X) (El (be 2 Y Y X) (Em Y (El (aC Y Y X) ?_)))))))))
     refine El (aM Y) ?_
     refine El (am (dc _) Y ⟨H,Er⟩) ?_
     refine El (sF X (dy Y Y)) (Ep (aa (aB Y (az (aD (aa (ai (Em Y (El (bI _ 1 Y Y X) ?_)))))))))
     refine En Y (Ep ?_)
     refine aR (i+1) (⟨by omega,hi,fun q h1 h2=>by by_cases h3:q=i;exact h3▸h0;exact hi3 q h1 X⟩) X Eh (.keep Ek (.keep Ek (.keep Ek (.nil))))
    ·have hz1:c6 (e.R i c)≠0:=fun h=>h0 (hz.1 h)
     refine ae (ae (ai (Em Y (Em Y (El (bH Y) (El (aj Y) (El (aj Y) (El (ak 1 Y Y Y) (El (cv Y) ?_)))))))))
     refine El (sT X (a7 Y Y)) (Ep (aa (aH Y (az (aa (ae (au (ae (ai ?_)))))))))
     refine Em Y (El (bH Y) (El (aj Y) (El (aj Y) (El (ak 1 Y Y Y) (Em Y (El (ao Y Y X) (El (be 2 Y Y X) (Em Y (El (aC Y Y X) ?_)))))))))
     refine El (aM Y) ?_
     refine El (am (dc _) Y ⟨H,Er⟩) ?_
     refine El (sT (by assumption) (dy Y Y)) (Ep (aa (aH Y (ae (ai (Em Y (El (bH Y) (El (aj Y) (Em Y ?_)))))))))
     refine Em Y ?_
     refine gw (Min := [eI b16 (some bs) r cap e.last e.odd (one (slV svp e.piv.length capp)),aI (some bs) 32 .one cap r (fun i=>slT (.agg 2) w fun j=>aL (e.R i j))]) (Kp := [_]) (y5 b16 bs r cap e.last e.odd _ (fun i=>slT (.agg 2) w fun j=>aL (e.R i j)) i e.piv.length hi hp) Y ⟨H,H,H,Er⟩ (List.perm_append_comm (l₁ := [_]) (l₂ := [_,_])) Y Y (fun _ => ?_)
     refine Ep (aa (ae (ai (Em Y (El (bH Y) (El (aj Y) (Em Y (Em Y (Em Y ?_)))))))))
     have hst:=Bi b16 bs r cap e.last (xor e.odd (decide (i≠e.piv.length))) (one (slV svp e.piv.length capp)) w (swp i e.piv.length e.R) e.piv.length c full (lY n e.piv.length) hp X hw hr hO.nz hbb hO.last (uq hO.R)
     unfold bA at hst
     refine Ax (dJ.refl _) (.keep Ek (.keep (bg (ψ:=fun q=>slT (.agg 2) w fun j=>aL (swp i e.piv.length e.R q j)) (fun q _=>AA (fun f:Nat→Int=>slT (.agg 2) w fun j=>aL (f j)) q)) (SubM.refl _))) ?_
     refine gw (Min := [_,_]) (Kp := [_]) hst Y ⟨H,H,H,H,Er⟩ (List.Perm.refl _) Y Y (fun _ => ?_)
     refine Ep (aa (ae (ai (Em Y (Em Y (El (bH Y) (El (aj Y) (El (ak 0 Y Y Y) (Em Y ?_)))))))))
     refine gm Y Y Y Y ?_
     (refine cW 2 Y Y Y (leN Y) ?_ ?_ Y (ltN Y) (fun sv85 cap85 => ?_);omega;omega)
     refine El (bH Y) (El (aj Y) (aA 0 Y Y Y Y Y (leN Y) Y (Ep (aa (aX (c9 Y (av (av (c9 Y ?_)))))))))
     refine aE (aa (ai (Em Y (El (bI _ 1 Y Y X) (En Y (Ep (nj (List.perm_append_comm (l₁ := [_,_]) (l₂ := [_])) ?_)))))))
     refine aR ((c+1,⟨gp e.piv.length c e.last full (swp i e.piv.length e.R),swp i e.piv.length e.R e.piv.length c,xor e.odd (decide (i≠e.piv.length)),e.piv ++ [c]⟩,sv85,cap85)) (⟨hc,(nZ (full:=full) hp hi1 hi hi3 h0).symm.trans (congrArg (elR r full c) hE),hO.round full hp (by rw [gT]; exact h0)⟩) X Eh (.keep (zj) (.keep (wZ) (.keep Ek (.nil))))
   ·have hi4:i=r:=by omega
    refine ae (ae (ai (Em Y (Em Y (El (bH Y) (El (aj Y) (El (aj Y) (El (ak 1 Y Y Y) (El (cv Y) ?_)))))))))
    refine El (sF X (a7 Y Y)) (Ep (aa (aB Y (aX (av (av (aE (aD (aa ?_)))))))))
    refine ai (Em Y (El (bI _ 1 Y Y X) (En Y (Ep ?_))))
    refine aR ((c+1,e,svp,capp)) (⟨hc,(nY (full:=full) (fun q h1 h2=>hi3 q h1 X)).symm.trans (congrArg (elR r full c) hE),hO⟩) X Eh (.keep Ek (.keep Ek (.keep Ek (.nil))))
  ·have hen:e=elN r full F cols:=hE.trans (yl (by rw [← hE]; exact hp) cols hcc).symm
   have hpr2:e.piv.length=r:=by omega
   rw [← hen]
   refine ae (ae (a8 17 a4 Z S (Em Y (Em Y (El (sT X (a7 Y Y)) (Em Y (Eo (ab Y) (Eo (bH Y) (Eo (aj Y) ?_)))))))))
   refine Eo (ak 1 Y Y Y) (Eo (cv Y) (Eo (ab Y) (Eo (bH Y) (Eo (aj Y) (Eo (aj Y) (Eo (ak 1 Y Y Y) (Eo (cv Y) (Eo (sF X (a7 Y Y)) (El (bp Y Y) ?_)))))))))
   refine Ep (Ep (aa (aB Y (aX (av (av (aE (aa (ae ?_)))))))))
   refine ai (Em Y (En Y (Ep (aa (aF (eh (nj (List.perm_append_comm (l₁ := [_]) (l₂ := [_,_])) ?_)))))))
   exact ks (b16,sv,cap,svp,capp) Tryz.results79 (.tmp Y H) (SubM.refl _)
 ·have hcl2:c=cols:=by omega
  subst hcl2
  rw [← hE]
  refine ae (ae (a8 17 a4 Z S (Em Y (Em Y (El (sF X (a7 Y Y)) (Em Y (sg0 Y Y Y Y (sg0 Y Y Y Y (sg0 Y Y Y Y ?_)))))))))
  refine sg0 Y Y Y Y (sg0 Y Y Y Y (sg0 Y Y Y Y (sg0 Y Y Y Y (sg0 Y Y Y Y (sg0 Y Y Y Y (sg0 Y Y Y Y (sg0 Y Y Y Y (sg0 Y Y Y Y (El (bE Y Y) ?_)))))))))
  refine Ep (Ep (aa (aB Y (aX (av (av (aE (aa (ae ?_)))))))))
  refine ai (Em Y (En Y (Ep (aa (aF (eh (nj (List.perm_append_comm (l₁ := [_]) (l₂ := [_,_])) ?_)))))))
  exact ks (b16,sv,cap,svp,capp) Tryz.results79 (.tmp Y H) (SubM.refl _)
theorem zk {r w:Nat} {e:ElS} {b:Nat} {sv svp:Option Nat} {cap capp:Nat} : Ent [eI b sv r cap e.last e.odd (one (slV svp e.piv.length capp)),aI sv 32 .one cap r (fun i=>bA w (e.R i)),aI svp 3 .one capp e.piv.length (rc e.piv)] (one (.pointer (some ⟨b,0,none⟩))) (vK r w e) :=
 Ent.then (Ent.ptrW List.mem_cons_self (qm.cons List.mem_cons_self (Ent.sl (List.mem_cons_of_mem _ List.mem_cons_self)) (qm.cons (List.mem_cons_of_mem _ List.mem_cons_self) (Ent.refl _) (qm.cons (List.mem_cons_of_mem _ (List.mem_cons_of_mem _ List.mem_cons_self)) (Ent.refl _)
  (qm.cons (List.mem_cons_of_mem _ (List.mem_cons_of_mem _ (List.mem_cons_of_mem _ List.mem_cons_self))) (Ent.sl (List.mem_cons_of_mem _ (List.mem_cons_of_mem _ List.mem_cons_self))) qm.nil))))) (zi r w e)
theorem Bj (r w cols:Nat) (F:Nat→Nat→Int) (full:Bool) (n:Nat) (hr:r≤1048576) (hw:w≤1048576) (hcw:cols≤w) (hn:1≤n) (hb:(n+1)*2^r≤1099511627776) (hF : ∀ i j,lz n (F i j)) :
  Ok Tryz.prog 79 [slT .one r (fun i=>bA w (F i)),one (.int .i64 (cols:Nat)),one (.bool full)] (vK r w (elN r full F cols)) :=
 (C2 r w cols F full n hr hw hcw hn hb hF).ok fun s=>zk
end Tor
end
section
namespace Tor
open Go Go.RowKit Go.Proofs
theorem kO:bm 0:=Nat.zero_le _
def sQ (n r:Nat):Prop:=1≤n∧(n+1)*2^r≤1099511627700
theorem sQ.b {n r:Nat} (h:sQ n r):(n+1)*2^r≤1099511627776:=Nat.le_trans h.2 S
theorem sQ.lz {n r:Nat} (h:sQ n r) {e:ElS} (he:ElOk n r e) {x:Int} (hx:lz (lY n e.piv.length) x):lz 1099511627700 x:=hx.mono (by
 have h1:=vJ (n:=n) he.p
 have h2:=lZ n r
 have h3:=h.2
 omega)
theorem C3 {n r:Nat} {F:Nat→Nat→Int} (he:sQ n r) (hF : ∀ i j,lz n (F i j)):lz 1099511627700 (Lin.bW r F):=by
 rw [← Lin.vG]
 have hok:=ur (r:=r) false he.1 hF r
 have h:=he.lz hok hok.last
 unfold Lin.yZ
 split
 ·exact Bf _
 ·split
  ·exact zg h
  ·exact h
attribute [local irreducible] J PJ aJ one slT bQ bC bv exT bZ eP aP aI slV VT.le Ret bJ xO
attribute [local irreducible] aL bA
theorem w5 (r c:Nat) (F:Nat→Nat→Int):Ok Tryz.prog 78 [bP r c F] (one (.bool (decide (r=c)))):=by
 have hv:=fz r c F
 unfold bP at *
 refine Ok.enter Tryz.func78 Y Tryz.ntmps78 Y (fun w O => ?_)
 by_cases h:r=c
 ·rw [decide_eq_true h]
  refine ae (ai ?_)
  refine aS Y Y (ltN Y) (fun b1 => ?_)
  refine En Y (Ep (aa (ae (ai (El (aQ 0 Y Y) ?_)))))
  refine El (am (hv) Y ⟨H,Er⟩) ?_
  refine Em Y (Eo (aj Y) (Eo (ak 0 Y Y Y) (Eo (aj Y) (Eo (ak 0 Y Y Y) (Eo (sT X (cm Y Y)) (El (bp Y Y) (En Y (Ep (aa ?_)))))))))
  refine aF ?_
  refine aV Tryz.results78 (.tmp Y H)
 ·rw [decide_eq_false h]
  refine ae (ai ?_)
  refine aS Y Y (ltN Y) (fun b1 => ?_)
  refine En Y (Ep (aa (ae (ai (El (aQ 0 Y Y) ?_)))))
  refine El (am (hv) Y ⟨H,Er⟩) ?_
  refine Em Y (Eo (aj Y) (Eo (ak 0 Y Y Y) (Eo (aj Y) (Eo (ak 0 Y Y Y) (Eo (sF X (cm Y Y)) (El (bp Y Y) (En Y (Ep (aa ?_)))))))))
  refine aF ?_
  refine aV Tryz.results78 (.tmp Y H)
theorem uu (r:Nat) (F:Nat→Nat→Int) (n:Nat) (hr:r≤1048576) (he:sQ n r) (hF : ∀ i j,lz n (F i j)):Ok Tryz.prog 50 [bP r r F] (bv [aL (Lin.bW r F),one (.int .i64 0)]):=by
 have hs:=w5 r r F
 rw [decide_eq_true Y] at hs
 have hru:=Bj r r r F false n hr hr (Nat.le_refl _) he.1 he.b hF
 rw [← Lin.vG]
 obtain ⟨A,V,hEL⟩:=Lin.q7 r r false F r (Nat.le_refl _)
 have hpr:=hEL.gj.pr
 unfold Lin.yZ
 have hok:=ur (r:=r) false he.1 hF r
 generalize elN r false F r=e at *
 have hlast:bm e.last:=(he.lz hok hok.last).small S
 have hneg:=vl e.last hlast
 have hadd:=j7 e.last 0 hlast kO
 rw [Int.add_zero] at hadd
 unfold bP vK at *
 refine Ok.enter Tryz.func50 Y Tryz.ntmps50 Y (fun w O => ?_)
 by_cases h:e.piv.length<r
 ·rw [if_pos h]
  refine ae (ai ?_)
  refine aS Y Y (ltN Y) (fun b1 => ?_)
  refine aG (T:=37) Y (ltN Y) (fun b2 => ?_)
  refine En Y (Ep (aa (ae (ae (ai (El (aQ 1 Y Y) ?_))))))
  refine El (am (hs) Y ⟨H,Er⟩) ?_
  refine El (cR Y) (Ep (aa (aB Y (az (aa (ae (ai (El (aj Y) (El (ak 1 Y Y Y) ?_)))))))))
  refine El (aj Y) (El (ak 1 Y Y Y) ?_)
  refine El (am (hru) Y ⟨H,H,H,Er⟩) ?_
  refine En Y (Ep (aa (ae (au (ae (a8 9 a4 Z S (Em Y (El (eu Y) (El (ev Y Y) ?_)))))))))
  refine El (aM Y) (El (aW Y) (El (aj Y) (El (ak 1 Y Y Y) (El (sT X (a7 Y Y)) (En Y (Ep (Ep (aa (aH Y ?_)))))))))
  refine ae (ai (stB Y Y Y (BuildK.nil (aA 0 Y Y Y Y Y (leN Y) Y (En Y (Ep (aa (aF (bK ?_)))))))))
  refine aU ?_
  refine cT Tryz.results50 (.cellB 0 Y Y Y (ke)) (.tmp Y H)
 ·rw [if_neg h]
  cases ho:e.odd
  ·simp only [ho] at *
   refine ae (ai ?_)
   refine aS Y Y (ltN Y) (fun b1 => ?_)
   refine aG (T:=37) Y (ltN Y) (fun b2 => ?_)
   refine En Y (Ep (aa (ae (ae (ai (El (aQ 1 Y Y) ?_))))))
   refine El (am (hs) Y ⟨H,Er⟩) ?_
   refine El (cR Y) (Ep (aa (aB Y (az (aa (ae (ai (El (aj Y) (El (ak 1 Y Y Y) ?_)))))))))
   refine El (aj Y) (El (ak 1 Y Y Y) ?_)
   refine El (am (hru) Y ⟨H,H,H,Er⟩) ?_
   refine En Y (Ep (aa (ae (au (ae (a8 9 a4 Z S (Em Y (El (eu Y) (El (ev Y Y) ?_)))))))))
   refine El (aM Y) (El (aW Y) (El (aj Y) (El (ak 1 Y Y Y) (El (sF X (a7 Y Y)) (En Y (Ep (Ep (aa (aB Y ?_)))))))))
   refine ae (ai (Em Y (El (eu Y) (El (ev Y Y) (El (ev Y Y) (El (aM Y) (En Y (Ep (aa ?_)))))))))
   refine aB Y (az (aD (aa (ae (ai (Em Y (El (eu Y) (El (ev Y Y) (El (ev Y Y) ?_)))))))))
   refine El (aM Y) (stB Y Y Y (BuildK.nil ?_))
   refine El (am (hadd) Y ⟨H,(ke),Er⟩) ?_
   refine aA 0 Y Y Y Y Y (leN Y) Y (En Y (Ep (aa (aF ?_))))
   refine cT Tryz.results50 (.cellB 0 Y Y Y H) (.tmp Y H)
  ·simp only [ho] at *
   refine ae (ai ?_)
   refine aS Y Y (ltN Y) (fun b1 => ?_)
   refine aG (T:=37) Y (ltN Y) (fun b2 => ?_)
   refine En Y (Ep (aa (ae (ae (ai (El (aQ 1 Y Y) ?_))))))
   refine El (am (hs) Y ⟨H,Er⟩) ?_
   refine El (cR Y) (Ep (aa (aB Y (az (aa (ae (ai (El (aj Y) (El (ak 1 Y Y Y) ?_)))))))))
   refine El (aj Y) (El (ak 1 Y Y Y) ?_)
   refine El (am (hru) Y ⟨H,H,H,Er⟩) ?_
   refine En Y (Ep (aa (ae (au (ae (a8 9 a4 Z S (Em Y (El (eu Y) (El (ev Y Y) ?_)))))))))
   refine El (aM Y) (El (aW Y) (El (aj Y) (El (ak 1 Y Y Y) (El (sF X (a7 Y Y)) (En Y (Ep (Ep (aa (aB Y ?_)))))))))
   refine ae (ai (Em Y (El (eu Y) (El (ev Y Y) (El (ev Y Y) (El (aM Y) (En Y (Ep (aa ?_)))))))))
   refine aH Y (ae (ai (Em Y (El (eu Y) (El (ev Y Y) (El (ev Y Y) (El (aM Y) ?_)))))))
   refine El (am (hneg) Y ⟨H,Er⟩) ?_
   refine aA 0 Y Y Y Y Y (leN Y) Y (En Y (Ep (aa (aF (bK (aU ?_))))))
   refine cT Tryz.results50 (.cellB 0 Y Y Y H) (.tmp Y H)
end Tor
end
section
namespace Tor
end Tor
namespace Tor.Lin
theorem zm (n m:Nat) (f:Nat→Rat):sm (n+m) f=sm n f+sm m (fun k=>f (n+k)):=by
 induction m with
 | zero => show sm n f = sm n f + 0; grind
 | succ m ih => rw [← Nat.add_assoc, sm, sm, ih]; grind
variable {r c:Nat} {F:Nat→Nat→Int} {b:Nat→Int} {e:ElS} {A:Nat→Nat→Int} {V:Nat→Nat→Rat}
end Tor.Lin
end
section
namespace Tor
open Go Go.RowKit Go.Proofs
def cof (n:Nat) (F:Nat→Nat→Int) (i j:Nat):Int:=Lin.Az (i+j)*Lin.bW (n - 1) (fun a b=>F (Lin.skip i a) (Lin.skip j b))
attribute [local irreducible] J PJ aJ one slT bQ bC bv exT bZ eP aP aI slV VT.le Ret bJ xO
attribute [local irreducible] aL bA
end Tor
end
section
namespace Tor
open Go Go.RowKit Go.Proofs
def fC (n:Nat) (F:Nat→Nat→Int):Nat→Nat→Int:=fun i k=>if k<n then F i k else (if i=k - n then 1 else 0)
def ng (n:Nat) (F:Nat→Nat→Int) (e:ElS):Nat→Nat→Int:=fun i j=>if e.piv.length<n - 1 then 0 else if e.piv.length<n then cof n F j i else if e.odd then -(e.R i (n+j)) else e.R i (n+j)
attribute [local irreducible] J PJ aJ one slT bQ bC bv exT bZ eP aP aI slV VT.le Ret bJ xO
attribute [local irreducible] aL bA dD
end Tor
end
section
namespace Tor
open Go Go.RowKit Go.Proofs
def oz (r c:Nat) (l:List Int):VT:=bC 3 [(0, .one,one (.int .u8 r)),(1, .one,one (.int .u8 c)),(2, .one,ib .i8 l)]
theorem DO (n:Nat):(n:Int).tmod 5=((n % 5:Nat):Int):=by
 rw [Int.tmod_eq_emod_of_nonneg X]; omega
attribute [local irreducible] J PJ aJ one slT bQ bC bv exT bZ eP aP aI slV VT.le Ret bJ
attribute [local irreducible] aL dD
end Tor
end
section
namespace Tor
open Go Go.RowKit Go.Proofs
theorem w6 {sv:Option Nat} {T:TypeId} {cap i:Nat} {h:Nat→Int} {x:Int} (hx:x=h i):Own.le (aI sv T (.agg 2) cap (i+1) (fun q=>if q<i then aL (h q) else aL x)) (aI sv T (.agg 2) cap (i+1) (fun q=>aL (h q))):=bg fun q hq=>by
 by_cases c:q<i
 ·rw [if_pos c]
 ·rw [if_neg c,hx,show q=i by omega]
attribute [local irreducible] J PJ aJ one slT bQ bC bv exT bZ eP aP aI slV VT.le Ret bJ
attribute [local irreducible] aL dD
end Tor
end
section
namespace Tor.Lin
theorem mE (x:Rat):0≤x*x:=by
 rcases Rat.le_total (a:=0) (b:=x) with h | h
 ·exact Rat.mul_nonneg h h
 ·have:=Rat.mul_nonneg (a := -x) (b := -x) (by grind) (by grind)
  grind
theorem zn {a b c d:Rat} (h:0≤a) (h1:a≤b) (h2:0≤c) (h3:c≤d):a*c≤b*d:=by
 have e1:=Rat.mul_le_mul_of_nonneg_left (c:=c) h1 h2
 have e2:=Rat.mul_le_mul_of_nonneg_left (c:=b) h3 (Rat.le_trans h h1)
 grind
theorem mF {n:Nat} {f:Nat→Rat} (h : ∀ i,i<n→0≤f i):0≤sm n f:=by
 induction n with
 | zero => exact Rat.le_refl
 | succ n ih =>
  have h1:=ih (fun i hi=>h i X)
  have h2:=h n X
  rw [sm]; grind
theorem sR {n:Nat} {f:Nat→Rat} (h : ∀ i,i<n→0≤f i) (h0:sm n f=0) : ∀ i,i<n→f i=0:=by
 induction n with
 | zero => intro i hi; omega
 | succ n ih =>
  have h1:=mF (fun i hi=>h i (show i<n+1 by omega)) (n:=n)
  have h2:=h n X
  rw [sm] at h0
  intro i hi
  by_cases e:i=n
  ·subst e;grind
  ·exact ih (fun i hi=>h i X) (by grind) i X
theorem w7 {n m:Nat} {f:Nat→Rat} (h:m≤n) (h0 : ∀ j,m≤j→j<n→f j=0):sm n f=sm m f:=by
  induction n with
  | zero => have : m = 0 := by omega
            rw [this]
  | succ n ih =>
    by_cases e:m=n+1
    · rw [e]
    · rw [sm,ih X (fun j h1 h2=>h0 j h1 X),h0 n X X,Rat.add_zero]
def dot (m:Nat) (u v:Nat→Rat):Rat:=sm m (fun k=>u k*v k)
theorem jL (m:Nat) (u v:Nat→Rat):dot m u v=dot m v u:=bB fun k _=>Rat.mul_comm _ _
theorem sS (m:Nat) (u:Nat→Rat):0≤dot m u u:=mF fun k _=>mE _
theorem zq {m:Nat} {u:Nat→Rat} (h:dot m u u=0) : ∀ k,k<m→u k=0:=fun k hk=>by
 have:=sR (fun i _=>mE (u i)) h k hk
 grind
def gsT (m:Nat) (A:Nat→Nat→Rat):Nat→Nat→Nat→Rat
 | 0 => fun _ _ => 0
 | i + 1 => fun j => if j = i then (fun k => A i k - sm i (fun t => dot m (A i) (gsT m A i t) / dot m (gsT m A i t) (gsT m A i t) * gsT m A i t k)) else gsT m A i j
def gsB (m:Nat) (A:Nat→Nat→Rat) (i:Nat):Nat→Rat:=gsT m A (i+1) i
def gsM (m:Nat) (A:Nat→Nat→Rat) (i t:Nat):Rat:=dot m (A i) (gsB m A t) / dot m (gsB m A t) (gsB m A t)
theorem zr {m:Nat} {A:Nat→Nat→Rat} : ∀ i j,j<i→gsT m A i j=gsB m A j
 | 0, j, h => absurd h (Nat.not_lt_zero _)
 | i + 1, j, h => by
  by_cases e:j=i
  ·rw [e]; rfl
  ·show (if j=i then _ else gsT m A i j)=_
   rw [if_neg e]; exact zr i j X
theorem rd (m:Nat) (A:Nat→Nat→Rat) (i k:Nat):gsB m A i k=A i k - sm i (fun t=>gsM m A i t*gsB m A t k):=by
 show (if i=i then (fun k=>A i k - sm i (fun t=>dot m (A i) (gsT m A i t) / dot m (gsT m A i t) (gsT m A i t)*gsT m A i t k)) else gsT m A i i) k=_
 rw [if_pos Y]
 show A i k - _=_
 congr 1
 exact bB fun t ht=>by rw [zr i t ht]; rfl
theorem oA {m n:Nat} {u v w:Nat→Rat} {f:Nat→Rat} {b:Nat→Nat→Rat} (h : ∀ k,k<m→w k=v k - sm n (fun t=>f t*b t k)):dot m u w=dot m u v - sm n (fun t=>f t*dot m u (b t)):=by
 unfold dot
 rw [bB (g:=fun k=>u k*v k - sm n (fun t=>f t*(u k*b t k))) (fun k hk=>by
  rw [h k hk]
  have:sm n (fun t=>f t*(u k*b t k))=sm n (fun t=>f t*b t k)*u k:=by
   rw [← j5]; exact bB fun t _=>by grind
  rw [this]; grind),mp,vg]
 congr 1
 exact bB fun t _=>by
  rw [Rat.mul_comm, ← j5]; exact bB fun k _=>by grind
theorem vL (m:Nat) (A:Nat→Nat→Rat) (i t:Nat):gsM m A i t*dot m (gsB m A t) (gsB m A t)=dot m (A i) (gsB m A t):=by
 by_cases h:dot m (gsB m A t) (gsB m A t)=0
 ·have h0:=zq h
  have e:dot m (A i) (gsB m A t)=0:=ip fun k hk=>by rw [h0 k hk]; exact Rat.mul_zero _
  rw [h,e]; exact Rat.mul_zero _
 ·unfold gsM;exact Rat.div_mul_cancel h
theorem vM (m:Nat) (A:Nat→Nat→Rat) : ∀ i j,j<i→dot m (gsB m A i) (gsB m A j)=0:=by
 intro i
 induction i using Nat.strongRecOn with
 | _ i ih =>
  intro j hj
  rw [jL,oA (v:=A i) (f:=fun t=>gsM m A i t) (b:=gsB m A) (n:=i) (fun k _=>rd m A i k)]
  rw [gR hj (fun t ht hne=>by
   rcases Nat.lt_trichotomy t j with h | h | h
   ·rw [ih j hj t h]; exact Rat.mul_zero _
   ·exact absurd h hne
   ·rw [jL,ih t ht j h]; exact Rat.mul_zero _),vL,jL]
  grind
theorem C4 (m:Nat) (A:Nat→Nat→Rat) (i k:Nat):A i k=gsB m A i k+sm i (fun t=>gsM m A i t*gsB m A t k):=by
 rw [rd]; grind
theorem Bk (m:Nat) (A:Nat→Nat→Rat) (i:Nat):dot m (A i) (A i)=dot m (gsB m A i) (gsB m A i)+sm i (fun t=>gsM m A i t*gsM m A i t*dot m (gsB m A t) (gsB m A t)):=by
 have e1:=oA (m:=m) (u:=gsB m A i) (v:=A i) (w:=gsB m A i) (n:=i) (f:=fun t=>gsM m A i t) (b:=gsB m A) (fun k _=>rd m A i k)
 rw [ip (n:=i) (fun t ht=>by rw [vM m A i t ht]; exact Rat.mul_zero _)] at e1
 have e2:=oA (m:=m) (u:=A i) (v:=A i) (w:=gsB m A i) (n:=i) (f:=fun t=>gsM m A i t) (b:=gsB m A) (fun k _=>rd m A i k)
 have e3:dot m (gsB m A i) (A i)=dot m (A i) (gsB m A i):=jL _ _ _
 have e4:sm i (fun t=>gsM m A i t*dot m (A i) (gsB m A t))=sm i (fun t=>gsM m A i t*gsM m A i t*dot m (gsB m A t) (gsB m A t)):=bB fun t _=>by rw [← vL]; grind
 rw [e4] at e2
 grind
theorem DP (m:Nat) (A:Nat→Nat→Rat) (i:Nat):dot m (gsB m A i) (gsB m A i)≤dot m (A i) (A i):=by
 have h:=Bk m A i
 have h2:0≤sm i (fun t=>gsM m A i t*gsM m A i t*dot m (gsB m A t) (gsB m A t)):=mF fun t _=>Rat.mul_nonneg (mE _) (sS _ _)
 grind
def pr:Nat→(Nat→Rat)→Rat
 | 0, _ => 1
 | n + 1, f => pr n f * f n
theorem oB {n:Nat} {f g:Nat→Rat} (h : ∀ i,i<n→f i=g i):pr n f=pr n g:=by
 induction n with
 | zero => rfl
 | succ n ih => rw [pr, pr, ih (fun i hi => h i X), h n X]
theorem zt (n:Nat) (f:Nat→Rat):pr (n+1) f=f 0*pr n (fun i=>f (i+1)):=by
 induction n with
 | zero => show 1 * f 0 = f 0 * 1; grind
 | succ n ih => rw [pr, ih, pr]; grind
theorem w8 {n:Nat} {f:Nat→Rat} (h : ∀ i,i<n→0≤f i):0≤pr n f:=by
 induction n with
 | zero => show (0 : Rat) ≤ 1; decide
 | succ n ih => exact Rat.mul_nonneg (ih fun i hi => h i X) (h n X)
theorem Bl {n:Nat} {f g:Nat→Rat} (h0 : ∀ i,i<n→0≤f i) (h : ∀ i,i<n→f i≤g i):pr n f≤pr n g:=by
 induction n with
 | zero => exact Rat.le_refl
 | succ n ih => exact zn (w8 fun i hi => h0 i X) (ih (fun i hi => h0 i X) fun i hi => h i X) (h0 n X) (h n X)
theorem re : ∀ {n:Nat} {F:Nat→Nat→Rat},(∀ i j,i<j→j<n→F i j=0)→det n F=pr n (fun i=>F i i)
 | 0, _, _ => rfl
 | n + 1, F, h => by
  rw [det,gR (Nat.succ_pos n) (fun j hj hne=>by rw [h 0 j X hj]; grind),re (n:=n) (fun i j hij hj=>h _ _ (by unfold skip;split <;> omega) (by unfold skip;split <;> omega)),zt]
  have:sgn 0=1:=rfl
  rw [this,Rat.one_mul]
  congr 1
theorem C5 (n:Nat) (A:Nat→Nat→Rat):det n A*det n A=pr n (fun i=>dot n (gsB n A i) (gsB n A i)):=by
 have e1:det n A=det n (nW n (fun i t=>if t<i then gsM n A i t else if t=i then 1 else 0) (gsB n A)):=bG fun i j hi hj=>by
  show A i j=sm n (fun t=>(if t<i then gsM n A i t else if t=i then 1 else 0)*gsB n A t j)
  rw [w7 (show i+1≤n by omega) (fun t h1 h2=>by rw [if_neg X,if_neg X]; exact Rat.zero_mul _),sm,if_neg (Nat.lt_irrefl _),if_pos Y,C4 n A i j]
  rw [bB (f:=fun t=>(if t<i then gsM n A i t else if t=i then 1 else 0)*gsB n A t j) (g:=fun t=>gsM n A i t*gsB n A t j) (fun t ht=>by rw [if_pos ht])]
  grind
 have e2:det n (fun i t=>if t<i then gsM n A i t else if t=i then (1:Rat) else 0)=1:=by
  rw [re (fun i j hij hj=>by rw [if_neg X,if_neg X])]
  rw [oB (g:=fun _=>1) (fun i _=>by rw [if_neg (Nat.lt_irrefl _),if_pos Y])]
  clear e1
  induction n with
  | zero => rfl
  | succ n ih => rw [pr, ih, Rat.one_mul]
 rw [qI,e2,Rat.one_mul] at e1
 rw [e1]
 have e3:det n (gsB n A)*det n (gsB n A)=det n (nW n (gsB n A) (fun i j=>gsB n A j i)):=by
  rw [qI]
  congr 1
  exact (tW n fX (gsB n A)).symm
 rw [e3,re (fun i j hij hj=>by
  show sm n (fun k=>gsB n A i k*gsB n A j k)=0
  have:=vM n A j i hij
  rw [jL] at this;exact this)]
 exact oB fun i _=>rfl
theorem zu (n:Nat) (A:Nat→Nat→Rat):det n A*det n A≤pr n (fun i=>dot n (A i) (A i)):=by
 rw [C5]
 exact Bl (fun i _=>sS _ _) (fun i _=>DP _ _ _)
end Tor.Lin
end
section
namespace Tor
def iF (j:Nat) (g:Nat→Int):Nat→Int:=fun q=>if q=j then g (j+1) else if q=j+1 then g j else g q
def o9:Nat→(Nat→Int)→Nat→Int
 | 0, g => g
 | j + 1, g => if g j < g (j + 1) then o9 j (iF j g) else g
def dI:Nat→(Nat→Int)→Nat→Int
 | 0, g => g
 | i + 1, g => o9 i (dI i g)
theorem m0 {m:Nat} : ∀ {j:Nat} {g:Nat→Int},j≤m→(∀ a b,a<b→b≤m→a≠j→b≠j→g b≤g a)→(∀ b,j<b→b≤m→g b≤g j) → ∀ a b,a<b→b≤m→o9 j g b≤o9 j g a
 | 0, g, hj, h1, h2 => fun a b hab hb => by
  show g b≤g a
  by_cases e:a=0
  ·rw [e]; exact h2 b X hb
  ·exact h1 a b hab hb e X
 | j + 1, g, hj, h1, h2 => by
  show ∀ a b,a<b→b≤m→(if g j<g (j+1) then o9 j (iF j g) else g) b≤(if g j<g (j+1) then o9 j (iF j g) else g) a
  by_cases c:g j<g (j+1)
  ·rw [if_pos c]
   refine m0 X (fun a b hab hb ha hb' => ?_) (fun b h3 hb => ?_)
   ·unfold iF
    rw [if_neg ha,if_neg hb']
    by_cases e1:a=j+1
    ·rw [if_pos e1,if_neg X]; exact h1 j b X hb X X
    ·rw [if_neg e1]
     by_cases e2:b=j+1
     ·rw [if_pos e2]; exact h1 a j X X e1 X
     ·rw [if_neg e2]; exact h1 a b hab hb e1 e2
   ·unfold iF
    rw [if_neg (show ¬ b=j by omega),if_pos Y]
    by_cases e2:b=j+1
    ·rw [if_pos e2]; omega
    ·rw [if_neg e2]; exact h2 b X hb
  ·rw [if_neg c]
   intro a b hab hb
   by_cases e1:a=j+1
   ·rw [e1]; exact h2 b X hb
   ·by_cases e2:b=j+1
    ·rw [e2]
     by_cases e3:a=j
     ·rw [e3]; omega
     ·have:=h1 a j X X e1 X
      omega
    ·exact h1 a b hab hb e1 e2
theorem l0 (g:Nat→Int) : ∀ n, ∀ a b,a<b→b<n→dI n g b≤dI n g a
 | 0, a, b, h1, h2 => absurd h2 (Nat.not_lt_zero _)
 | n + 1, a, b, h1, h2 => m0 (m := n) (j := n) (Nat.le_refl n) (fun a b hab hb ha hb' => l0 g n a b hab X) (fun b h3 h4 => absurd h3 X) a b h1 X
def lst (n:Nat) (g:Nat→Int):List Int:=(List.range n).map g
theorem fD (n:Nat) (g:Nat→Int):lst (n+1) g=lst n g ++ [g n]:=by unfold lst;rw [List.range_succ,List.map_append]; rfl
theorem w9 {n:Nat} {g h:Nat→Int} (e : ∀ i,i<n→g i=h i):lst n g=lst n h:=List.map_congr_left fun i hi=>e i (List.mem_range.1 hi)
theorem pW {j:Nat} (g:Nat→Int) : ∀ {n:Nat},j+1<n→(lst n (iF j g)).Perm (lst n g)
 | 0, h => absurd h (Nat.not_lt_zero _)
 | n + 1, h => by
  by_cases e:n=j+1
  ·subst e
   rw [fD,fD,fD,fD,w9 (g:=iF j g) (h:=g) (fun i hi=>by unfold iF;rw [if_neg X,if_neg X])]
   have e1:iF j g j=g (j+1):=by unfold iF;rw [if_pos Y]
   have e2:iF j g (j+1)=g j:=by unfold iF;rw [if_neg X,if_pos Y]
   rw [e1,e2,List.append_assoc,List.append_assoc]
   exact List.Perm.append_left _ (List.Perm.swap _ _ _)
  ·rw [fD,fD]
   have e1:iF j g n=g n:=by unfold iF;rw [if_neg X,if_neg X]
   rw [e1]
   exact (pW g X).append_right _
theorem pX {n:Nat} : ∀ {j:Nat} {g:Nat→Int},j<n→(lst n (o9 j g)).Perm (lst n g)
 | 0, g, _ => List.Perm.refl _
 | j + 1, g, h => by
  show (lst n (if g j<g (j+1) then o9 j (iF j g) else g)).Perm _
  split
  ·exact (pX X).trans (pW g h)
  ·exact List.Perm.refl _
theorem e8 {n:Nat} (g:Nat→Int) : ∀ {i:Nat},i≤n→(lst n (dI i g)).Perm (lst n g)
 | 0, _ => List.Perm.refl _
 | i + 1, h => (pX X).trans (e8 g X)
def prZ:Nat→(Nat→Int)→Int
 | 0, _ => 1
 | n + 1, g => prZ n g * g n
def prL (l:List Int):Int:=l.foldr (fun x y=>x*y) 1
theorem Bm (l:List Int) (x:Int):prL (l ++ [x])=prL l*x:=by
 induction l with
 | nil => show x * 1 = 1 * x; rw [Int.mul_one, Int.one_mul]
 | cons y l ih => show y * prL (l ++ [x]) = y * prL l * x; rw [ih, Int.mul_assoc]
theorem nr (n:Nat) (g:Nat→Int):prZ n g=prL (lst n g):=by
 induction n with
 | zero => rfl
 | succ n ih => rw [fD, Bm, ← ih]; rfl
theorem sU {l m:List Int} (h:l.Perm m):prL l=prL m:=by
 induction h with
 | nil => rfl
 | cons x h ih => show x * prL _ = x * prL _; rw [ih]
 | swap x y l => show y * (x * prL l) = x * (y * prL l); rw [← Int.mul_assoc, ← Int.mul_assoc, Int.mul_comm y x]
 | trans h1 h2 ih1 ih2 => exact ih1.trans ih2
theorem sV (n:Nat) (g:Nat→Int):prZ n (dI n g)=prZ n g:=by
 rw [nr,nr]; exact sU (e8 g (Nat.le_refl n))
end Tor
end
section
namespace Tor
open Go Go.RowKit Go.Proofs
def eS (c:Nat) (f:Nat→Int):Nat:=(bh c (fun k=>f k*f k)).natAbs
theorem kP (x:Int):0≤x*x:=by
 rw [← Int.natAbs_mul_self (a:=x)]; exact Int.natCast_nonneg _
theorem rf (c:Nat) (f:Nat→Int):0≤bh c (fun k=>f k*f k):=by
 induction c with
 | zero => exact Int.le_refl _
 | succ c ih =>
  show 0≤bh c (fun k=>f k*f k)+f c*f c
  have:=kP (f c)
  omega
theorem vN (c:Nat) (f:Nat→Int):((eS c f:Nat):Int)=bh c (fun k=>f k*f k):=Int.natAbs_of_nonneg (rf c f)
def isq:Nat→Nat
 | 0 => 0
 | a + 1 => if (isq a + 1) * (isq a + 1) ≤ a + 1 then isq a + 1 else isq a
theorem jM : ∀ a,isq a*isq a≤a∧a<(isq a+1)*(isq a+1)
 | 0 => ⟨by decide, by decide⟩
 | a + 1 => by
  obtain ⟨h1,h2⟩:=jM a
  show (if (isq a+1)*(isq a+1)≤a+1 then isq a+1 else isq a)*(if (isq a+1)*(isq a+1)≤a+1 then isq a+1 else isq a)≤a+1∧a+1<((if (isq a+1)*(isq a+1)≤a+1 then isq a+1 else isq a)+1)*((if (isq a+1)*(isq a+1)≤a+1 then isq a+1 else isq a)+1)
  split
  ·rename_i h
   have:(isq a+1)*(isq a+1)<(isq a+1+1)*(isq a+1+1):=Nat.mul_lt_mul'' X X
   exact ⟨h,by omega⟩
  ·exact ⟨by omega,by omega⟩
def upN (a:Nat):Nat:=if isq a*isq a<a then isq a+1 else isq a
theorem C6 (a:Nat):a≤upN a*upN a:=by
 have:=jM a
 unfold upN;split <;> omega
theorem C7 {a:Nat} (h:0<upN a):(upN a - 1)*(upN a - 1)<a:=by
 have h1:=jM a
 unfold upN at *
 split
 ·rename_i h2;rw [Nat.add_sub_cancel]; exact h2
 ·rename_i h2
  rw [if_neg h2] at h
  have:(isq a - 1)*(isq a - 1)<isq a*isq a:=Nat.mul_lt_mul'' X X
  omega
theorem C8 (a:Nat):isq a≤a:=by
 have h:=(jM a).1
 rcases Nat.eq_zero_or_pos (isq a) with h0 | h0
 ·omega
 ·exact Nat.le_trans (Nat.le_mul_of_pos_right _ h0) h
theorem zv {x:Int} (h:x.natAbs≤2^810):bm x:=cA h (Nat.pow_lt_pow_right (a:=2) (m:=810) (n:=2048) S S)
theorem zw {a:Nat} (h:a<2^800):a≤2^810:=Nat.le_of_lt (Nat.lt_of_lt_of_le h (Nat.pow_le_pow_right (n:=2) (i:=800) (j:=810) S S))
def prN:Nat→(Nat→Nat)→Nat
 | 0, _ => 1
 | n + 1, g => prN n g * g n
theorem l3 (n:Nat) (g:Nat→Nat):((prN n g:Nat):Int)=prZ n (fun i=>(g i:Int)):=by
 induction n with
 | zero => rfl
 | succ n ih => rw [prN, prZ, Int.natCast_mul, ih]
theorem rg {B n:Nat} {g:Nat→Nat} (h : ∀ i,i<n→g i≤B) : ∀ k,k≤n→prN k g≤B^k
 | 0, _ => Nat.le_refl _
 | k + 1, hk => by rw [prN, Nat.pow_succ]; exact Nat.mul_le_mul (rg h k X) (h k X)
theorem zx {B n:Nat} {g:Nat→Nat} (hB:1≤B) (hn:B^n<2^800) (h : ∀ i,i<n→g i≤B) {k:Nat} (hk:k≤n):prN k g<2^800 :=
 Nat.lt_of_le_of_lt (Nat.le_trans (rg h k hk) (Nat.pow_le_pow_right hB hk)) hn
theorem D1 {B n:Nat} (hB:1≤B) (hn:B^n<2^800) (h:0<n):B<2^800:=by
 have:=Nat.pow_le_pow_right hB (show 1≤n from h)
 rw [Nat.pow_one] at this
 exact Nat.lt_of_le_of_lt this hn
theorem xa {x:Int} {n:Nat} (h:x=(n:Int)):VT.le (aL x) (aL (n:Int)):=h▸VT.le_refl _
attribute [local irreducible] J PJ aJ one slT bQ bC bv exT bZ eP aP aI slV VT.le Ret bJ
attribute [local irreducible] aL
end Tor
end
