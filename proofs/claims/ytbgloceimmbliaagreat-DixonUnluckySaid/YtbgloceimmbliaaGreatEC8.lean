/-
  Theorems that the proofs of laws of this seat rest on.
  No condition.
-/
import Derived.Test.YtbgloceimmbliaaGreatEC7
set_option maxHeartbeats 20000000
set_option linter.unusedVariables false
set_option linter.unusedSimpArgs false
section
namespace Tor
open Go Go.RowKit Go.Proofs
def uw (p:Nat):Prop := ∀ x,x<p→x≠0→(x^(p - 2) % p)*x % p=1
def uy (p n:Nat) (F:Nat→Nat→Int):Prop := ∀ u:Nat→Int,(∀ h,h<n→(p:Int)∣bA n (fun j=>F h j*u j)) → ∀ j,j<n→(p:Int)∣u j
abbrev CX (p n:Nat) (F:Nat→Nat→Int):Type := { s:(Nat→Nat) × (Nat→Nat) × (Nat→Nat→Nat) // EchI p n F n s.2.2 }
abbrev DH (sv:Option Nat) (cap k:Nat):Own:=aI sv 3 .one cap k (fun q=>one (.int .i64 (q:Nat)))
theorem Bj:VT.le (one (.slice none 0 0)) (one (slV none 0 0)):=aq Y
theorem my {sv:Option Nat} {T:TypeId} {cap c j:Nat} {G Ef:Nat→Nat} : Own.le (aI sv T .one cap c (upd (fun q=>one (.int .u64 ((if q<j then G q else Ef q:Nat)))) j (one (.int .u64 (G j:Nat))))) (aI sv T .one cap c (fun q=>one (.int .u64 ((if q<j+1 then G q else Ef q:Nat))))):=bh fun q _=>by
 unfold upd
 by_cases h:q=j
 ·subst h;rw [if_pos Y,if_pos (Nat.lt_succ_self q)]
 ·rw [if_neg h]
  dsimp only
  by_cases h2:q<j
  ·rw [if_pos h2,if_pos X]
  ·rw [if_neg h2,if_neg X]
theorem zj (a b c:Own) (l:Mem):(a :: b :: c :: l).Perm ([c,b] ++ (a :: l)) :=
 ((List.Perm.swap c b l).cons a).trans ((List.Perm.swap c a (b :: l)).trans ((List.Perm.swap b a l).cons c))
theorem CY {c n h p v:Nat} {B C:Nat→Nat} {W:Nat→Nat→Nat} : Own.le (rwO 44 .one c n B C (fun a q=>one (.int .u64 ((if a<h then ij p v h W a q else W a q:Nat)))) (fun q=>if q=h then true else false)) (rwO 44 .one c n B C (fun a q=>one (.int .u64 ((if a<h+1 then ij p v h W a q else W a q:Nat)))) (fun q=>if q=h then true else false)) :=
 kJ (fun _ _=>rfl) (fun _ _ _=>⟨rfl,rfl⟩) fun a q _ ha _=>by
  have:a≠h:=fun e=>by rw [if_pos e] at ha;cases ha
  by_cases h2:a<h
  ·rw [if_pos h2,if_pos X]; exact VT.le_refl _
  ·rw [if_neg h2,if_neg X]; exact VT.le_refl _
theorem zk (a b c:Own) (l:Mem):(a :: b :: c :: l).Perm (c :: b :: a :: l) :=
 ((List.Perm.swap c b l).cons a).trans ((List.Perm.swap c a (b :: l)).trans ((List.Perm.swap b a l).cons c))
theorem DI {c n h k p v:Nat} {B C:Nat→Nat} {W:Nat→Nat→Nat} (hne : ¬ h=k):Own.le (rwO 44 .one c n (fun q=>if q=h then B h else B q) (fun q=>if q=h then C h else C q) (fun q=>if q=h then (fun j=>one (.int .u64 ((W h j+(0+p - W h k) % p*(v*W k j % p) % p) % p:Nat))) else (fun j=>one (.int .u64 ((if q<h then ij p v k W q j else W q j:Nat))))) (fun q=>if q=h then false else (if q=h then true else (if q=k then true else false)))) (rwO 44 .one c n B C (fun a q=>one (.int .u64 ((if a<h+1 then ij p v k W a q else W a q:Nat)))) (fun q=>if q=k then true else false)) :=
 kJ (fun q _=>by
  by_cases e:q=h
  ·rw [if_pos e,if_neg X]
  ·rw [if_neg e,if_neg e]) (fun q _ _=>by
  by_cases e:q=h
  ·rw [if_pos e,if_pos e,e]; exact ⟨rfl,rfl⟩
  ·rw [if_neg e,if_neg e]; exact ⟨rfl,rfl⟩) fun q j _ _ _=>by
  by_cases e:q=h
  ·subst e;rw [if_pos Y,if_pos (Nat.lt_succ_self q)]; unfold ij;rw [if_neg hne]; exact VT.le_refl _
  ·rw [if_neg e]
   by_cases h2:q<h
   ·rw [if_pos h2,if_pos X]; exact VT.le_refl _
   ·rw [if_neg h2,if_neg X]; exact VT.le_refl _
theorem DJ {c n h k p v:Nat} {B C:Nat→Nat} {W:Nat→Nat→Nat} (hn:h=n):Own.le (rwO 44 .one c n (fun q=>if q=k then B k else B q) (fun q=>if q=k then C k else C q) (fun q=>if q=k then (fun j=>one (.int .u64 ((v*W k j % p:Nat)))) else (fun j=>one (.int .u64 ((if q<h then ij p v k W q j else W q j:Nat))))) (fun q=>if q=k then false else (if q=k then true else false))) (oD c n B C (ij p v k W) (fun _=>false)) :=
 kJ (fun q _=>by
  by_cases e:q=k
  ·rw [if_pos e]
  ·rw [if_neg e,if_neg e]) (fun q _ _=>by
  by_cases e:q=k
  ·rw [if_pos e,if_pos e,e]; exact ⟨rfl,rfl⟩
  ·rw [if_neg e,if_neg e]; exact ⟨rfl,rfl⟩) fun q j hq _ _=>by
  by_cases e:q=k
  ·subst e;rw [if_pos Y]; unfold xa ij;rw [if_pos Y]; exact VT.le_refl _
  ·rw [if_neg e,if_pos X]; exact VT.le_refl _
theorem xe {sv:Option Nat} {cap k:Nat} : Own.le (aI sv 3 .one cap (k+1) (fun q=>if q<k then one (.int .i64 (q:Nat)) else one (.int .i64 (k:Nat)))) (DH sv cap (k+1)):=bh fun q hq=>by
 by_cases h:q<k
 ·rw [if_pos h]
 ·rw [if_neg h,show q=k by omega]
theorem Bk {bz n c i k:Nat} {B C:Nat→Nat} : Own.le (aI (some bz) 173 .one n n (upd (upd (fun q=>one (slV (some (B q)) c (C q))) k (one (slV (some (B i)) c (C i)))) i (one (slV (some (B k)) c (C k))))) (sM bz n c (swp i k B) (swp i k C)):=bh fun q _=>by
 unfold upd swp
 by_cases h1:q=i
 ·rw [if_pos h1,if_pos h1,if_pos h1]
 ·rw [if_neg h1,if_neg h1,if_neg h1]
  by_cases h2:q=k
  ·rw [if_pos h2,if_pos h2,if_pos h2]
  ·rw [if_neg h2,if_neg h2,if_neg h2]
theorem zm {n c i k:Nat} {B C:Nat→Nat} {W:Nat→Nat→Nat} : Own.le (rwO 44 .one c n B C (swp i k (xa W)) (fun _=>false)) (oD c n B C (swp i k W) (fun _=>false)):=kJ (fun _ _=>rfl) (fun _ _ _=>⟨rfl,rfl⟩) fun q j _ _ _=>by
 show VT.le (swp i k (xa W) q j) (one (.int .u64 (swp i k W q j:Nat)))
 unfold swp
 split
 ·exact VT.le_refl _
 ·split <;> exact VT.le_refl _
attribute [local irreducible] J PJ aK one slT bR bC bv exT cj eP aT aI slV VT.le Ret bL
attribute [local irreducible] rwO
theorem uz (p n bz:Nat) (F:Nat→Nat→Int) (B C:Nat→Nat) (W:Nat→Nat→Nat) (hp2:2≤p) (hp:p<2147483648) (hinv:uw p) (hF:uy p n F) (hn:n≤1024) (h0:EchI p n F 0 W) :
  OkI (σ:=CX p n F) Tryz.prog 162 [one (.int .u64 (p:Nat)),one (slV (some bz) n n),one (.int .i64 ((n+n:Nat):Int))] [sM bz n (n+n) B C,oD (n+n) n B C W (fun _=>false)]
   (fun s=>slT .one n (fun q=>one (.int .i64 (q:Nat)))) (fun s => [sM bz n (n+n) s.1.1 s.1.2.1,oD (n+n) n s.1.1 s.1.2.1 s.1.2.2 (fun _=>false)]):=by
 refine OkI.enter Tryz.func162 Y Tryz.ntmps162 Y (fun w O => ?_)
 refine gc (ConvM.nilSl0 (T:=3) (L := .one) (φ:=fun q=>one (.int .i64 (q:Nat))) _) ?_
 refine gc (.ofPerm (List.perm_append_comm (l₁ := [_]) (l₂ := [_,_]))) (ae (ai (En Y (Ep (aa (ae (ai (En Y (Ep ?_)))))))))
 refine aa (ae (ae (ai (En Y (Ep (aa (au (lc (t:=7) (ψ:=one (slV none 0 0)) Y Bj (co (Γ' := [(0,_),(1,_),(2,_),(6,_),(7,_),(8,_)]) Eg (SubM.refl _) ?_)))))))))
 refine bB (σ:=Nat × (Nat→Nat) × (Nat→Nat) × (Nat→Nat→Nat) × Option Nat × Nat) (Γk := [(0,_),(1,_),(2,_),(6,_)]) Eg (fun s => [(8,one (.int .i64 (s.1:Nat))),(7,one (slV s.2.2.2.2.1 s.1 s.2.2.2.2.2))]) (fun s M0=>(((M0.set 0 (sM bz n (n+n) s.2.1 s.2.2.1)).set 1 (oD (n+n) n s.2.1 s.2.2.1 s.2.2.2.1 (fun _=>false))).set 2 (DH s.2.2.2.2.1 s.2.2.2.2.2 s.1))) (fun s=>s.1≤n∧EchI p n F s.1 s.2.2.2.1) (fun s=>n - s.1) ((0,B,C,W,none,0)) (⟨Nat.zero_le _,h0⟩) Eh (.keep Ek (.keep Ek (.keep Ek (.nil)))) (fun s hs => ?_)
 refine bQ (Γ' := [(8,_),(7,_),(0,_),(1,_),(2,_),(6,_)]) (M' := [_,_,_]) Y Y ?_
 obtain ⟨k,B,C,W,sv,cap⟩:=s
 obtain ⟨hk,hI⟩:=hs
 dsimp only at hk hI ⊢
 by_cases hkn:k<n
 ·obtain ⟨i,hf⟩:=hI.first hp2 hkn hF
  obtain ⟨f1,f2,f3,f4⟩:=hf
  have hse:=xd bz n (n+n) k k i B C W X X ⟨f1,f2,f3,f4⟩
  refine ae (ae (ai (Em Y (Em Y (El (sT X (a6 Y Y)) (Em Y (Eo (ab Y) (Eo (cw Y) (Eo (ab Y) ?_)))))))))
  refine Eo (cw Y) (Eo (sT X (a6 Y Y)) (El (bk Y Y) (Ep (aa (aG Y (az (aa (ae (au ?_)))))))))
  refine ae (ai (Em Y (El (cw Y) (En Y (Ep (aa (ae (ai (Em Y ?_)))))))))
  refine Em Y (Em Y ?_)
  refine gy (Min := [_,_]) (Kp := [_]) hse Y ⟨H,H,H,Er⟩ (List.Perm.refl _) Y Y (fun _ => ?_)
  refine En Y (Ep (aa (ae (ae (ai (Em Y (El (sF X (a6 Y Y)) (Ep (aa ?_)))))))))
  refine aB Y (az (aa (ae ?_)))
  apply iD (Γ1 := [(0,_),(1,_),(2,_),(6,_),(7,_),(8,_),(9,_)]) (M1 := [_,_,_]) 12 7 [2,3] [] aZ Z S
  ·refine Em Y (Em Y (Em Y (Em Y (Em Y (Em Y (El (ao Y Y X) (El (bg 0 Y Y X) (Em Y (Em Y ?_)))))))))
   refine El (ao Y Y X) (El (bg 0 Y Y X) (Ep ?_))
   refine ys (Γa := [(0,_),(1,_),(2,_),(6,_),(7,_),(8,_),(9,_),(10,_),(37,_),(38,_),(44,_),(48,_)]) (Γb := [(0,_),(1,_),(2,_),(6,_),(7,_),(8,_),(9,_),(10,_),(37,_),(38,_),(44,_),(48,_),(40,_)]) (Γc := [(0,_),(1,_),(2,_),(6,_),(7,_),(8,_),(9,_),(10,_),(37,_),(38,_),(44,_),(48,_),(39,_)]) (Γd := [(0,_),(1,_),(2,_),(6,_),(7,_),(8,_),(9,_),(10,_),(37,_),(38,_),(44,_),(48,_),(39,_),(40,_)]) (rem := [12,13,14,15]) Y Ej Y Ej Y Ej Y Ej Y ?_ ?_ ?_ ?_
   ·refine eA (r1 := [3,12,13,14,15]) (r2 := [2,12,13,14,15]) (r3 := [2,3,13,14,15]) (i:=2) (j:=3) (k:=12) Z Y Y Y Y Y Y ?_ ?_ ?_ iC.nil
    refine Em Y (Ep ?_)
    refine ⟨rfl,?_⟩
    refine bM (rem' := [12,13,14,15]) (rem'' := [3,13,14,15]) (i:=3) (j:=12) Z Y Y Y Y ?_ ?_ iC.nil
    refine Em Y (Ep ?_)
    refine ⟨rfl,?_⟩
    refine an (rem' := [13,14,15]) (i:=12) Z Y Y ?_ iC.nil
    refine El (ao Y Y X) (Ep ?_)
    refine ⟨rfl,?_⟩
    refine an (rem' := [14,15]) (i:=13) Z Y Y ?_ iC.nil
    (refine aw 0 Y Y Y ?_ Y ?_;omega)
    refine Ep ?_
    refine ⟨rfl,?_⟩
    refine an (rem' := [15]) (i:=14) Z Y Y ?_ iC.nil
    refine El (ao Y Y X) (Ep ?_)
    refine ⟨rfl,?_⟩
    refine an (rem' := []) (i:=15) Z Y Y ?_ iC.nil
    (refine aw 0 Y Y Y ?_ Y ?_;omega)
    refine Ep ?_
    refine ⟨rfl,?_⟩
    refine aU Ej (SubM.refl _) iC.nil
    refine El (ao Y Y X) (Ep ?_)
    refine ⟨rfl,?_⟩
    refine bM (rem' := [13,14,15]) (rem'' := [3,14,15]) (i:=3) (j:=13) Z Y Y Y Y ?_ ?_ iC.nil
    refine Em Y (Ep ?_)
    refine ⟨rfl,?_⟩
    refine an (rem' := [14,15]) (i:=13) Z Y Y ?_ iC.nil
    (refine aw 0 Y Y Y ?_ Y ?_;omega)
    refine Ep ?_
    refine ⟨rfl,?_⟩
    refine an (rem' := [15]) (i:=14) Z Y Y ?_ iC.nil
    refine El (ao Y Y X) (Ep ?_)
    refine ⟨rfl,?_⟩
    refine an (rem' := []) (i:=15) Z Y Y ?_ iC.nil
    (refine aw 0 Y Y Y ?_ Y ?_;omega)
    refine Ep ?_
    refine ⟨rfl,?_⟩
    refine aU Ej (SubM.refl _) iC.nil
    (refine aw 0 Y Y Y ?_ Y ?_;omega)
    refine Ep ?_
    refine ⟨rfl,?_⟩
    refine an (rem' := [14,15]) (i:=3) Z Y Y ?_ iC.nil
    refine Em Y (Ep ?_)
    refine ⟨rfl,?_⟩
    refine an (rem' := [15]) (i:=14) Z Y Y ?_ iC.nil
    refine El (ao Y Y X) (Ep ?_)
    refine ⟨rfl,?_⟩
    refine an (rem' := []) (i:=15) Z Y Y ?_ iC.nil
    (refine aw 0 Y Y Y ?_ Y ?_;omega)
    refine Ep ?_
    refine ⟨rfl,?_⟩
    refine aU Ej (SubM.refl _) iC.nil
    refine Em Y (Ep ?_)
    refine ⟨rfl,?_⟩
    refine bM (rem' := [12,13,14,15]) (rem'' := [2,13,14,15]) (i:=2) (j:=12) Z Y Y Y Y ?_ ?_ iC.nil
    refine Em Y (Ep ?_)
    refine ⟨rfl,?_⟩
    refine an (rem' := [13,14,15]) (i:=12) Z Y Y ?_ iC.nil
    refine El (ao Y Y X) (Ep ?_)
    refine ⟨rfl,?_⟩
    refine an (rem' := [14,15]) (i:=13) Z Y Y ?_ iC.nil
    (refine aw 0 Y Y Y ?_ Y ?_;omega)
    refine Ep ?_
    refine ⟨rfl,?_⟩
    refine an (rem' := [15]) (i:=14) Z Y Y ?_ iC.nil
    refine El (ao Y Y X) (Ep ?_)
    refine ⟨rfl,?_⟩
    refine an (rem' := []) (i:=15) Z Y Y ?_ iC.nil
    (refine aw 0 Y Y Y ?_ Y ?_;omega)
    refine Ep ?_
    refine ⟨rfl,?_⟩
    refine aU Ej (SubM.refl _) iC.nil
    refine El (ao Y Y X) (Ep ?_)
    refine ⟨rfl,?_⟩
    refine bM (rem' := [13,14,15]) (rem'' := [2,14,15]) (i:=2) (j:=13) Z Y Y Y Y ?_ ?_ iC.nil
    refine Em Y (Ep ?_)
    refine ⟨rfl,?_⟩
    refine an (rem' := [14,15]) (i:=13) Z Y Y ?_ iC.nil
    (refine aw 0 Y Y Y ?_ Y ?_;omega)
    refine Ep ?_
    refine ⟨rfl,?_⟩
    refine an (rem' := [15]) (i:=14) Z Y Y ?_ iC.nil
    refine El (ao Y Y X) (Ep ?_)
    refine ⟨rfl,?_⟩
    refine an (rem' := []) (i:=15) Z Y Y ?_ iC.nil
    (refine aw 0 Y Y Y ?_ Y ?_;omega)
    refine Ep ?_
    refine ⟨rfl,?_⟩
    refine aU Ej (SubM.refl _) iC.nil
    (refine aw 0 Y Y Y ?_ Y ?_;omega)
    refine Ep ?_
    refine ⟨rfl,?_⟩
    refine an (rem' := [14,15]) (i:=2) Z Y Y ?_ iC.nil
    refine Em Y (Ep ?_)
    refine ⟨rfl,?_⟩
    refine an (rem' := [15]) (i:=14) Z Y Y ?_ iC.nil
    refine El (ao Y Y X) (Ep ?_)
    refine ⟨rfl,?_⟩
    refine an (rem' := []) (i:=15) Z Y Y ?_ iC.nil
    (refine aw 0 Y Y Y ?_ Y ?_;omega)
    refine Ep ?_
    refine ⟨rfl,?_⟩
    refine aU Ej (SubM.refl _) iC.nil
    refine El (ao Y Y X) (Ep ?_)
    refine ⟨rfl,?_⟩
    refine eA (r1 := [3,13,14,15]) (r2 := [2,13,14,15]) (r3 := [2,3,14,15]) (i:=2) (j:=3) (k:=13) Z Y Y Y Y Y Y ?_ ?_ ?_ iC.nil
    refine Em Y (Ep ?_)
    refine ⟨rfl,?_⟩
    refine bM (rem' := [13,14,15]) (rem'' := [3,14,15]) (i:=3) (j:=13) Z Y Y Y Y ?_ ?_ iC.nil
    refine Em Y (Ep ?_)
    refine ⟨rfl,?_⟩
    refine an (rem' := [14,15]) (i:=13) Z Y Y ?_ iC.nil
    (refine aw 0 Y Y Y ?_ Y ?_;omega)
    refine Ep ?_
    refine ⟨rfl,?_⟩
    refine an (rem' := [15]) (i:=14) Z Y Y ?_ iC.nil
    refine El (ao Y Y X) (Ep ?_)
    refine ⟨rfl,?_⟩
    refine an (rem' := []) (i:=15) Z Y Y ?_ iC.nil
    (refine aw 0 Y Y Y ?_ Y ?_;omega)
    refine Ep ?_
    refine ⟨rfl,?_⟩
    refine aU Ej (SubM.refl _) iC.nil
    (refine aw 0 Y Y Y ?_ Y ?_;omega)
    refine Ep ?_
    refine ⟨rfl,?_⟩
    refine an (rem' := [14,15]) (i:=3) Z Y Y ?_ iC.nil
    refine Em Y (Ep ?_)
    refine ⟨rfl,?_⟩
    refine an (rem' := [15]) (i:=14) Z Y Y ?_ iC.nil
    refine El (ao Y Y X) (Ep ?_)
    refine ⟨rfl,?_⟩
    refine an (rem' := []) (i:=15) Z Y Y ?_ iC.nil
    (refine aw 0 Y Y Y ?_ Y ?_;omega)
    refine Ep ?_
    refine ⟨rfl,?_⟩
    refine aU Ej (SubM.refl _) iC.nil
    refine Em Y (Ep ?_)
    refine ⟨rfl,?_⟩
    refine bM (rem' := [13,14,15]) (rem'' := [2,14,15]) (i:=2) (j:=13) Z Y Y Y Y ?_ ?_ iC.nil
    refine Em Y (Ep ?_)
    refine ⟨rfl,?_⟩
    refine an (rem' := [14,15]) (i:=13) Z Y Y ?_ iC.nil
    (refine aw 0 Y Y Y ?_ Y ?_;omega)
    refine Ep ?_
    refine ⟨rfl,?_⟩
    refine an (rem' := [15]) (i:=14) Z Y Y ?_ iC.nil
    refine El (ao Y Y X) (Ep ?_)
    refine ⟨rfl,?_⟩
    refine an (rem' := []) (i:=15) Z Y Y ?_ iC.nil
    (refine aw 0 Y Y Y ?_ Y ?_;omega)
    refine Ep ?_
    refine ⟨rfl,?_⟩
    refine aU Ej (SubM.refl _) iC.nil
    (refine aw 0 Y Y Y ?_ Y ?_;omega)
    refine Ep ?_
    refine ⟨rfl,?_⟩
    refine an (rem' := [14,15]) (i:=2) Z Y Y ?_ iC.nil
    refine Em Y (Ep ?_)
    refine ⟨rfl,?_⟩
    refine an (rem' := [15]) (i:=14) Z Y Y ?_ iC.nil
    refine El (ao Y Y X) (Ep ?_)
    refine ⟨rfl,?_⟩
    refine an (rem' := []) (i:=15) Z Y Y ?_ iC.nil
    (refine aw 0 Y Y Y ?_ Y ?_;omega)
    refine Ep ?_
    refine ⟨rfl,?_⟩
    refine aU Ej (SubM.refl _) iC.nil
    (refine aw 0 Y Y Y ?_ Y ?_;omega)
    refine Ep ?_
    refine ⟨rfl,?_⟩
    refine bM (rem' := [3,14,15]) (rem'' := [2,14,15]) (i:=2) (j:=3) Z Y Y Y Y ?_ ?_ iC.nil
    refine Em Y (Ep ?_)
    refine ⟨rfl,?_⟩
    refine an (rem' := [14,15]) (i:=3) Z Y Y ?_ iC.nil
    refine Em Y (Ep ?_)
    refine ⟨rfl,?_⟩
    refine an (rem' := [15]) (i:=14) Z Y Y ?_ iC.nil
    refine El (ao Y Y X) (Ep ?_)
    refine ⟨rfl,?_⟩
    refine an (rem' := []) (i:=15) Z Y Y ?_ iC.nil
    (refine aw 0 Y Y Y ?_ Y ?_;omega)
    refine Ep ?_
    refine ⟨rfl,?_⟩
    refine aU Ej (SubM.refl _) iC.nil
    refine Em Y (Ep ?_)
    refine ⟨rfl,?_⟩
    refine an (rem' := [14,15]) (i:=2) Z Y Y ?_ iC.nil
    refine Em Y (Ep ?_)
    refine ⟨rfl,?_⟩
    refine an (rem' := [15]) (i:=14) Z Y Y ?_ iC.nil
    refine El (ao Y Y X) (Ep ?_)
    refine ⟨rfl,?_⟩
    refine an (rem' := []) (i:=15) Z Y Y ?_ iC.nil
    (refine aw 0 Y Y Y ?_ Y ?_;omega)
    refine Ep ?_
    refine ⟨rfl,?_⟩
    refine aU Ej (SubM.refl _) iC.nil
   ·refine bM (rem' := [12,13,14,15]) (rem'' := [2,13,14,15]) (i:=2) (j:=12) Z Y Y Y Y ?_ ?_ iC.nil
    refine Em Y (Ep ?_)
    refine ⟨rfl,?_⟩
    refine an (rem' := [13,14,15]) (i:=12) Z Y Y ?_ iC.nil
    refine El (ao Y Y X) (Ep ?_)
    refine ⟨rfl,?_⟩
    refine an (rem' := [14,15]) (i:=13) Z Y Y ?_ iC.nil
    (refine aw 0 Y Y Y ?_ Y ?_;omega)
    refine Ep ?_
    refine ⟨rfl,?_⟩
    refine an (rem' := [15]) (i:=14) Z Y Y ?_ iC.nil
    refine El (ao Y Y X) (Ep ?_)
    refine ⟨rfl,?_⟩
    refine an (rem' := []) (i:=15) Z Y Y ?_ iC.nil
    (refine aw 0 Y Y Y ?_ Y ?_;omega)
    refine Ep ?_
    refine ⟨rfl,?_⟩
    refine aU Ej (SubM.refl _) iC.nil
    refine El (ao Y Y X) (Ep ?_)
    refine ⟨rfl,?_⟩
    refine bM (rem' := [13,14,15]) (rem'' := [2,14,15]) (i:=2) (j:=13) Z Y Y Y Y ?_ ?_ iC.nil
    refine Em Y (Ep ?_)
    refine ⟨rfl,?_⟩
    refine an (rem' := [14,15]) (i:=13) Z Y Y ?_ iC.nil
    (refine aw 0 Y Y Y ?_ Y ?_;omega)
    refine Ep ?_
    refine ⟨rfl,?_⟩
    refine an (rem' := [15]) (i:=14) Z Y Y ?_ iC.nil
    refine El (ao Y Y X) (Ep ?_)
    refine ⟨rfl,?_⟩
    refine an (rem' := []) (i:=15) Z Y Y ?_ iC.nil
    (refine aw 0 Y Y Y ?_ Y ?_;omega)
    refine Ep ?_
    refine ⟨rfl,?_⟩
    refine aU Ej (SubM.refl _) iC.nil
    (refine aw 0 Y Y Y ?_ Y ?_;omega)
    refine Ep ?_
    refine ⟨rfl,?_⟩
    refine an (rem' := [14,15]) (i:=2) Z Y Y ?_ iC.nil
    refine Em Y (Ep ?_)
    refine ⟨rfl,?_⟩
    refine an (rem' := [15]) (i:=14) Z Y Y ?_ iC.nil
    refine El (ao Y Y X) (Ep ?_)
    refine ⟨rfl,?_⟩
    refine an (rem' := []) (i:=15) Z Y Y ?_ iC.nil
    (refine aw 0 Y Y Y ?_ Y ?_;omega)
    refine Ep ?_
    refine ⟨rfl,?_⟩
    refine aU Ej (SubM.refl _) iC.nil
   ·refine bM (rem' := [12,13,14,15]) (rem'' := [3,13,14,15]) (i:=3) (j:=12) Z Y Y Y Y ?_ ?_ iC.nil
    refine Em Y (Ep ?_)
    refine ⟨rfl,?_⟩
    refine an (rem' := [13,14,15]) (i:=12) Z Y Y ?_ iC.nil
    refine El (ao Y Y X) (Ep ?_)
    refine ⟨rfl,?_⟩
    refine an (rem' := [14,15]) (i:=13) Z Y Y ?_ iC.nil
    (refine aw 0 Y Y Y ?_ Y ?_;omega)
    refine Ep ?_
    refine ⟨rfl,?_⟩
    refine an (rem' := [15]) (i:=14) Z Y Y ?_ iC.nil
    refine El (ao Y Y X) (Ep ?_)
    refine ⟨rfl,?_⟩
    refine an (rem' := []) (i:=15) Z Y Y ?_ iC.nil
    (refine aw 0 Y Y Y ?_ Y ?_;omega)
    refine Ep ?_
    refine ⟨rfl,?_⟩
    refine aU Ej (SubM.refl _) iC.nil
    refine El (ao Y Y X) (Ep ?_)
    refine ⟨rfl,?_⟩
    refine bM (rem' := [13,14,15]) (rem'' := [3,14,15]) (i:=3) (j:=13) Z Y Y Y Y ?_ ?_ iC.nil
    refine Em Y (Ep ?_)
    refine ⟨rfl,?_⟩
    refine an (rem' := [14,15]) (i:=13) Z Y Y ?_ iC.nil
    (refine aw 0 Y Y Y ?_ Y ?_;omega)
    refine Ep ?_
    refine ⟨rfl,?_⟩
    refine an (rem' := [15]) (i:=14) Z Y Y ?_ iC.nil
    refine El (ao Y Y X) (Ep ?_)
    refine ⟨rfl,?_⟩
    refine an (rem' := []) (i:=15) Z Y Y ?_ iC.nil
    (refine aw 0 Y Y Y ?_ Y ?_;omega)
    refine Ep ?_
    refine ⟨rfl,?_⟩
    refine aU Ej (SubM.refl _) iC.nil
    (refine aw 0 Y Y Y ?_ Y ?_;omega)
    refine Ep ?_
    refine ⟨rfl,?_⟩
    refine an (rem' := [14,15]) (i:=3) Z Y Y ?_ iC.nil
    refine Em Y (Ep ?_)
    refine ⟨rfl,?_⟩
    refine an (rem' := [15]) (i:=14) Z Y Y ?_ iC.nil
    refine El (ao Y Y X) (Ep ?_)
    refine ⟨rfl,?_⟩
    refine an (rem' := []) (i:=15) Z Y Y ?_ iC.nil
    (refine aw 0 Y Y Y ?_ Y ?_;omega)
    refine Ep ?_
    refine ⟨rfl,?_⟩
    refine aU Ej (SubM.refl _) iC.nil
   ·refine an (rem' := [13,14,15]) (i:=12) Z Y Y ?_ iC.nil
    refine El (ao Y Y X) (Ep ?_)
    refine ⟨rfl,?_⟩
    refine an (rem' := [14,15]) (i:=13) Z Y Y ?_ iC.nil
    (refine aw 0 Y Y Y ?_ Y ?_;omega)
    refine Ep ?_
    refine ⟨rfl,?_⟩
    refine an (rem' := [15]) (i:=14) Z Y Y ?_ iC.nil
    refine El (ao Y Y X) (Ep ?_)
    refine ⟨rfl,?_⟩
    refine an (rem' := []) (i:=15) Z Y Y ?_ iC.nil
    (refine aw 0 Y Y Y ?_ Y ?_;omega)
    refine Ep ?_
    refine ⟨rfl,?_⟩
    refine aU Ej (SubM.refl _) iC.nil
  ·refine fm (ConvM.le Bk) (fm (ConvM.cons (yA f2 hkn)) ?_)
   have hI':=hI.swap hkn f2 f1
   have hnz:swp i k W k k≠0:=by rw [gT]; exact f3
   refine fm (ConvM.cons (ConvM.le zm)) ?_
   generalize swp i k W=W' at *
   generalize swp i k B=B' at *
   generalize swp i k C=C' at *
   have hWk:W' k k<p:=hI'.lt k k hkn X
   have hin:=A7 p (W' k k) hp2 X hnz hWk
   have hin1:=hinv (W' k k) hWk hnz
   have hinlt:W' k k^(p - 2) % p<p:=Nat.mod_lt _ X
   generalize W' k k^(p - 2) % p=v at *
   refine aa (ae (ai (Em Y (Em Y (Em Y (El (ao Y Y X) (El (bg 0 Y Y X) (Em Y (El (ao Y Y X) ?_)))))))))
   refine El (oc 1 Y Y X Y X) ?_
   refine El (am (hin) Y ⟨H,H,Er⟩) ?_
   refine Em Y (El (ar Y Y) (El (ar Y Y) (En Y (En Y (Ep (aa (ae (ae (ai ?_)))))))))
   refine Em Y (Em Y (El (ao Y Y X) (El (bg 0 Y Y X) (El (cw Y) (Em Y (Ep (aa (au (gc (ConvM.cons (lH hkn Y)) ?_)))))))))
   refine co (Γ' := [(0,_),(1,_),(2,_),(6,_),(7,_),(8,_),(9,_),(11,_),(66,_),(67,_),(68,_)]) Eg (SubM.refl _) ?_
   refine bB (σ:=Nat) (Γk := [(0,_),(1,_),(2,_),(6,_),(7,_),(8,_),(9,_),(11,_),(66,_),(67,_)]) Eg (fun j => [(68,one (.int .i64 (j:Nat)))]) (fun j M0=>(M0.set 1 (aI (some (B' k)) 44 .one (C' k) (n+n) (fun q=>one (.int .u64 ((if q<j then v*W' k q % p else W' k q:Nat))))))) (fun j=>j≤n+n) (fun j=>n+n - j) (0) (Nat.zero_le _) Eh (.keep Ek (.keep Ek (.keep Ek (.keep Ek (.nil))))) (fun j hj => ?_)
   refine bQ (Γ' := [(68,_),(0,_),(1,_),(2,_),(6,_),(7,_),(8,_),(9,_),(11,_),(66,_),(67,_)]) (M' := [_,_,_,_]) Y Y ?_
   by_cases hj2:j<n+n
   ·have h1:=hI'.lt k j hkn hj2
    have hmu:=it p v (W' k j) X X X X
    refine ae (ai (El (sT X (a6 Y Y)) (Ep (aa (ae (aG Y (az (aa (ae ?_)))))))))
    refine au (ae (ai (Em Y (El (ao Y Y X) (El (bg 1 Y Y X) (En Y (En Y (Ep (aa ?_)))))))))
    refine a7 9 aZ Z S (Em Y (Em Y (El (ao Y Y X) (El (bg 0 Y Y X) (Em Y (Em Y (Em Y (Em Y ?_))))))))
    refine El (am (hmu) Y ⟨H,H,(aq (by rw [if_neg (Nat.lt_irrefl j)])),Er⟩) ?_
    refine Ep (El (ao Y Y X) ?_)
    (refine aw 1 Y Y Y ?_ Y ?_;omega)
    refine Ep (aE (aa (ai (El (bK _ 1 Y Y X) (Em Y (Ep ?_))))))
    refine aP (j+1) X X Eh (.keep Ek (.keep (my) (.keep Ek (.keep Ek (.nil)))))
   ·have hjn:j=n+n:=by omega
    refine ae (ai (El (sF X (a6 Y Y)) (Ep (aa (ae (aB Y (aY (av (av ?_)))))))))
    refine aF (aa (ae (ae (ai (Em Y (El (cw Y) (Em Y (Ep (aa ?_)))))))))
    refine au ?_
    refine gc (ConvM.cons (ConvM.le (b:=aI (some (B' k)) 44 .one (C' k) (n+n) (fun q=>one (.int .u64 (v*W' k q % p:Nat)))) (bh fun q hq=>by rw [if_pos X]))) ?_
    refine co (Γ' := [(0,_),(1,_),(2,_),(6,_),(7,_),(8,_),(9,_),(84,_),(85,_),(86,_)]) Eg (SubM.refl _) ?_
    refine bB (σ:=Nat) (Γk := [(0,_),(1,_),(2,_),(6,_),(7,_),(8,_),(9,_),(84,_),(85,_)]) Eg (fun h => [(86,one (.int .i64 (h:Nat)))]) (fun h M0=>(M0.set 2 (rwO 44 .one (n+n) n B' C' (fun a q=>one (.int .u64 ((if a<h then ij p v k W' a q else W' a q:Nat)))) (fun q=>if q=k then true else false)))) (fun h=>h≤n) (fun h=>n - h) (0) (Nat.zero_le _) Eh (.keep Ek (.keep Ek (.keep Ek (.keep Ek (.nil))))) (fun h hh => ?_)
    refine bQ (Γ' := [(86,_),(0,_),(1,_),(2,_),(6,_),(7,_),(8,_),(9,_),(84,_),(85,_)]) (M' := [_,_,_,_]) Y Y ?_
    by_cases hh2:h<n
    ·by_cases hhk:h=k
     ·subst hhk
      refine ae (ai (El (sT X (a6 Y Y)) (Ep (aa (ae (aG Y (az (aa (ae ?_)))))))))
      refine au (ae (ai (Em Y (El (ao Y Y X) (El (bg 0 Y Y X) (En Y (En Y (Ep (aa ?_)))))))))
      refine ae (ai (Em Y (Em Y (El (sF X (dy Y Y)) (Ep (aa (aB Y (az (aE ?_)))))))))
      refine aa (ai (El (bK _ 1 Y Y X) (Em Y (Ep ?_))))
      refine aP (h+1) X X Eh (.keep Ek (.keep Ek (.keep (CY) (.keep Ek (.nil)))))
     ·refine gc (ConvM.cons (ConvM.cons (lH hh2 (if_neg hhk)))) ?_
      refine gc (ConvM.cons (ConvM.cons (ConvM.le (b:=aI (some (B' h)) 44 .one (C' h) (n+n) (fun q=>one (.int .u64 (W' h q:Nat)))) (bh fun q hq=>by rw [if_neg (Nat.lt_irrefl h)])))) ?_
      have h1:=hI'.lt h k hh2 X
      have hsu:=A6 p 0 (W' h k) X X X X
      have had:=zh p (n+n) (B' h) (B' k) (C' h) (C' k) ((0+p - W' h k) % p) (W' h) (fun q=>v*W' k q % p) X X (Nat.mod_lt _ X) (fun q hq=>hI'.lt h q hh2 hq) (fun q _=>Nat.mod_lt _ X) X
      refine ae (ai (El (sT X (a6 Y Y)) (Ep (aa (ae (aG Y (az (aa (ae ?_)))))))))
      refine au (ae (ai (Em Y (El (ao Y Y X) (El (bg 0 Y Y X) (En Y (En Y (Ep (aa ?_)))))))))
      refine ae (ai (Em Y (Em Y (El (sT X (dy Y Y)) (Ep (aa (aG Y (qv 16 12 aZ Z S (Em Y ?_)))))))))
      refine Em Y (Em Y (Em Y (El (ao Y Y X) (El (bg 0 Y Y X) (Em Y (Em Y (Em Y (El (ao Y Y X) (El (bg 2 Y Y X) ?_)))))))))
      refine El (am (hsu) Y ⟨H,H,H,Er⟩) ?_
      refine Ep ?_
      refine gy (Min := [_,_]) (Kp := [_,_,_]) had Y ⟨H,H,H,H,Er⟩ (zj _ _ _ _) Y Y (fun _ => ?_)
      refine Ep (aE (aa (ai (El (bK _ 1 Y Y X) (Em Y (Ep (fm (.ofPerm (zk _ _ _ _)) (fm (ConvM.cons (ConvM.cons (lI hh2 (if_pos Y)))) ?_))))))))
      refine aP (h+1) X X Eh (.keep Ek (.keep Ek (.keep (DI hhk) (.keep Ek (.nil)))))
    ·have hhn:h=n:=by omega
     have hst:=hI'.step hp2 hkn hin1
     refine ae (ai (El (sF X (a6 Y Y)) (Ep (aa (ae (aB Y (aY (av (av ?_)))))))))
     refine aF (aa (ai (Em Y (Em Y (gv Y Y Y Y ?_)))))
     (refine cT 3 Y Y Y (leN Y) ?_ ?_ Y (ltN Y) (fun sv111 cap111 => ?_);omega;omega)
     refine En Y (Ep (aE (aa (ai (Em Y (El (bK _ 1 Y Y X) (En Y (Ep (fm (ConvM.cons (lI hkn (if_pos Y))) ?_)))))))))
     refine aP ((k+1,B',C',ij p v k W',sv111,cap111)) (⟨hkn,hst⟩) X Eh (.keep Ek (.keep (DJ hhn) (.keep (xe) (.nil))))
 ·have hkn:k=n:=by omega
  by_cases hn0:n=0
  ·refine ae (ae (ai (Em Y (Em Y (El (sF X (a6 Y Y)) (Em Y (sn0 Y Y Y Y Y (sn0 Y Y Y Y Y (sn0 Y Y Y Y Y ?_)))))))))
   refine sn0 Y Y Y Y Y (sn0 Y Y Y Y Y (El (bE Y Y) (Ep (aa (aB Y (aY (av (av (aF ?_)))))))))
   refine aa (ae (ai (Em Y (En Y (Ep (aa (aD ?_)))))))
   subst hkn
   refine cq (t:=6) (i:=2) Y Y ?_
   exact pC (⟨(B,C,W),hI⟩:CX p k F) Tryz.results162 (.tmp Y H) (SubM.refl _)
  ·refine ae (ae (ai (Em Y (Em Y (El (sT X (a6 Y Y)) (Em Y (Eo (ab Y) (Eo (cw Y) (Eo (ab Y) ?_)))))))))
   refine Eo (cw Y) (Eo (sF X (a6 Y Y)) (El (bk Y Y) (Ep (aa (aB Y (aY (av (av (aF ?_)))))))))
   refine aa (ae (ai (Em Y (En Y (Ep (aa (aD ?_)))))))
   subst hkn
   refine cq (t:=6) (i:=2) Y Y ?_
   exact pC (⟨(B,C,W),hI⟩:CX p k F) Tryz.results162 (.tmp Y H) (SubM.refl _)
end Tor
end
section
set_option linter.unusedSectionVars false
namespace Tor
open Go Go.RowKit
section
variable {P:Program} {E:Env} {ops:Array Oper}
abbrev mz (d:Nat→Nat) (V:Nat→Value) (l:List Nat):Ctx:=l.map fun j=>(d j,one (V j))
theorem p7 {d:Nat→Nat} {V:Nat→Value} {Γ:Ctx} {t:Nat} {φ:VT} : ∀ {l:List Nat},bP (mz d V l ++ Γ) t=some φ→(∃ j∈l,d j=t∧φ=one (V j))∨bP Γ t=some φ
 | [], h => .inr h
 | j :: l, h => by
  have h:bP ((d j,one (V j)) :: (mz d V l ++ Γ)) t=some φ:=h
  rw [bp] at h
  split at h
  ·rename_i e;cases h;exact .inl ⟨j,List.mem_cons_self,e,rfl⟩
  ·rcases p7 h with ⟨k,h1,h2⟩ | h2
   ·exact .inl ⟨k,List.mem_cons_of_mem _ h1,h2⟩
   ·exact .inr h2
theorem vS {D:List Deferred} {Γ:Ctx} {M:Mem} {a:Act} {w:World} {d:Nat→Nat} {V:Nat→Value} {l:List Nat} (hS:St E D Γ M a w) (h : ∀ j∈l,a.tmps.getD (d j) undef=V j):St E D (mz d V l ++ Γ) M a w :=
 ⟨hS.base,hS.sz,hS.df,fun t φ ht=>by
  rcases p7 ht with ⟨j,h1,rfl,rfl⟩ | h2
  ·exact h j h1
  ·exact hS.tm t φ h2⟩
def zn (E:Env) (D:List Deferred) (Γ:Ctx) (M:Mem) (row:Nat→Own) (n m:Nat) (d:Nat→Nat) (V:Nat→Value) (W:Nat→Value) (l:Array Bool) (a:Act) (w:World):Prop :=
 ∃ M',(l.getD m false=false∧M'=M∨l.getD m false=true ∧ ∃ b,M'=row b :: M∧a.tmps.getD (d m) undef=W b)∧St E D Γ M' a w ∧ ∀ j,j<n→j≠m→l.getD j false=true→a.tmps.getD (d j) undef=V j
theorem CZ {T e:TypeId} {z:Value} {by':Nat} {L:Lay} [hS:SliceOf P T e] [hL:LayOf P e L] [hZ:ZeroOf P e z by'] [hF:Flat (one z) L] {D:List Deferred} {Γ:Ctx} {M:Mem} {id:Nat} {Q:Exit→Act→World→Prop} (n m c:Nat) (d:Nat→Nat) (V:Nat→Value) (pre:Nat→List Nat) (Γ0:Ctx) {x y:Operand} {ty:TypeId} {pos:String} {af:Array Edge}
  (hm:P.follows .mixedOrders=true) (hok:e8 n ops=true) (hmn:m<n)
  (hd:((List.range n).all fun i=>(List.range n).all fun j => !Nat.beq (d i) (d j) || Nat.beq i j)=true)
  (hpre:((List.range n).all fun i=>(pre i).all fun j => !Nat.beq j m && Nat.blt j n && predB ops j i)=true)
  (h0:((List.range n).all fun j=>(bP Γ0 (d j)).isNone)=true) (hs0:dI Γ Γ0)
  (hA : ∀ i,i<n→i≠m → ∃ o,ops[i]? = some o ∧ ∀ M',(M'=M ∨ ∃ b,M'=aI (some b) e L c c (fun _=>one z) :: M)→StepG P E (mz d V (pre i) ++ Γ0) M' ops o ((d i,one (V i)) :: (mz d V (pre i) ++ Γ0)))
  (hmk:ops[m]? = some ⟨some (d m), .makeSlice T x y,ty,pos,af,none⟩) (hx:aM (mz d V (pre m) ++ Γ0) x=some (one (.int .i64 (c:Nat)))) (hy:aM (mz d V (pre m) ++ Γ0) y=some (one (.int .i64 (c:Nat))))
  (hb0:Nat.ble 1 by'=true) (hz0:Nat.ble 1 L.sz=true) (hc:by'*c≤2^48) (hdm:Nat.ble (d m+1) E.N=true)
  (hT : ∀ b,Run P E ops false n D ((d m,one (slV (some b) c c)) :: (mz d V ((List.range n).filter fun j => !Nat.beq j m) ++ Γ0)) (aI (some b) e L c c (fun _=>one z) :: M) (ops.toList.drop n) (fun D' Γ' M'=>PJ E D' Γ' M' .normal Q)):J P E D Γ M (.region id ops true) Q:=by
 intro a w hSt
 have hn:n≤ops.size:=by simp only [e8,Bool.and_eq_true] at hok;exact of_decide_eq_true hok.1
 have hd' : ∀ i j,i<n→j<n→d i=d j→i=j:=fun i j hi hj e=>by
  have h1:=List.all_eq_true.1 (List.all_eq_true.1 hd i (List.mem_range.2 hi)) j (List.mem_range.2 hj)
  rw [e] at h1
  simpa using h1
 have hpre' : ∀ i j,i<n→j∈pre i→j≠m∧j<n∧predB ops j i=true:=fun i j hi hj=>by
  have h1:=List.all_eq_true.1 (List.all_eq_true.1 hpre i (List.mem_range.2 hi)) j hj
  simp only [Bool.and_eq_true,Bool.not_eq_true'] at h1
  exact ⟨fun e=>(by rw [e,Nat.beq_refl] at h1;exact absurd h1.1.1 S),Nat.le_of_ble_eq_true h1.1.2,h1.2⟩
 have h0' : ∀ j,j<n→bP Γ0 (d j)=none:=fun j hj=>by
  have h1:=List.all_eq_true.1 h0 j (List.mem_range.2 hj)
  simpa using h1
 refine ec hm ?_
 have k0:Ext w { w with drawn:=w.drawn+1 } := ⟨rfl,rfl,rfl,Nat.le_refl _,fun _ _=>rfl⟩
 have hl0 : ∀ j,(Array.replicate ops.size false).getD j false=false:=fun j=>by
  simp [Array.getD_eq_getD_getElem?,Array.getElem?_replicate]; split <;> rfl
 have hS1:St E D Γ M a { w with drawn:=w.drawn+1 } := ⟨hSt.base.ext k0,hSt.sz,hSt.df,fun t φ ht=>φ.mono (Base.hv_ext k0) (hSt.tm t φ ht)⟩
 refine gH (n:=n) hok (fun l a w=>((∃ j,j<n∧l.getD j false=false)∧(∀ j,n≤j→l.getD j false=false)∧zn E D Γ0 M (fun b=>aI (some b) e L c c (fun _=>one z)) n m d V (fun b=>slV (some b) c c) l a w) ∨
  ∃ k,n≤k∧k≤ops.size∧(∀ j,j<ops.size→(l.getD j false=true↔j<k))∧wpOps P ops (nrm Q) (List.range' k (ops.size - k)) a w) ?_ ?_ ops.size _ a _ ⟨by simp,fun j hj => ?_⟩ ?_ (.inl ⟨⟨m,hmn,hl0 m⟩,fun j _=>hl0 j,M, .inl ⟨hl0 m,rfl⟩,hS1.sub hs0 (SubM.refl _),fun j _ _ hj => ?_⟩)
 ·rintro l a w (⟨⟨j,hj,hlj⟩,_⟩ | ⟨k,h1,h2,h3,h4⟩) hall
  ·rw [hall j X] at hlj;cases hlj
  ·have hk:k=ops.size:=by
    rcases Nat.lt_or_ge k ops.size with h | h
    ·exact absurd ((h3 k h).1 (hall k h)) (Nat.lt_irrefl k)
    ·omega
   subst hk
   simpa [wpOps] using h4
 ·rintro l a w i (⟨⟨j0,hj0,hlj0⟩,hlate,M',hM',hS',hV⟩ | ⟨k,h1,h2,h3,h4⟩) hl hi1 hi2 hi
  ·have hin:i<n:=by
    rcases Nat.lt_or_ge i n with h | h
    ·exact h
    ·rcases cI hok (i:=j0) (j:=i) X hi1 with hp | ⟨h',_⟩
     ·have:=cz hi hp;rw [hlj0] at this;cases this
     ·omega
   have hls:=hl.size
   have hself:(l.setIfInBounds i true).getD i false=true:=by rw [bO X,if_pos Y]
   have hsame : ∀ j,j≠i→(l.setIfInBounds i true).getD j false=l.getD j false:=fun j hj=>by rw [bO X,if_neg (fun e=>hj e.symm)]
   have hSp:St E D (mz d V (pre i) ++ Γ0) M' a w:=vS hS' fun j hj=>by
    obtain ⟨g1,g2,g3⟩:=hpre' i j hin hj
    exact hV j g2 g1 (cz hi g3)
   -- what holds behind it
   have fin : ∀ a' w',zn E D Γ0 M (fun b=>aI (some b) e L c c (fun _=>one z)) n m d V (fun b=>slV (some b) c c) (l.setIfInBounds i true) a' w'→(((∃ j,j<n∧(l.setIfInBounds i true).getD j false=false)∧(∀ j,n≤j→(l.setIfInBounds i true).getD j false=false)∧zn E D Γ0 M (fun b=>aI (some b) e L c c (fun _=>one z)) n m d V (fun b=>slV (some b) c c) (l.setIfInBounds i true) a' w') ∨
     ∃ k,n≤k∧k≤ops.size∧(∀ j,j<ops.size→((l.setIfInBounds i true).getD j false=true↔j<k))∧wpOps P ops (nrm Q) (List.range' k (ops.size - k)) a' w'):=fun a' w' hH=>by
    by_cases hmore : ∃ j,j<n∧(l.setIfInBounds i true).getD j false=false
    ·exact .inl ⟨hmore,fun j hj=>by rw [hsame j X]; exact hlate j hj,hH⟩
    ·have hall : ∀ j,j<n→(l.setIfInBounds i true).getD j false=true:=fun j hj=>by
      rw [← Bool.not_eq_false]; intro h;exact hmore ⟨j,hj,h⟩
     refine .inr ⟨n,Nat.le_refl _,hn,fun j hj=>⟨fun h => ?_,hall j⟩,?_⟩
     ·rcases Nat.lt_or_ge j n with h' | h'
      ·exact h'
      ·rw [hsame j X,hlate j h'] at h;cases h
     ·obtain ⟨M2,hM2,hS2,hV2⟩:=hH
      rcases hM2 with ⟨h1,_⟩ | ⟨_,b,rfl,hb⟩
      ·rw [hall m hmn] at h1;cases h1
      ·have hS3:=vS (l:=(List.range n).filter fun j => !Nat.beq j m) hS2 fun j hj=>by
        obtain ⟨g1,g2⟩:=List.mem_filter.1 hj
        exact hV2 j (List.mem_range.1 g1) (fun e=>by subst e;simp at g2) (hall j (List.mem_range.1 g1))
       have hS4:St E D ((d m,one (slV (some b) c c)) :: (mz d V ((List.range n).filter fun j => !Nat.beq j m) ++ Γ0)) (aI (some b) e L c c (fun _=>one z) :: M) a' w':=⟨hS3.base,hS3.sz,hS3.df,fun t φ ht=>by
        rw [bp] at ht
        split at ht
        ·rename_i e;cases ht;subst e;exact hb
        ·exact hS3.tm t φ ht⟩
       have:=(hT b).seq (nrm Q) [] (fun j _=>by simp [List.getElem?_drop]) (fun D' Γ' M' a w hK hS=>by simpa [wpOps] using hK a w hS) a' w' hS4
       simpa using this
   by_cases him:i=m
   ·subst him
    rcases hM' with ⟨_,rfl⟩ | ⟨hc1,_⟩
    ·have hx':a.eval x = .int .i64 c:=cF hSp hx
     have hy':a.eval y = .int .i64 c:=cF hSp hy
     have hb1:=Nat.le_of_ble_eq_true hb0
     have hz1:=Nat.le_of_ble_eq_true hz0
     obtain ⟨f1,f2,f3⟩:=hF.ok z (fun _=>none) Y
     have hc48:c≤2^48:=by
      have:c≤by'*c:=Nat.le_mul_of_pos_left c hb1
      omega
     have hr:(execOp a.eval ⟨some (d i), .makeSlice T x y,ty,pos,af,none⟩).run P w = .ok (.value (slV (some w.heap.size) c c)) (w.alloc (.cells (dW z.cells (c*L.sz)) e)):=by
      simp only [execOp,hx',hy',Sem.run_bind,iA hb1 (Nat.le_refl c) hc,Result.andThen_ok,Sem.run_pure]
     have hS2:St E D ((d i,one (slV (some w.heap.size) c c)) :: (mz d V (pre i) ++ Γ0)) (aI (some w.heap.size) e L c c (fun _=>one z) :: M') (a.put (some (d i)) (slV (some w.heap.size) c c)) (w.alloc (.cells (dW z.cells (c*L.sz)) e)):=by
      refine hSp.alloc (o:=aI (some w.heap.size) e L c c (fun _=>one z)) Y ⟨Nat.le_refl _,by omega,(fun h=>by cases h),fun b hb => ?_⟩ (Nat.le_of_ble_eq_true hdm) Y
      cases hb
      exact ⟨_,cJ w _ _ _,e9 _ _,fun q hq=>⟨z,kC f1 f3 X hz1,rfl⟩⟩
     simp only [wpOp,hmk,cQ (o:=⟨some (d i), .makeSlice T x y,ty,pos,af,none⟩) Y,if_true]
     refine .inl ?_
     unfold Oper.wp
     rw [hr]
     refine fin _ _ ⟨_, .inr ⟨hself,w.heap.size,rfl,?_⟩,?_,fun j hj hne hlj => ?_⟩
     ·exact ct (by rw [hS'.sz]; exact Nat.le_of_ble_eq_true hdm)
     ·refine hS2.sub (fun t φ ht=>⟨φ,?_,H⟩) (SubM.refl _)
      have htd:d i≠t:=fun e=>by subst e;rw [h0' i hin] at ht;cases ht
      rw [bp,if_neg htd]
      have : ∀ l:List Nat,(∀ j∈l,j<n)→bP (mz d V l ++ Γ0) t=some φ:=fun l=>by
       induction l with
       | nil => exact fun _ => ht
       | cons j l ih =>
        intro hl
        show bP ((d j,one (V j)) :: (mz d V l ++ Γ0)) t=some φ
        rw [bp,if_neg (fun e=>by subst e;rw [h0' j (hl j List.mem_cons_self)] at ht;cases ht)]
        exact ih fun j hj=>hl j (List.mem_cons_of_mem _ hj)
      exact this _ fun j hj=>(hpre' i j hin hj).2.1
     ·rw [hsame j hne] at hlj
      show (a.put (some (d i)) _).tmps.getD (d j) undef=_
      rw [cn (fun e=>hne (hd' i j hin hj e).symm)]
      exact hV j hj hne hlj
    ·rw [hc1] at hi2;cases hi2
   ·obtain ⟨o,ho,hst⟩:=hA i hin him
    obtain ⟨d', ψ',hdd,hN,heq,hrun⟩:=(hst M' (by rcases hM' with ⟨_,h⟩ | ⟨_,b,h,_⟩;exact .inl h;exact .inr ⟨b,h⟩)).run ho
    cases heq
    refine hrun a w hSp.base (hSp.names _) _ (nrm Q) fun v w' k hv'=>fin _ _ ?_
    have hv':v=V i:=hv'
    subst hv'
    refine ⟨M',?_,?_,fun j hj hne hlj => ?_⟩
    ·rw [hsame m (fun e=>him e.symm),cn (fun e=>him (hd' i m hin hmn e))]; exact hM'
    ·refine (hS'.put k hN (ψ:=one (V i)) Y).sub (fun t φ ht=>⟨φ,?_,H⟩) (SubM.refl _)
     rw [bp,if_neg (fun e=>by subst e;rw [h0' i hin] at ht;cases ht)]
     exact ht
    ·by_cases hji:j=i
     ·subst hji;exact ct (by rw [hS'.sz]; exact hN)
     ·rw [hsame j hji] at hlj
      rw [cn (fun e=>hji (hd' i j hin hj e).symm)]
      exact hV j hj hne hlj
  ·have hik:i=k:=by
    rcases Nat.lt_trichotomy i k with h | h | h
    ·rw [(h3 i hi1).2 h] at hi2;cases hi2
    ·exact h
    ·rcases cI hok h hi1 with hp | ⟨h',_⟩
     ·have:=(h3 k X).1 (cz hi hp);omega
     ·omega
   subst hik
   rw [show ops.size - i=(ops.size - (i+1))+1 by omega,List.range'_succ,wpOps_cons] at h4
   refine wpOp_mono (fun a' w' h' => .inr ⟨i+1,by omega,hi1,fun j hj => ?_,h'⟩) h4
   have hls:=hl.size
   rw [bO X]
   by_cases e:i=j
   ·subst e;simp
   ·rw [if_neg e,h3 j hj]; omega
 ·rw [hl0] at hj;cases hj
 ·unfold left;refine Nat.le_trans (List.length_filter_le _ _) (by simp)
 ·rw [hl0] at hj;cases hj
end
end Tor
end
section
namespace Tor
open Go Go.RowKit Go.Proofs
def m9 (p:Nat) (G:Nat→Nat→Int):Nat→Nat→Nat:=fun i j=>(G i j % (p:Int)).toNat
theorem Bl (a b:Own) (l:Mem):(a :: b :: l).Perm ([b] ++ (a :: l)):=List.Perm.swap b a l
theorem zq {Ms:Mem} {b2 br n c i j p:Nat} {G:Nat→Nat→Int} {T:TypeId} (hm:aI (some br) T .one c c (fun q=>one (.int .u64 ((if q<j then m9 p G i q else 0:Nat))))∈Ms) (hj:j=c) :
  wu Ms (aI (some b2) 173 .one n n (upd (fun q=>if q<i then jg c (m9 p G q) else bL) i (one (slV (some br) c c)))) (aI (some b2) 173 .one n n (fun q=>if q<i+1 then jg c (m9 p G q) else bL)):=wu.sl fun q hq=>by
 unfold upd
 by_cases h:q=i
 ·subst h
  rw [if_pos Y,if_pos (Nat.lt_succ_self q)]
  exact Ent.slE hm fun k hk=>Ent.le (by rw [if_pos X]; exact VT.le_refl _)
 ·rw [if_neg h]
  dsimp only
  by_cases h2:q<i
  ·rw [if_pos h2,if_pos X]; exact Ent.refl _
  ·rw [if_neg h2,if_neg X]; exact Ent.refl _
attribute [local irreducible] J PJ aK one slT bR bC bv exT cj eP aT aI slV VT.le Ret bL
attribute [local irreducible] aL
theorem sO (p n c:Nat) (G:Nat→Nat→Int) (hp:cD p=true) (hp0:0<p) (hp':p<2147483648) (hn:n≤1048576) (hc:c≤1048576) (hG : ∀ i j,bm (G i j)):Ok Tryz.prog 139 [one (.int .u64 (p:Nat)),bW n c G] (w6 p n c (m9 p G)):=by
 have h1:=ke p X
 rw [hp] at h1
 unfold bW
 refine Ok.enter Tryz.func139 Y Tryz.ntmps139 Y (fun w O => ?_)
 refine ae (ai ?_)
 refine aV Y Y (ltN Y) (fun b3 => ?_)
 refine bD (T:=169) Y Y Y (fun b4 => ?_)
 refine Ep (aa (ae (ae (ai (Em Y ?_)))))
 refine El (am (h1) Y ⟨H,Er⟩) ?_
 refine El (cS Y) (Em Y (Eo (aj Y) (Eo (ak 1 Y Y Y) (Eo (sF X (a6 Y Y)) (El (bE Y Y) (Ep (aa (aB Y (az ?_)))))))))
 refine aa (ae ?_)
 refine tT aZ Z Z (fun a1 w1 hS1 => ?_)
 refine ux (fun B=>ab Y) Y Y ?_
 refine ux (fun B=>aj Y) Y Y ?_
 refine ux (fun B=>ak 1 Y Y Y) Y Y ?_
 refine ux (fun B=>aj Y) Y Y ?_
 refine ux (fun B=>ak 1 Y Y Y) Y Y ?_
 refine ux (fun B=>aX Y) Y Y ?_
 refine ux (fun B=>ll w1.heap.size n Y Y Y Y Y Y Y ?_) Y Y ?_
 ·omega
 refine uB Y Y Y (BuildK.cons Y Y Y (BuildK.cons Y Y Y (BuildK.cons Y Y Y (BuildK.nil (ua Y (us Y ?_))))))
 refine RunU.nil (fun γ a2 w2 hS2 hx hk2 => ?_)
 obtain ⟨b2,hS3⟩:=tV (t:=5) (b:=γ 5) (T:=169) (m:=3) (k:=2) (n:=n) (cs1 := [(0, .one,one (.int .u64 (p:Nat))),(1, .one,one (.int .i64 (c:Nat)))])
  (Γk := [(0,one (.int .u64 (p:Nat))),(3,one (.pointer (some ⟨b3,0,none⟩))),(4,one (.pointer (some ⟨b4,0,none⟩)))])
  hS1 Y hS2 hx hk2 (.cons Y Z (.cons Y Z (.cons Y Z .nil))) Y Y (fun q hq=>by
   rcases List.mem_cons.1 hq with rfl | hq
   ·exact ⟨_,rfl,rfl⟩
   rcases List.mem_cons.1 hq with rfl | hq
   ·exact ⟨_,rfl,rfl⟩
   cases hq)
 generalize γ 5=b5 at hS3
 refine tU ?_ hS3
 clear hS3 hS2 hx hk2 hS1
 refine aa (ae (ae (ai (El (aj Y) (El (ak 3 Y Y Y) (El (aX Y) (Em Y (Ep (aa ?_)))))))))
 refine au (co (Γ' := [(0,_),(3,_),(4,_),(5,_),(28,_),(29,_),(30,_)]) Eg (SubM.refl _) ?_)
 refine bB (σ:=Nat) (Γk := [(0,_),(3,_),(4,_),(5,_),(28,_),(29,_)]) Eg (fun i => [(30,one (.int .i64 (i:Nat)))]) (fun i M0=>(M0.set 1 (aI (some b2) 173 .one n n (fun q=>if q<i then jg c (m9 p G q) else bL)))) (fun i=>i≤n) (fun i=>n - i) (0) (Nat.zero_le _) Eh (.keep Ek (.keep (ed fun q hq=>by rw [if_neg (Nat.not_lt_zero q)]; exact jN _) (.keep Ek (.keep Ek (.nil))))) (fun i hi => ?_)
 refine bQ (Γ' := [(30,_),(0,_),(3,_),(4,_),(5,_),(28,_),(29,_)]) (M' := [_,_,_,_]) Y Y ?_
 by_cases hi2:i<n
 ·refine ae (ai (El (sT X (a6 Y Y)) (Ep (aa (ae (aG Y (az (aa (ae ?_)))))))))
  refine au (ae (ai (Em Y (El (aC Y Y X) (El (aO Y) (En Y (En Y (Ep (aa ?_)))))))))
  refine ae (ae (ai (Em Y (El (aX Y) (El (aj Y) (El (ak 3 Y Y Y) (El (sF X (dy Y Y)) (Ep (aa ?_)))))))))
  refine aB Y (az (aa (ae ?_)))
  refine CZ 6 5 c (fun j=>41+j) (fun j=>match j with | 0 => .pointer (some ⟨b5,0+2,none⟩) | 1=>slV (some b2) n n | 2 => .int .i64 (i:Nat) | 3 => .pointer (some ⟨b3,0+1,none⟩) | _ => .int .i64 (c:Nat)) (fun j=>match j with | 1 => [0] | 4 => [3] | 5 => [4] | _ => [])
   [(0,one (.int .u64 (p:Nat))),(3,one (.pointer (some ⟨b3,0,none⟩))),(4,one (.pointer (some ⟨b4,0,none⟩))),(5,one (.pointer (some ⟨b5,0,none⟩))),(6,one (.int .i64 (i:Nat))),(7,bJ c (G i)),(28,slT .one n (fun i=>bJ c (G i))),(29,one (.int .i64 (n:Nat))),(30,one (.int .i64 (i:Nat)))]
   aZ Z S S U Y Ej
   (fun j hj hne => ?_) Y Y Y Y Y X Y (fun br => ?_)
  ·match j,hj,hne with
   | 0, _, _ => exact ⟨_, rfl, fun M' hM' => by rcases hM' with rfl | ⟨b, rfl⟩ <;> exact .plain (aj Y) Y Y (Nat.le_of_ble_eq_true Y)⟩
   | 1, _, _ => exact ⟨_, rfl, fun M' hM' => by
     rcases hM' with rfl | ⟨b,rfl⟩
     ·exact .plain (ak 0 Y Y Y) Y Y (Nat.le_of_ble_eq_true Y)
     ·exact .plain (ak 1 Y Y Y) Y Y (Nat.le_of_ble_eq_true Y)⟩
   | 2, _, _ => exact ⟨_, rfl, fun M' hM' => by rcases hM' with rfl | ⟨b, rfl⟩ <;> exact .plain (ab Y) Y Y (Nat.le_of_ble_eq_true Y)⟩
   | 3, _, _ => exact ⟨_, rfl, fun M' hM' => by rcases hM' with rfl | ⟨b, rfl⟩ <;> exact .plain (aj Y) Y Y (Nat.le_of_ble_eq_true Y)⟩
   | 4, _, _ => exact ⟨_, rfl, fun M' hM' => by
     rcases hM' with rfl | ⟨b,rfl⟩
     ·exact .plain (ak 3 Y Y Y) Y Y (Nat.le_of_ble_eq_true Y)
     ·exact .plain (ak 4 Y Y Y) Y Y (Nat.le_of_ble_eq_true Y)⟩
   | 5, _, h => exact absurd Y h
  refine El (ao Y Y X) ?_
  (refine aw 2 Y Y Y ?_ Y ?_;omega)
  refine Ep (aa (ae (ai (Em Y (El (aX Y) (Em Y (Ep (aa (au ?_)))))))))
  refine co (Γ' := [(0,_),(3,_),(4,_),(5,_),(6,_),(28,_),(29,_),(30,_),(48,_),(49,_),(50,_)]) Eg (SubM.refl _) ?_
  refine bB (σ:=Nat) (Γk := [(0,_),(3,_),(4,_),(5,_),(6,_),(28,_),(29,_),(30,_),(48,_),(49,_)]) Eg (fun j => [(50,one (.int .i64 (j:Nat)))]) (fun j M0=>(M0.set 0 (aI (some br) 44 .one c c (fun q=>one (.int .u64 ((if q<j then m9 p G i q else 0:Nat))))))) (fun j=>j≤c) (fun j=>c - j) (0) (Nat.zero_le _) Eh (.keep Ek (.keep Ek (.keep Ek (.keep Ek (.keep Ek (.nil)))))) (fun j hj => ?_)
  refine bQ (Γ' := [(50,_),(0,_),(3,_),(4,_),(5,_),(6,_),(28,_),(29,_),(30,_),(48,_),(49,_)]) (M' := [_,_,_,_,_]) Y Y ?_
  by_cases hjc:j<c
  ·have hre:=ia p (G i j) hp0 X (hG i j)
   refine ae (ai (El (sT X (a6 Y Y)) (Ep (aa (ae (aG Y (az (aa (ae ?_)))))))))
   refine au (ae (ai (Em Y (El (aC Y Y X) (El (aO Y) ?_)))))
   refine aH (T:=37) Y (ltN Y) (fun b9 => ?_)
   refine En Y (aA 0 Y Y Y Y Y (leN Y) Y (Ep (aa (qv 16 9 aZ Z S (El (aj Y) (El (ak 2 Y Y Y) (Em Y (El (ao Y Y X) (El (aK.le' (bg 3 Y Y hi2) (gN (by unfold upd;rw [if_pos Y]))) ?_)))))))))
   refine Em Y (Em Y (El (ak 0 Y Y Y) ?_))
   refine El (am (hre) Y ⟨H,H,Er⟩) ?_
   refine Ep (El (ao Y Y X) ?_)
   (refine aw 1 Y Y Y ?_ Y ?_;omega)
   refine Ep (aE (aa (ai (El (bK _ 1 Y Y X) (Em Y (Ep ?_))))))
   refine aP (j+1) X X Eh (.drop (.keep (my (G:=m9 p G i) (Ef:=fun _=>0)) (.keep Ek (.keep Ek (.keep Ek (.keep Ek (.nil)))))))
  ·refine ae (ai (El (sF X (a6 Y Y)) (Ep (aa (ae (aB Y (aY (av (av ?_)))))))))
   refine aF (aE (aa (ai (El (bK _ 1 Y Y X) (Em Y (Ep ?_))))))
   refine i6 [_] (List.Perm.refl _) (.keep (wu.refl _) (.keep (zq (j:=j) List.mem_cons_self X) (EntM.refl _))) (wv.refl _) ?_
   refine aP (i+1) X X Eh (.keep Ek (.keep Ek (.keep Ek (.keep Ek (.nil)))))
 ·have hin:i=n:=by omega
  subst hin
  refine ae (ai (El (sF X (a6 Y Y)) (Ep (aa (ae (aB Y (aY (av (av ?_)))))))))
  refine aF (aa (ae (ai (El (aN 0 Y Y) (a4 2 Y Y Y Y (Ep (aa (aD ?_))))))))
  refine i6 [_] (Bl _ _ _) (.keep (wu.refl _) (.keep (wu.box (cs' := [(0, .one,one (.int .u64 (p:Nat))),(1, .one,one (.int .i64 (c:Nat))),(2, .one,slT .one i (fun q=>jg c (m9 p G q)))]) (.cons (by simp) (Ent.refl _) (.cons (by simp) (Ent.refl _) (.cons List.mem_cons_self (Ent.slE List.mem_cons_self (fun q hq=>Ent.le (by rw [if_pos hq]; exact VT.le_refl _))) .nil)))) (.keep (wu.refl _) .nil))) (wv.refl _) ?_
  refine aS Tryz.results139 (.cellW 1 Y Y H)
end Tor
end
section
namespace Tor
open Go Go.RowKit Go.Proofs
theorem DK {p n:Nat} {W':Nat→Nat→Nat} : VT.le (bC 3 [(0, .one,one (.int .u64 (p:Nat))),(1, .one,one (.int .i64 ((n+n:Nat):Int))),(2, .one,slT .one ((n:Int) - 0).toNat (fun j=>jg (n+n) (W' (Int.toNat 0+j))))]) (w6 p n (n+n) W') :=
 fj fun q hq=>by
  rcases List.mem_cons.1 hq with rfl | hq
  ·exact ⟨_,List.mem_cons_self,H⟩
  ·rcases List.mem_cons.1 hq with rfl | hq
   ·exact ⟨_,List.mem_cons_of_mem _ List.mem_cons_self,H⟩
   ·rcases List.mem_singleton.1 hq with rfl
    exact ⟨_,List.mem_cons_of_mem _ (List.mem_cons_of_mem _ List.mem_cons_self),cC X (fun i hi=>by rw [show Int.toNat 0+i=i from Nat.zero_add i])⟩
attribute [local irreducible] J PJ aK one slT bR bC bv exT cj eP aT aI slV VT.le Ret bL
attribute [local irreducible] aL rwO
theorem Bm (p n:Nat) (F:Nat→Nat→Int) (W:Nat→Nat→Nat) (hpb:cD p=true) (hp2:2≤p) (hp:p<2147483648) (hinv:uw p) (hF:uy p n F) (hn:n≤1024) (h0:EchI p n F 0 W) :
  Ok Tryz.prog 138 [w6 p n (n+n) W] (exT fun W':Nat→Nat→Nat=>cj (EchI p n F n W') (bv [w6 p n (n+n) W',slT .one n (fun q=>one (.int .i64 (q:Nat)))])):=by
 have hv:=w8 p n (n+n) W hpb hp (fun i j hi hj=>h0.lt i j hi hj) X X
 have hcp:=sN n (n+n) W X X X
 refine Ok.enter Tryz.func138 Y Tryz.ntmps138 Y (fun w O => ?_)
 refine ae (ai ?_)
 refine aV Y Y (ltN Y) (fun b1 => ?_)
 refine bD (T:=169) Y Y Y (fun b2 => ?_)
 refine En Y (Ep (aa (ae (ae (ai (El (aN 1 Y Y) ?_))))))
 refine El (am (hv) Y ⟨H,Er⟩) ?_
 refine El (cS Y) (Ep (aa (aB Y (az (aa (ae (ai (El (aj Y) (El (ak 1 Y Y Y) ?_)))))))))
 refine gw (hcp) Y ⟨H,Er⟩ Y Y (fun s13 => ?_)
 refine En Y (Ep (aa (ae (ai (El (aj Y) (El (ak 3 Y Y Y) (Em Y (El (aj Y) (El (ak 3 Y Y Y) ?_)))))))))
 refine gy (Min := [_,_]) (Kp := [_,_]) (uz p n s13.2.2 F s13.1 s13.2.1 W hp2 hp hinv hF hn h0) Y ⟨H,H,H,Er⟩ (List.Perm.refl _) Y Y (fun s => ?_)
 obtain ⟨⟨B,C,W'⟩,hI⟩:=s
 refine rF [_,_] (List.Perm.refl _) (EntM.refl _) (wv.set (t:=4) (ψ:=slT .one n (fun i=>jg (n+n) (W' i))) Y (Ent.slE List.mem_cons_self (fun q hq=>Ent.rwo (List.mem_cons_of_mem _ List.mem_cons_self) hq Y))) ?_
 refine En Y (Ep (aa (ae (ai (Em Y (El (aX Y) (En Y (Ep (aa ?_)))))))))
 refine ae (ai (Em Y (Em Y ?_)))
 refine El (gq Y Y Y Y (fun h=>nomatch h) X X X X) ?_
 refine jd (t:=24) (ψ:=slT .one 0 (fun _=>bL)) Y (cC X (fun q hq=>by omega)) ?_
 refine yC Y Y (Ep (aa (ae ?_)))
 apply iD (Γ1 := [(2,_),(3,_)]) (M1 := [_,_]) 10 4 [9] [] aZ Z S
 ·refine El (aj Y) (El (ak 1 Y Y Y) (El (aj Y) (El (ak 1 Y Y Y) (Em Y (Em Y (Em Y ?_))))))
  refine El (gq Y Y Y Y (fun _=>rfl) X X X X) ?_
  refine stB Y Y Y (BuildK.cons Y Y Y (BuildK.cons Y Y Y (BuildK.cons Y Y Y (BuildK.nil (Em Y (Ep ?_))))))
  refine yr (Γe := [(2,_),(5,_),(33,_)]) (Γe' := [(2,_),(5,_),(33,_),(34,_)]) (rem := [10,11]) Y Ej Y Ej Y ?_ ?_
  ·refine bM (rem' := [10,11]) (rem'' := [9,11]) (i:=9) (j:=10) Z Y Y Y Y ?_ ?_ iC.nil
   refine Em Y (Ep ?_)
   refine ⟨rfl,?_⟩
   refine an (rem' := [11]) (i:=10) Z Y Y ?_ iC.nil
   refine a4 0 Y Y Y Y (Ep ?_)
   refine ⟨rfl,?_⟩
   refine an (rem' := []) (i:=11) Z Y Y ?_ iC.nil
   refine En Y (Ep ?_)
   refine ⟨rfl,?_⟩
   refine aU Ej (SubM.refl _) iC.nil
   refine a4 0 Y Y Y Y (Ep ?_)
   refine ⟨rfl,?_⟩
   refine an (rem' := [11]) (i:=9) Z Y Y ?_ iC.nil
   refine Em Y (Ep ?_)
   refine ⟨rfl,?_⟩
   refine an (rem' := []) (i:=11) Z Y Y ?_ iC.nil
   refine En Y (Ep ?_)
   refine ⟨rfl,?_⟩
   refine aU Ej (SubM.refl _) iC.nil
  ·refine an (rem' := [11]) (i:=10) Z Y Y ?_ iC.nil
   refine a4 0 Y Y Y Y (Ep ?_)
   refine ⟨rfl,?_⟩
   refine an (rem' := []) (i:=11) Z Y Y ?_ iC.nil
   refine En Y (Ep ?_)
   refine ⟨rfl,?_⟩
   refine aU Ej (SubM.refl _) iC.nil
 ·refine aa (aD ?_)
  refine r7 (ψ:=bv [w6 p n (n+n) W',slT .one n (fun q=>one (.int .i64 (q:Nat)))]) (nN W' (lg hI H)) ?_
  refine dg Tryz.results138 (.cellW 0 Y Y (DK)) (.tmp Y H)
end Tor
end
section
namespace Tor
open Go Go.RowKit Go.Proofs
theorem oF {sv:Option Nat} {T:TypeId} {cap n j:Nat} {h:Nat→Int} {x:Int} (hx:x=h j):Own.le (aI sv T (.agg 2) cap n (upd (fun q=>aL (if q<j then h q else 0)) j (aL x))) (aI sv T (.agg 2) cap n (fun q=>aL (if q<j+1 then h q else 0))):=bh (fun q _=>by
 subst hx
 show (if q=j then aL (h j) else aL (if q<j then h q else 0))=_
 by_cases c:q=j
 ·rw [if_pos c,if_pos X,c]
 ·rw [if_neg c]
  by_cases c2:q<j
  ·rw [if_pos c2,if_pos X]
  ·rw [if_neg c2,if_neg X])
attribute [local irreducible] J PJ aK one slT bR bC bv exT cj eP aT aI slV VT.le Ret bL xO
attribute [local irreducible] aL
theorem sP (b:Nat) (sv:Option Nat) (r cap:Nat) (last:Int) (odd:Bool) (ψ:VT) (w c:Nat) (f g:Nat→Int) (hc:c<w) (hw:w≤1048576) (hl0:last≠0) (hl:bm last) (hf : ∀ j,bm (f j)) (hg : ∀ j,bm (g j))
  (hp : ∀ j,bm (g c*f j)) (hq : ∀ j,bm (f c*g j)) (hd : ∀ j,bm (g c*f j - f c*g j)) :
  OkR Tryz.prog 152 [one (.pointer (some ⟨b,0,none⟩)),bJ w f,bJ w g,one (.int .i64 (c:Nat))] [eJ b sv r cap last odd ψ] (bJ w (fun j=>jr (g c) (f j) (f c) (g j) last)):=by
 intro g0
 show OkI _ _ _ [xO g0 (eJ b sv r cap last odd ψ)] _ (fun _ => [xO g0 (eJ b sv r cap last odd ψ)])
 unfold bJ
 refine OkI.enter Tryz.func152 Y Tryz.ntmps152 Y (fun w0 O => ?_)
 refine ae (ai (En Y (Ep (aa (ae (ai (Em Y (El (aX Y) ?_))))))))
 refine bV w w Y Y Y Y (Nat.le_refl _) Y Y X Y Y (fun bz => ?_)
 refine En Y (Ep (aa (ae (ae (ai (Em Y (El (aX Y) (Em Y (Ep ?_)))))))))
 refine aa (au (co (Γ' := [(0,_),(1,_),(2,_),(3,_),(8,_),(9,_),(16,_),(17,_),(18,_)]) Eg (SubM.refl _) ?_))
 refine bB (σ:=Nat) (Γk := [(0,_),(1,_),(2,_),(3,_),(8,_),(9,_),(16,_),(17,_)]) Eg (fun j => [(18,one (.int .i64 (j:Nat)))]) (fun j M0=>(M0.set 0 (aI (some bz) 37 (.agg 2) w w (fun q=>aL (if q<j then jr (g c) (f q) (f c) (g q) last else 0))))) (fun j=>j≤w) (fun j=>w - j) (0) (Nat.zero_le _) Eh (.keep (ed fun q hq=>iS) (.keep Ek (.nil))) (fun j hj => ?_)
 refine bQ (Γ' := [(18,_),(0,_),(1,_),(2,_),(3,_),(8,_),(9,_),(16,_),(17,_)]) (M' := [_,_]) Y Y ?_
 by_cases hj:j<w
 ·have m1:=eW (g c) (f j) (hg c) (hf j)
  have m2:=eW (f c) (g j) (hf c) (hg j)
  have m3:=lP (g c*f j) (f c*g j) (hp j) (hq j)
  have sp:=hp j
  have sd:=hd j
  have hs1:c9 (f c)=0↔f c=0:=eH _
  have hs2:c9 (g j)=0↔g j=0:=eH _
  by_cases h1:f c=0
  ·have d1:=dt (g c*f j) last hl0 sp hl
   have h3:=hs1.2 h1
   rw [← vu (y:=f c) (z:=g j) (.inl h1)] at d1
   refine ae (ai (El (sT X (a6 Y Y)) (Ep (aa (ae (aG Y (az (aa (ae ?_)))))))))
   refine au (ae (ai (Em Y (El (aC Y Y X) (El (aO Y) ?_)))))
   refine aH (T:=37) Y (ltN Y) (fun b11 => ?_)
   refine En Y (aA 0 Y Y Y Y Y (leN Y) Y (Ep (aa (ae ?_))))
   refine eG aZ Z Z ?_
   refine ux (fun B=>ab Y) Y Y ?_
   refine ux (fun B=>ab Y) Y Y ?_
   refine ux (fun B=>aC Y Y X) Y Y ?_
   refine ux (fun B=>aO Y) Y Y ?_
   refine ux (fun B=>ak 0 Y Y Y) Y Y ?_
   refine uxk (m1) Y ⟨H,H,Er⟩ Y ?_
   refine ua Y (us Y ?_)
   refine RunU.nil (fun γ => ?_)
   refine cU (M' := [_,_,_,_]) Y (aa (ae (ae (ai (Em Y (Em Y (El (aC Y Y X) (El (aO Y) ?_))))))))
   refine El (am (dc _) Y ⟨H,Er⟩) ?_
   refine El (sF X (dy Y Y)) (Em Y (sn0 Y Y Y Y Y (sn0 Y Y Y Y Y (sn0 Y Y Y Y Y (sn0 Y Y Y Y Y (sn0 Y Y Y Y Y (sn0 Y Y Y Y Y (El (bE Y Y) (Ep ?_)))))))))
   refine aa (aB Y (az (aa ?_)))
   apply iD (Γ1 := [(0,_),(1,_),(2,_),(3,_),(8,_),(9,_),(16,_),(17,_),(18,_)]) (M1 := [_,_,_,_]) 12 3 [] [10,11] aZ Z S
   ·refine Em Y (Em Y (El (ak 0 Y Y Y) (Em Y (El (bH Y) (El (aj Y) (El (qI 3 Y Y Y) ?_))))))
    refine El (am (d1) Y ⟨H,H,Er⟩) ?_
    refine Em Y (El (ar Y Y) (El (ar Y Y) (El (ar Y Y) (Ep ?_))))
    refine nZ (Γe := [(0,_),(1,_),(2,_),(3,_),(8,_),(9,_),(16,_),(17,_),(18,_),(54,_),(55,_),(56,_),(63,_)]) (rem := [12,13]) Y Ej Y ?_
    refine an (rem' := [13]) (i:=12) Z Y Y ?_ (iC.cons Y (StepG.plain (ar Y Y) Y Y (ltN Y)) Y (iC.cons Y (StepG.plain (ar Y Y) Y Y (ltN Y)) Y iC.nil))
    refine El (ao Y Y X) (Ep ?_)
    refine ⟨rfl,?_⟩
    refine an (rem' := []) (i:=13) Z Y Y ?_ (iC.cons Y (StepG.plain (ar Y Y) Y Y (ltN Y)) Y (iC.cons Y (StepG.plain (ar Y Y) Y Y (ltN Y)) Y iC.nil))
    (refine aw 2 Y Y Y ?_ Y ?_;omega)
    refine Ep ?_
    refine ⟨rfl,?_⟩
    refine aU Ej (SubM.refl _) (iC.cons Y (StepG.plain (ar Y Y) Y Y (ltN Y)) Y (iC.cons Y (StepG.plain (ar Y Y) Y Y (ltN Y)) Y iC.nil))
   ·refine aE (aa (ai (El (bK _ 1 Y Y X) (Em Y (Ep ?_)))))
    refine aP (j+1) (hj) X Eh (.drop (.drop (.keep (oF (h:=fun q=>jr (g c) (f q) (f c) (g q) last) Y) (.keep Ek (.nil)))))
  have h3:c9 (f c)≠0:=fun e=>h1 (hs1.1 e)
  by_cases h2:g j=0
  ·have d1:=dt (g c*f j) last hl0 sp hl
   have h4:=hs2.2 h2
   rw [← vu (y:=f c) (z:=g j) (.inr h2)] at d1
   refine ae (ai (El (sT X (a6 Y Y)) (Ep (aa (ae (aG Y (az (aa (ae ?_)))))))))
   refine au (ae (ai (Em Y (El (aC Y Y X) (El (aO Y) ?_)))))
   refine aH (T:=37) Y (ltN Y) (fun b11 => ?_)
   refine En Y (aA 0 Y Y Y Y Y (leN Y) Y (Ep (aa (ae ?_))))
   refine eG aZ Z Z ?_
   refine ux (fun B=>ab Y) Y Y ?_
   refine ux (fun B=>ab Y) Y Y ?_
   refine ux (fun B=>aC Y Y X) Y Y ?_
   refine ux (fun B=>aO Y) Y Y ?_
   refine ux (fun B=>ak 0 Y Y Y) Y Y ?_
   refine uxk (m1) Y ⟨H,H,Er⟩ Y ?_
   refine ua Y (us Y ?_)
   refine RunU.nil (fun γ => ?_)
   refine cU (M' := [_,_,_,_]) Y (aa (ae (ae (ai (Em Y (Em Y (El (aC Y Y X) (El (aO Y) ?_))))))))
   refine El (am (dc _) Y ⟨H,Er⟩) ?_
   refine El (sT (by assumption) (dy Y Y)) (Em Y (Eo (ab Y) (Eo (ab Y) (Eo (aC Y Y X) (Eo (aO Y) ?_)))))
   refine Eo (am (dc _) Y ⟨H,Er⟩) ?_
   refine Eo (sF X (dy Y Y)) (El (bk Y Y) (Ep (aa (aB Y (az (aa ?_))))))
   apply iD (Γ1 := [(0,_),(1,_),(2,_),(3,_),(8,_),(9,_),(16,_),(17,_),(18,_)]) (M1 := [_,_,_,_]) 12 3 [] [10,11] aZ Z S
   ·refine Em Y (Em Y (El (ak 0 Y Y Y) (Em Y (El (bH Y) (El (aj Y) (El (qI 3 Y Y Y) ?_))))))
    refine El (am (d1) Y ⟨H,H,Er⟩) ?_
    refine Em Y (El (ar Y Y) (El (ar Y Y) (El (ar Y Y) (Ep ?_))))
    refine nZ (Γe := [(0,_),(1,_),(2,_),(3,_),(8,_),(9,_),(16,_),(17,_),(18,_),(54,_),(55,_),(56,_),(63,_)]) (rem := [12,13]) Y Ej Y ?_
    refine an (rem' := [13]) (i:=12) Z Y Y ?_ (iC.cons Y (StepG.plain (ar Y Y) Y Y (ltN Y)) Y (iC.cons Y (StepG.plain (ar Y Y) Y Y (ltN Y)) Y iC.nil))
    refine El (ao Y Y X) (Ep ?_)
    refine ⟨rfl,?_⟩
    refine an (rem' := []) (i:=13) Z Y Y ?_ (iC.cons Y (StepG.plain (ar Y Y) Y Y (ltN Y)) Y (iC.cons Y (StepG.plain (ar Y Y) Y Y (ltN Y)) Y iC.nil))
    (refine aw 2 Y Y Y ?_ Y ?_;omega)
    refine Ep ?_
    refine ⟨rfl,?_⟩
    refine aU Ej (SubM.refl _) (iC.cons Y (StepG.plain (ar Y Y) Y Y (ltN Y)) Y (iC.cons Y (StepG.plain (ar Y Y) Y Y (ltN Y)) Y iC.nil))
   ·refine aE (aa (ai (El (bK _ 1 Y Y X) (Em Y (Ep ?_)))))
    refine aP (j+1) (hj) X Eh (.drop (.drop (.keep (oF (h:=fun q=>jr (g c) (f q) (f c) (g q) last) Y) (.keep Ek (.nil)))))
  ·have d1:=dt (g c*f j - f c*g j) last hl0 sd hl
   have h4:c9 (g j)≠0:=fun e=>h2 (hs2.1 e)
   refine ae (ai (El (sT X (a6 Y Y)) (Ep (aa (ae (aG Y (az (aa (ae ?_)))))))))
   refine au (ae (ai (Em Y (El (aC Y Y X) (El (aO Y) ?_)))))
   refine aH (T:=37) Y (ltN Y) (fun b11 => ?_)
   refine En Y (aA 0 Y Y Y Y Y (leN Y) Y (Ep (aa (ae ?_))))
   refine eG aZ Z Z ?_
   refine ux (fun B=>ab Y) Y Y ?_
   refine ux (fun B=>ab Y) Y Y ?_
   refine ux (fun B=>aC Y Y X) Y Y ?_
   refine ux (fun B=>aO Y) Y Y ?_
   refine ux (fun B=>ak 0 Y Y Y) Y Y ?_
   refine uxk (m1) Y ⟨H,H,Er⟩ Y ?_
   refine ua Y (us Y ?_)
   refine RunU.nil (fun γ => ?_)
   refine cU (M' := [_,_,_,_]) Y (aa (ae (ae (ai (Em Y (Em Y (El (aC Y Y X) (El (aO Y) ?_))))))))
   refine El (am (dc _) Y ⟨H,Er⟩) ?_
   refine El (sT (by assumption) (dy Y Y)) (Em Y (Eo (ab Y) (Eo (ab Y) (Eo (aC Y Y X) (Eo (aO Y) ?_)))))
   refine Eo (am (dc _) Y ⟨H,Er⟩) ?_
   refine Eo (sT (by assumption) (dy Y Y)) (El (bk Y Y) (Ep (aa (aG Y (a7 11 aZ Z S (El (ak 0 Y Y Y) (Em Y (Em Y (El (aC Y Y X) ?_)))))))))
   refine El (aO Y) (Em Y (Em Y (El (aC Y Y X) (El (aO Y) ?_))))
   refine El (am (m2) Y ⟨H,H,Er⟩) ?_
   refine El (am (m3) Y ⟨H,H,Er⟩) ?_
   refine Ep (aA 0 Y Y Y Y Y (leN Y) Y (Ep (aa ?_)))
   apply iD (Γ1 := [(0,_),(1,_),(2,_),(3,_),(8,_),(9,_),(16,_),(17,_),(18,_)]) (M1 := [_,_,_,_]) 12 3 [] [10,11] aZ Z S
   ·refine Em Y (Em Y (El (ak 0 Y Y Y) (Em Y (El (bH Y) (El (aj Y) (El (qI 3 Y Y Y) ?_))))))
    refine El (am (d1) Y ⟨H,H,Er⟩) ?_
    refine Em Y (El (ar Y Y) (El (ar Y Y) (El (ar Y Y) (Ep ?_))))
    refine nZ (Γe := [(0,_),(1,_),(2,_),(3,_),(8,_),(9,_),(16,_),(17,_),(18,_),(54,_),(55,_),(56,_),(63,_)]) (rem := [12,13]) Y Ej Y ?_
    refine an (rem' := [13]) (i:=12) Z Y Y ?_ (iC.cons Y (StepG.plain (ar Y Y) Y Y (ltN Y)) Y (iC.cons Y (StepG.plain (ar Y Y) Y Y (ltN Y)) Y iC.nil))
    refine El (ao Y Y X) (Ep ?_)
    refine ⟨rfl,?_⟩
    refine an (rem' := []) (i:=13) Z Y Y ?_ (iC.cons Y (StepG.plain (ar Y Y) Y Y (ltN Y)) Y (iC.cons Y (StepG.plain (ar Y Y) Y Y (ltN Y)) Y iC.nil))
    (refine aw 2 Y Y Y ?_ Y ?_;omega)
    refine Ep ?_
    refine ⟨rfl,?_⟩
    refine aU Ej (SubM.refl _) (iC.cons Y (StepG.plain (ar Y Y) Y Y (ltN Y)) Y (iC.cons Y (StepG.plain (ar Y Y) Y Y (ltN Y)) Y iC.nil))
   ·refine aE (aa (ai (El (bK _ 1 Y Y X) (Em Y (Ep ?_)))))
    refine aP (j+1) (hj) X Eh (.drop (.drop (.keep (oF (h:=fun q=>jr (g c) (f q) (f c) (g q) last) Y) (.keep Ek (.nil)))))
 ·have he:j=w:=by omega
  subst he
  refine ae (ai (El (sF X (a6 Y Y)) (Ep (aa (ae (aB Y (aY (av (av ?_)))))))))
  refine aF (aa (ae (ai (Em Y (En Y (Ep (aa (aD (cq (t:=8) (i:=0) Y Y ?_)))))))))
  exact pC (σ:=Unit) (ψ:=fun _=>slT (.agg 2) j (fun q=>aL (jr (g c) (f q) (f c) (g q) last))) () Tryz.results152 (.tmp Y (d5 fun q hq=>gN (by rw [if_pos hq]))) (SubM.refl _)
end Tor
end
section
namespace Tor
open Go Go.RowKit Go.Proofs
def lz (n:Nat) (x:Int):Prop:=(aJ x.natAbs).length≤n
theorem lz.small {n:Nat} {x:Int} (h:lz n x) (hn:n≤1099511627776):bm x:=Nat.le_trans h hn
theorem lz.small0 {n:Nat} {x:Int} (h:lz n x) (hn:n≤1099511627700):c6 x:=Nat.le_trans h hn
theorem lz.mono {n m:Nat} {x:Int} (h:lz n x) (hn:n≤m):lz m x:=Nat.le_trans h hn
theorem vT {n:Nat} {x y:Int} (h:lz n y) (hl:x.natAbs≤y.natAbs):lz n x:=Nat.le_trans (cf hl) h
theorem lz.lt {n:Nat} {x:Int} (h:lz n x):x.natAbs<4294967296^n:=Nat.lt_of_lt_of_le (cX _) (Nat.pow_le_pow_right S h)
theorem d8 {n m:Nat} {x y:Int} (hx:lz n x) (hy:lz m y):lz (n+m) (x*y):=cx (by
 rw [Int.natAbs_mul,Nat.pow_add]
 have h1:=hx.lt
 have h2:=hy.lt
 exact Nat.mul_lt_mul'' h1 h2)
theorem zr {n:Nat} {x y:Int} (hx:lz n x) (hy:lz n y):lz (n+1) (x - y):=cx (by
 have h1:=hx.lt
 have h2:=hy.lt
 rw [Nat.pow_succ]
 generalize 4294967296^n=z at *
 omega)
theorem zt {n:Nat} {x y:Int} (hx:lz n x) (hy:lz n y):lz (n+1) (x+y):=cx (by
 have h1:=hx.lt
 have h2:=hy.lt
 rw [Nat.pow_succ]
 generalize 4294967296^n=z at *
 omega)
theorem zu {n:Nat} {x:Int} (h:lz n x):lz n (-x):=vT h X
theorem na (x q:Int):(x / q).natAbs≤x.natAbs:=Int.natAbs_ediv_le_natAbs x q
theorem C0 {n:Nat} {x:Int} (h:lz n x) (q:Int):lz n (x / q):=vT h (na x q)
theorem Bn (n:Nat):lz n 0:=Nat.zero_le _
theorem uA {n:Nat} (h:1≤n):lz n 1:=Nat.le_trans (cx (k:=1) S) h
theorem Bo {n:Nat} {p x y z:Int} (hp:lz n p) (hx:lz n x) (hy:lz n y) (hz:lz n z) (q:Int):lz (2*n+1) (jr p x y z q):=by
 unfold jr
 have h1:=d8 hp hx
 have h2:=d8 hy hz
 have h3:=zr h1 h2
 rw [show n+n+1=2*n+1 by omega] at h3
 exact C0 h3 q
theorem zv {n k c:Nat} {last:Int} {full:Bool} {R:Nat→Nat→Int} (h : ∀ i j,lz n (R i j)) : ∀ i j,lz (2*n+1) (gk k c last full R i j):=fun i j=>by
 unfold gk;split
 ·exact Bo (h _ _) (h _ _) (h _ _) (h _ _) _
 ·exact (h _ _).mono X
theorem mA {sv:Option Nat} {T:TypeId} {cap n w i:Nat} {R Ed:Nat→Nat→Int} {f:Nat→Int} (hf : ∀ j,f j=Ed i j):Own.le (aI sv T .one cap n (upd (fun q=>bJ w (if q<i then Ed q else R q)) i (bJ w f))) (aI sv T .one cap n (fun q=>bJ w (if q<i+1 then Ed q else R q))):=bh (fun q _=>by
 have e:f=Ed i:=funext hf
 show (if q=i then bJ w f else bJ w (if q<i then Ed q else R q))=_
 by_cases c:q=i
 ·rw [if_pos c,if_pos X,c,e]
 ·rw [if_neg c]
  by_cases c2:q<i
  ·rw [if_pos c2,if_pos X]
  ·rw [if_neg c2,if_neg X])
theorem p8 {sv:Option Nat} {T:TypeId} {cap n w i:Nat} {R Ed:Nat→Nat→Int} (hf : ∀ j,R i j=Ed i j):Own.le (aI sv T .one cap n (fun q=>bJ w (if q<i then Ed q else R q))) (aI sv T .one cap n (fun q=>bJ w (if q<i+1 then Ed q else R q))):=bh (fun q _=>by
 have e:R i=Ed i:=funext hf
 by_cases c:q=i
 ·subst c;rw [if_neg X,if_pos X,e]
 ·by_cases c2:q<i
  ·rw [if_pos c2,if_pos X]
  ·rw [if_neg c2,if_neg X])
theorem Bp:VT.le (one (.slice none 0 0)) (one (slV none 0 0)):=aq Y
instance {n:Nat} {f:Nat→Int} : Flat (bJ n f) .one:=by unfold bJ;infer_instance
attribute [local irreducible] J PJ aK one slT bR bC bv exT cj eP aT aI slV VT.le Ret bL xO
theorem xf (r:Nat) (φ:Nat→VT) [hF : ∀ i,Flat (φ i) .one] (hr:r≤1048576):OkM (σ:=Option Nat × Nat) Tryz.prog 125 [slT .one r φ] (fun s=>one (slV s.1 r s.2)) (fun s => [aI s.1 32 .one s.2 r φ]):=by
 refine OkM.enter Tryz.func125 Y Tryz.ntmps125 Y (fun w O => ?_)
 refine ae (ai (En Y (Ep (aa (ae (ae (ai (Em Y (El (qx Y) ?_)))))))))
 refine Ep (aa ?_)
 refine wr (t:=4) Y (fun b => ?_)
 refine pw (t:=4) Y (fun hb => ?_)
 refine a9 Y (fun hc => ?_) (fun hc => ?_)
 ·have h0:=hb hc
  subst h0
  refine ae (ai (En Y (Ep (aa (aD (aR (vq (n6 32 .one φ) ?_)))))))
  exact jq (σ:=Option Nat × Nat) (ψ:=fun s=>one (slV s.1 0 s.2)) (Ms:=fun s => [aI s.1 32 .one s.2 0 φ]) (none,0) Tryz.results125 (.tmp Y Bp) (SubM.refl _)
 ·refine az (aa (ae (ai (m5 (n:=0) Y Y Y Y Y ?_))))
  refine PartsK.nil (fun bl => ?_)
  refine Em Y ?_
  (refine cT 0 Y Y Y (leN Y) ?_ ?_ Y (ltN Y) (fun sv7 cap7 => ?_);omega;omega)
  refine En Y (Ep (aa (aD ?_)))
  exact jq (σ:=Option Nat × Nat) (ψ:=fun s=>one (slV s.1 r s.2)) (Ms:=fun s => [aI s.1 32 .one s.2 r φ]) (sv7,cap7) Tryz.results125 (.tmp Y (lO (Nat.zero_add r))) (.keep (gY (Nat.zero_add r) (fun q hq=>by rw [if_neg (Nat.not_lt_zero q),Nat.sub_zero])) .nil)
attribute [local irreducible] aL bJ
theorem Bq (b bs r cap:Nat) (last:Int) (odd:Bool) (ψ:VT) (w:Nat) (R:Nat→Nat→Int) (k c:Nat) (full:Bool) (n:Nat) (hk:k<r) (hc:c<w) (hw:w≤1048576) (hr:r≤1048576) (hl0:last≠0) (hn:2*n+1≤1099511627776) (hl:lz n last) (hR : ∀ i j,lz n (R i j)) :
  OkI Tryz.prog 127 [one (.pointer (some ⟨b,0,none⟩)),one (.int .i64 (k:Nat)),one (.int .i64 (c:Nat)),one (.bool full)] [eJ b (some bs) r cap last odd ψ,aI (some bs) 32 .one cap r (fun i=>bJ w (R i))]
   (fun _:Unit=>bv []) (fun _ => [eJ b (some bs) r cap (R k c) odd ψ,aI (some bs) 32 .one cap r (fun i=>bJ w (gk k c last full R i))]):=by
 have hrep:=fun f g (hf : ∀ j,lz n (f j)) (hg : ∀ j,lz n (g j))=>sP b (some bs) r cap last odd ψ w c f g hc hw hl0 (hl.small X) (fun j=>(hf j).small X) (fun j=>(hg j).small X) (fun j=>(d8 (hg c) (hf j)).small X) (fun j=>(d8 (hf c) (hg j)).small X) (fun j=>(zr (d8 (hg c) (hf j)) (d8 (hf c) (hg j))).small X)
 refine OkI.enter Tryz.func127 Y Tryz.ntmps127 Y (fun w0 O => ?_)
 refine ae (ai (Em Y (El (bH Y) (El (aj Y) (El (ak 0 Y Y Y) (Em Y (El (ao Y Y X) (El (bg 1 Y Y X) (En Y ?_)))))))))
 refine Ep (aa (ae (ae (ai (Em Y (El (bH Y) (El (aj Y) (El (ak 0 Y Y Y) (El (cw Y) ?_)))))))))
 refine Em Y (Ep (aa (au (co (Γ' := [(0,_),(1,_),(2,_),(3,_),(8,_),(21,_),(22,_),(23,_)]) Eg (SubM.refl _) ?_))))
 refine bB (σ:=Nat) (Γk := [(0,_),(1,_),(2,_),(3,_),(8,_),(21,_),(22,_)]) Eg (fun i => [(23,one (.int .i64 (i:Nat)))]) (fun i M0=>(M0.set 1 (aI (some bs) 32 .one cap r (fun q=>bJ w (if q<i then gk k c last full R q else R q))))) (fun i=>i≤r) (fun i=>r - i) (0) (Nat.zero_le _) Eh (.keep Ek (.keep Ek (.nil))) (fun i hi => ?_)
 refine bQ (Γ' := [(23,_),(0,_),(1,_),(2,_),(3,_),(8,_),(21,_),(22,_)]) (M' := [_,_]) Y Y ?_
 cases full with
 | true =>
  by_cases hi:i<r
  ·by_cases h1:k<i
   ·refine ae (ai (El (sT X (a6 Y Y)) (Ep (aa (ae (aG Y (az (aa (ae ?_)))))))))
    refine au (ae (ai (Em Y (El (ao Y Y X) (El (bg 1 Y Y X) (En Y (En Y (Ep (aa ?_)))))))))
    refine ae (ai (Em Y (Em Y (El (sT X (cW Y Y)) (Em Y (sn0 Y Y Y Y Y (sn0 Y Y Y Y Y (snU Y Y Y Y (snU Y Y Y Y ?_)))))))))
    refine snU Y Y Y Y (sn0 Y Y Y Y Y (El (bk Y Y) (Ep (aa (aG Y (a7 10 aZ Z S (Em Y (El (bH Y) (El (aj Y) ?_)))))))))
    refine El (ak 0 Y Y Y) (Em Y (Em Y (Em Y (Em Y (Em Y ?_)))))
    refine El (qJ (Min := [eJ b (some bs) r cap last odd ψ]) (Kp := [_]) (hrep (R i) (R k) (hR i) (hR k)) Y ⟨H,gN (by rw [if_neg (Nat.lt_irrefl i)]),H,H,Er⟩ (List.Perm.refl _)) ?_
    refine Ep (El (ao Y Y X) ?_)
    (refine aw 1 Y Y Y ?_ Y ?_;omega)
    refine Ep (aE (aa (ai (El (bK _ 1 Y Y X) (Em Y (Ep ?_))))))
    refine aP (i+1) (hi) X Eh (.keep Ek (.keep (mA (fun j=>by unfold gk;simp [h1])) (.nil)))
   ·by_cases h2:i<k
    ·refine ae (ai (El (sT X (a6 Y Y)) (Ep (aa (ae (aG Y (az (aa (ae ?_)))))))))
     refine au (ae (ai (Em Y (El (ao Y Y X) (El (bg 1 Y Y X) (En Y (En Y (Ep (aa ?_)))))))))
     refine ae (ai (Em Y (Em Y (El (sF X (cW Y Y)) (Em Y (Eo (ab Y) (Eo (ab Y) (Eo (ab Y) (Eo (ab Y) ?_)))))))))
     refine Eo (sT X (a6 Y Y)) (Eo (bk Y Y) (El (bE Y Y) (Ep (aa (aG Y (a7 10 aZ Z S (Em Y (El (bH Y) (El (aj Y) ?_)))))))))
     refine El (ak 0 Y Y Y) (Em Y (Em Y (Em Y (Em Y (Em Y ?_)))))
     refine El (qJ (Min := [eJ b (some bs) r cap last odd ψ]) (Kp := [_]) (hrep (R i) (R k) (hR i) (hR k)) Y ⟨H,gN (by rw [if_neg (Nat.lt_irrefl i)]),H,H,Er⟩ (List.Perm.refl _)) ?_
     refine Ep (El (ao Y Y X) ?_)
     (refine aw 1 Y Y Y ?_ Y ?_;omega)
     refine Ep (aE (aa (ai (El (bK _ 1 Y Y X) (Em Y (Ep ?_))))))
     refine aP (i+1) (hi) X Eh (.keep Ek (.keep (mA (fun j=>by unfold gk;simp [h2])) (.nil)))
    ·refine ae (ai (El (sT X (a6 Y Y)) (Ep (aa (ae (aG Y (az (aa (ae ?_)))))))))
     refine au (ae (ai (Em Y (El (ao Y Y X) (El (bg 1 Y Y X) (En Y (En Y (Ep (aa ?_)))))))))
     refine ae (ai (Em Y (Em Y (El (sF X (cW Y Y)) (Em Y (Eo (ab Y) (Eo (ab Y) (Eo (ab Y) (Eo (ab Y) ?_)))))))))
     refine Eo (sF X (a6 Y Y)) (Eo (bk Y Y) (El (bE Y Y) (Ep (aa (aB Y (az (aE (aa (ai ?_)))))))))
     refine El (bK _ 1 Y Y X) (Em Y (Ep ?_))
     refine aP (i+1) (hi) X Eh (.keep Ek (.keep (p8 (fun j=>by unfold gk;simp [h1,h2])) (.nil)))
  ·have he:i=r:=by omega
   subst he
   unfold bJ
   refine ae (ai (El (sF X (a6 Y Y)) (Ep (aa (ae (aB Y (aY (av (av ?_)))))))))
   refine aF (aa (ai (Em Y (Em Y (Em Y (El (aC Y Y X) (El (aO Y) (El (bH Y) (El (aj Y) ?_)))))))))
   refine aA 0 Y Y Y Y Y (leN Y) Y (Ep (ja ?_))
   exact lA (σ:=Unit) (ψ:=fun _=>bv []) () Tryz.results127 H (.keep Ek (.keep (bh fun q hq=>by rw [if_pos hq]) .nil))
 | false =>
  by_cases hi:i<r
  ·by_cases h1:k<i
   ·refine ae (ai (El (sT X (a6 Y Y)) (Ep (aa (ae (aG Y (az (aa (ae ?_)))))))))
    refine au (ae (ai (Em Y (El (ao Y Y X) (El (bg 1 Y Y X) (En Y (En Y (Ep (aa ?_)))))))))
    refine ae (ai (Em Y (Em Y (El (sT X (cW Y Y)) (Em Y (sn0 Y Y Y Y Y (sn0 Y Y Y Y Y (snU Y Y Y Y (snU Y Y Y Y ?_)))))))))
    refine snU Y Y Y Y (sn0 Y Y Y Y Y (El (bk Y Y) (Ep (aa (aG Y (a7 10 aZ Z S (Em Y (El (bH Y) (El (aj Y) ?_)))))))))
    refine El (ak 0 Y Y Y) (Em Y (Em Y (Em Y (Em Y (Em Y ?_)))))
    refine El (qJ (Min := [eJ b (some bs) r cap last odd ψ]) (Kp := [_]) (hrep (R i) (R k) (hR i) (hR k)) Y ⟨H,gN (by rw [if_neg (Nat.lt_irrefl i)]),H,H,Er⟩ (List.Perm.refl _)) ?_
    refine Ep (El (ao Y Y X) ?_)
    (refine aw 1 Y Y Y ?_ Y ?_;omega)
    refine Ep (aE (aa (ai (El (bK _ 1 Y Y X) (Em Y (Ep ?_))))))
    refine aP (i+1) (hi) X Eh (.keep Ek (.keep (mA (fun j=>by unfold gk;simp [h1])) (.nil)))
   ·refine ae (ai (El (sT X (a6 Y Y)) (Ep (aa (ae (aG Y (az (aa (ae ?_)))))))))
    refine au (ae (ai (Em Y (El (ao Y Y X) (El (bg 1 Y Y X) (En Y (En Y (Ep (aa ?_)))))))))
    refine ae (ai (Em Y (Em Y (El (sF X (cW Y Y)) (Em Y (Eo (ab Y) (Eo (ab Y) (sn0 Y Y Y Y Y (sn0 Y Y Y Y Y ?_)))))))))
    refine sn0 Y Y Y Y Y (Eo (bE Y Y) (El (bE Y Y) (Ep (aa (aB Y (az (aE (aa (ai ?_)))))))))
    refine El (bK _ 1 Y Y X) (Em Y (Ep ?_))
    refine aP (i+1) (hi) X Eh (.keep Ek (.keep (p8 (fun j=>by unfold gk;simp [h1])) (.nil)))
  ·have he:i=r:=by omega
   subst he
   unfold bJ
   refine ae (ai (El (sF X (a6 Y Y)) (Ep (aa (ae (aB Y (aY (av (av ?_)))))))))
   refine aF (aa (ai (Em Y (Em Y (Em Y (El (aC Y Y X) (El (aO Y) (El (bH Y) (El (aj Y) ?_)))))))))
   refine aA 0 Y Y Y Y Y (leN Y) Y (Ep (ja ?_))
   exact lA (σ:=Unit) (ψ:=fun _=>bv []) () Tryz.results127 H (.keep Ek (.keep (bh fun q hq=>by rw [if_pos hq]) .nil))
end Tor
end
section
namespace Tor
open Go Go.RowKit Go.Proofs
def lY (n:Nat):Nat→Nat
 | 0 => n
 | p + 1 => 2 * lY n p + 1
theorem lZ (n:Nat) : ∀ p,lY n p+1=(n+1)*2^p
 | 0 => by rw [Nat.pow_zero, Nat.mul_one]; rfl
 | p + 1 => by
  have:=lZ n p
  show 2*lY n p+1+1=_
  rw [Nat.pow_succ, ← Nat.mul_assoc, ← this]; omega
theorem vU {n p q:Nat} (h:p≤q):lY n p≤lY n q:=by
 have h1:=lZ n p
 have h2:=lZ n q
 have h3:(n+1)*2^p≤(n+1)*2^q:=Nat.mul_le_mul_left _ (Nat.pow_le_pow_right S h)
 omega
structure ElOk (n r:Nat) (e:ElS):Prop where
 p:e.piv.length≤r
 nz:e.last≠0
 last:lz (lY n e.piv.length) e.last
 R : ∀ i j,lz (lY n e.piv.length) (e.R i j)
theorem uC {n i k:Nat} {R:Nat→Nat→Int} (h : ∀ i j,lz n (R i j)) : ∀ q j,lz n (swp i k R q j):=fun q j=>by
 unfold swp;split
 ·exact h _ _
 ·split
  ·exact h _ _
  ·exact h _ _
theorem ElOk.start {n r:Nat} {F:Nat→Nat→Int} (hn:1≤n) (h : ∀ i j,lz n (F i j)):ElOk n r ⟨F,1,false, []⟩:=⟨Nat.zero_le _,(by decide:(1:Int)≠0),uA hn,h⟩
theorem ElOk.round {n r:Nat} {e:ElS} (h:ElOk n r e) {i c:Nat} (full:Bool) (hp:e.piv.length<r) (hn:swp i e.piv.length e.R e.piv.length c≠0) :
  ElOk n r ⟨gk e.piv.length c e.last full (swp i e.piv.length e.R),swp i e.piv.length e.R e.piv.length c,xor e.odd (decide (i≠e.piv.length)),e.piv ++ [c]⟩:=by
 have hl:(e.piv ++ [c]).length=e.piv.length+1:=by simp
 refine ⟨by rw [hl]; exact hp,hn,?_,fun i' j => ?_⟩
 ·show lz (lY n (e.piv ++ [c]).length) _
  rw [hl]; exact (uC h.R _ _).mono (vU (Nat.le_succ _))
 ·show lz (lY n (e.piv ++ [c]).length) _
  rw [hl]; exact zv (uC h.R) _ _
theorem uD {n r:Nat} (full:Bool) {F:Nat→Nat→Int} (hn:1≤n) (hF : ∀ i j,lz n (F i j)) : ∀ c,ElOk n r (elN r full F c)
 | 0 => ElOk.start hn hF
 | c + 1 => by
  have h:=uD (r:=r) full hn hF c
  show ElOk n r (elR r full c (elN r full F c))
  generalize elN r full F c=e at h
  rcases rZ e.R c e.piv.length r with h0 | ⟨i,hk,hi,h0,hn'⟩
  ·rw [oa h0]; exact h
  ·have hp:e.piv.length<r:=by omega
   rw [ob hp hk hi h0 hn']
   exact h.round full hp (by rw [gT]; exact hn')
def ElI (n r:Nat) (full:Bool) (F:Nat→Nat→Int) (c:Nat) (e:ElS):Prop:=e=elN r full F c∧ElOk n r e
abbrev rg (l:List Nat):Nat→VT:=fun q=>one (.int .i64 (l.getD q 0:Nat))
def vV (r w:Nat) (e:ElS):VT:=bR (.agg 5) (bC 5 [(0, .agg 4,bC 4 [(0, .one,slT .one r (fun i=>bJ w (e.R i))),(1, .agg 2,aL e.last),(3, .one,one (.bool e.odd))]),(4, .one,slT .one e.piv.length (rg e.piv))])
theorem zw (r w:Nat) (e:ElS):VT.le (bR (.agg 5) (bC 5 [(0, .one,slT .one r (fun i=>bJ w (e.R i))),(1, .agg 2,aL e.last),(3, .one,one (.bool e.odd)),(4, .one,slT .one e.piv.length (rg e.piv))])) (vV r w e) :=
 yu (yt (m:=5) (o:=0) (k:=4) (cs := [(0, .one,slT .one r (fun i=>bJ w (e.R i))),(1, .agg 2,aL e.last),(3, .one,one (.bool e.odd))]) (rest := [(4, .one,slT .one e.piv.length (rg e.piv))]) Y S)
theorem uE {b r cap:Nat} {sv:Option Nat} : Own.le (aT b 117 5 (ku (dX #[Value.slice none 0 0,Value.bool false,Value.slice none 0 0,Value.bool false,Value.slice none 0 0] [(0,Lay.agg 4),(4, .one)]) 0 (bC 4 (ku (ku (dX #[Value.slice none 0 0,Value.bool false,Value.slice none 0 0,Value.bool false] [(0, .one),(1,Lay.agg 2),(3, .one)]) 0 (one (slV sv r cap))) 1 (aL 1)))))
  (eJ b sv r cap 1 false (one (slV none 0 0))):=Cw (o:=0) (k:=4) (cs := [(0, .one,one (slV sv r cap)),(1, .agg 2,aL 1),(3, .one,one (.bool false))]) (rest := [(4, .one,one (.slice none 0 0))]) Y
theorem xg {b r cap:Nat} {last:Int} {odd:Bool} {sv svp:Option Nat} {capp c:Nat} {l:List Nat} : Own.le (eJ b sv r cap last odd (one (slV svp (l.length+1) capp))) (eJ b sv r cap last odd (one (slV svp (l ++ [c]).length capp))):=by
 rw [List.length_append]; exact Own.le_refl _
theorem zx {sv:Option Nat} {T:TypeId} {cap c:Nat} {l:List Nat} : Own.le (aI sv T .one cap (l.length+1) (fun q=>if q<l.length then rg l q else one (.int .i64 (c:Nat)))) (aI sv T .one cap (l ++ [c]).length (rg (l ++ [c]))):=gY (by simp) (fun q hq=>by
 show _=one (Value.int .i64 ((l ++ [c]).getD q 0:Nat))
 by_cases h:q<l.length
 ·rw [if_pos h]; show one (Value.int .i64 (l.getD q 0:Nat))=_;simp [List.getD,List.getElem?_append_left h]
 ·have:q=l.length:=by omega
  subst this;rw [if_neg h]; simp [List.getD])
attribute [local irreducible] J PJ aK one slT bR bC bv exT cj eP aT aI slV VT.le Ret bL xO
attribute [local irreducible] aL bJ
theorem C1 (r w cols:Nat) (F:Nat→Nat→Int) (full:Bool) (n:Nat) (hr:r≤1048576) (hw:w≤1048576) (hcw:cols≤w) (hn:1≤n) (hb:(n+1)*2^r≤1099511627776) (hF : ∀ i j,lz n (F i j)) :
  OkM (σ:=Nat × Option Nat × Nat × Option Nat × Nat) Tryz.prog 79 [slT .one r (fun i=>bJ w (F i)),one (.int .i64 (cols:Nat)),one (.bool full)] (fun s=>one (.pointer (some ⟨s.1,0,none⟩)))
   (fun s => [eJ s.1 s.2.1 r s.2.2.1 (elN r full F cols).last (elN r full F cols).odd (one (slV s.2.2.2.1 (elN r full F cols).piv.length s.2.2.2.2)),aI s.2.1 32 .one s.2.2.1 r (fun i=>bJ w ((elN r full F cols).R i)),aI s.2.2.2.1 3 .one s.2.2.2.2 (elN r full F cols).piv.length (rg (elN r full F cols).piv)]):=by
 refine OkM.enter Tryz.func79 Y Tryz.ntmps79 Y (fun w0 O => ?_)
 have hcl:=xf r (fun i=>bJ w (F i)) hr
 refine ae (ai (En Y (Ep (aa (im (ae (ai (Em Y ?_))))))))
 refine gw (hcl) Y ⟨H,Er⟩ Y Y (fun s12 => ?_)
 refine El (am (js _ X X) Y ⟨H,Er⟩) ?_
 refine stB Y Y Y (BuildK.cons Y Y Y (BuildK.cons Y Y Y (BuildK.nil (stB Y Y Y (BuildK.cons Y Y Y (BuildK.nil ?_))))))
 refine aV Y Y (ltN Y) (fun b16 => ?_)
 refine En Y (Ep (aa (ae (jZ (aa (ae (ae (ai (En Y ?_)))))))))
 refine Ep (aa (au ?_))
 obtain ⟨sv,cap⟩:=s12
 refine Cv (n6 3 .one (rg [])) (co (Γ' := [(1,_),(2,_),(6,_),(7,_),(8,_)]) Eg (SubM.refl _) ?_)
 refine bB (σ:=Nat × ElS × Option Nat × Nat) (Γk := [(1,_),(2,_),(6,_),(7,_)]) Eg (fun s => [(8,one (.int .i64 (s.1:Nat)))]) (fun s M0=>(((M0.set 2 (aI sv 32 .one cap r (fun i=>bJ w (s.2.1.R i)))).set 1 (eJ b16 sv r cap s.2.1.last s.2.1.odd (one (slV s.2.2.1 s.2.1.piv.length s.2.2.2)))).set 0 (aI s.2.2.1 3 .one s.2.2.2 s.2.1.piv.length (rg s.2.1.piv)))) (fun s=>s.1≤cols∧ElI n r full F s.1 s.2.1) (fun s=>cols - s.1) ((0,⟨F,1,false, []⟩,none,0)) (⟨Nat.zero_le _,rfl,ElOk.start hn hF⟩) Eh (.keep Ek (.keep (uE) (.keep Ek (.nil)))) (fun s hs => ?_)
 refine bQ (Γ' := [(8,_),(1,_),(2,_),(6,_),(7,_)]) (M' := [_,_,_]) Y Y ?_
 obtain ⟨c,e,svp,capp⟩:=s
 obtain ⟨hcc,hE,hO⟩:=hs
 dsimp only at hcc hE hO ⊢
 refine k9 (i:=2) (F:=sv=none→r=0) Y (fun g h hp he=>iT hp he) (fun hsv => ?_)
 have hpr:=hO.p
 by_cases hc:c<cols
 ·by_cases hp:e.piv.length<r
  ·obtain ⟨bs,rfl⟩:=gE hsv X
   have hbn:=lZ n (e.piv.length+1)
   have hbp:(n+1)*2^(e.piv.length+1)≤(n+1)*2^r:=Nat.mul_le_mul_left _ (Nat.pow_le_pow_right S hp)
   have hbb:2*lY n e.piv.length+1≤1099511627776:=by
    have:lY n (e.piv.length+1)=2*lY n e.piv.length+1:=rfl
    omega
   refine ae (ae (a7 17 aZ Z S (Em Y (Em Y (El (sT X (a6 Y Y)) (Em Y (Eo (ab Y) (Eo (bH Y) (Eo (aj Y) ?_)))))))))
   refine Eo (ak 1 Y Y Y) (Eo (cw Y) (Eo (ab Y) (Eo (bH Y) (Eo (aj Y) (Eo (aj Y) (Eo (ak 1 Y Y Y) (Eo (cw Y) (Eo (sT X (a6 Y Y)) (El (bk Y Y) ?_)))))))))
   refine Ep (Ep (aa (aG Y (az (aa (ae (au (ae (ai ?_)))))))))
   refine Em Y (El (bH Y) (El (aj Y) (El (ak 1 Y Y Y) (El (cw Y) (En Y (Ep (aa (ae (ai ?_)))))))))
   refine Em Y (En Y (Ep (aa (au (co (Γ' := [(1,_),(2,_),(6,_),(7,_),(8,_),(9,_),(10,_)]) Eg (SubM.refl _) ?_)))))
   refine bB (σ:=Nat) (Γk := [(1,_),(2,_),(6,_),(7,_),(8,_),(9,_)]) Eg (fun i => [(10,one (.int .i64 (i:Nat)))]) (fun i M0=>M0) (fun i=>e.piv.length≤i∧i≤r ∧ ∀ q,e.piv.length≤q→q<i→e.R q c=0) (fun i=>r - i) (e.piv.length) (⟨Nat.le_refl _,hpr,fun q h1 h2=>absurd h2 X⟩) Eh (.keep Ek (.keep Ek (.keep Ek (.nil)))) (fun i hi => ?_)
   refine bQ (Γ' := [(10,_),(1,_),(2,_),(6,_),(7,_),(8,_),(9,_)]) (M' := [_,_,_]) Y Y ?_
   obtain ⟨hi1,hi2,hi3⟩:=hi
   by_cases hi:i<r
   ·have hz:=eH (e.R i c)
    unfold bJ
    by_cases h0:e.R i c=0
    ·have hz1:=hz.2 h0
     refine ae (ae (ai (Em Y (Em Y (El (bH Y) (El (aj Y) (El (aj Y) (El (ak 1 Y Y Y) (El (cw Y) ?_)))))))))
     refine El (sT X (a6 Y Y)) (Ep (aa (aG Y (az (aa (ae (au (ae (ai ?_)))))))))
     refine Em Y (El (bH Y) (El (aj Y) (El (aj Y) (El (ak 1 Y Y Y) (Em Y (El (ao Y Y X) (El (bg 2 Y Y X) (Em Y (El (aC Y Y X) ?_)))))))))
     refine El (aO Y) ?_
     refine El (am (dc _) Y ⟨H,Er⟩) ?_
     refine El (sF X (dy Y Y)) (Ep (aa (aB Y (az (aE (aa (ai (Em Y (El (bK _ 1 Y Y X) ?_)))))))))
     refine En Y (Ep ?_)
     refine aP (i+1) (⟨by omega,hi,fun q h1 h2=>by by_cases h3:q=i;exact h3▸h0;exact hi3 q h1 X⟩) X Eh (.keep Ek (.keep Ek (.keep Ek (.nil))))
    ·have hz1:c9 (e.R i c)≠0:=fun h=>h0 (hz.1 h)
     refine ae (ae (ai (Em Y (Em Y (El (bH Y) (El (aj Y) (El (aj Y) (El (ak 1 Y Y Y) (El (cw Y) ?_)))))))))
     refine El (sT X (a6 Y Y)) (Ep (aa (aG Y (az (aa (ae (au (ae (ai ?_)))))))))
     refine Em Y (El (bH Y) (El (aj Y) (El (aj Y) (El (ak 1 Y Y Y) (Em Y (El (ao Y Y X) (El (bg 2 Y Y X) (Em Y (El (aC Y Y X) ?_)))))))))
     refine El (aO Y) ?_
     refine El (am (dc _) Y ⟨H,Er⟩) ?_
     refine El (sT (by assumption) (dy Y Y)) (Ep (aa (aG Y (ae (ai (Em Y (El (bH Y) (El (aj Y) (Em Y ?_)))))))))
     refine Em Y ?_
     refine gy (Min := [eJ b16 (some bs) r cap e.last e.odd (one (slV svp e.piv.length capp)),aI (some bs) 32 .one cap r (fun i=>slT (.agg 2) w fun j=>aL (e.R i j))]) (Kp := [_]) (zg b16 bs r cap e.last e.odd _ (fun i=>slT (.agg 2) w fun j=>aL (e.R i j)) i e.piv.length hi hp) Y ⟨H,H,H,Er⟩ (List.perm_append_comm (l₁ := [_]) (l₂ := [_,_])) Y Y (fun _ => ?_)
     refine Ep (aa (ae (ai (Em Y (El (bH Y) (El (aj Y) (Em Y (Em Y (Em Y ?_)))))))))
     have hst:=Bq b16 bs r cap e.last (xor e.odd (decide (i≠e.piv.length))) (one (slV svp e.piv.length capp)) w (swp i e.piv.length e.R) e.piv.length c full (lY n e.piv.length) hp X hw hr hO.nz hbb hO.last (uC hO.R)
     unfold bJ at hst
     refine AH (dI.refl _) (.keep Ek (.keep (bh (ψ:=fun q=>slT (.agg 2) w fun j=>aL (swp i e.piv.length e.R q j)) (fun q _=>AK (fun f:Nat→Int=>slT (.agg 2) w fun j=>aL (f j)) q)) (SubM.refl _))) ?_
     refine gy (Min := [_,_]) (Kp := [_]) hst Y ⟨H,H,H,H,Er⟩ (List.Perm.refl _) Y Y (fun _ => ?_)
     refine Ep (aa (ae (ai (Em Y (Em Y (El (bH Y) (El (aj Y) (El (ak 0 Y Y Y) (Em Y ?_)))))))))
     refine gv Y Y Y Y ?_
     (refine cT 2 Y Y Y (leN Y) ?_ ?_ Y (ltN Y) (fun sv85 cap85 => ?_);omega;omega)
     refine El (bH Y) (El (aj Y) (aA 0 Y Y Y Y Y (leN Y) Y (Ep (aa (aY (c8 Y (av (av (c8 Y ?_)))))))))
     refine aF (aa (ai (Em Y (El (bK _ 1 Y Y X) (En Y (Ep (nj (List.perm_append_comm (l₁ := [_,_]) (l₂ := [_])) ?_)))))))
     refine aP ((c+1,⟨gk e.piv.length c e.last full (swp i e.piv.length e.R),swp i e.piv.length e.R e.piv.length c,xor e.odd (decide (i≠e.piv.length)),e.piv ++ [c]⟩,sv85,cap85)) (⟨hc,(ob (full:=full) hp hi1 hi hi3 h0).symm.trans (congrArg (elR r full c) hE),hO.round full hp (by rw [gT]; exact h0)⟩) X Eh (.keep (zx) (.keep (xg) (.keep Ek (.nil))))
   ·have hi4:i=r:=by omega
    refine ae (ae (ai (Em Y (Em Y (El (bH Y) (El (aj Y) (El (aj Y) (El (ak 1 Y Y Y) (El (cw Y) ?_)))))))))
    refine El (sF X (a6 Y Y)) (Ep (aa (aB Y (aY (av (av (aF (aE (aa ?_)))))))))
    refine ai (Em Y (El (bK _ 1 Y Y X) (En Y (Ep ?_))))
    refine aP ((c+1,e,svp,capp)) (⟨hc,(oa (full:=full) (fun q h1 h2=>hi3 q h1 X)).symm.trans (congrArg (elR r full c) hE),hO⟩) X Eh (.keep Ek (.keep Ek (.keep Ek (.nil))))
  ·have hen:e=elN r full F cols:=hE.trans (yy (by rw [← hE]; exact hp) cols hcc).symm
   have hpr2:e.piv.length=r:=by omega
   rw [← hen]
   refine ae (ae (a7 17 aZ Z S (Em Y (Em Y (El (sT X (a6 Y Y)) (Em Y (Eo (ab Y) (Eo (bH Y) (Eo (aj Y) ?_)))))))))
   refine Eo (ak 1 Y Y Y) (Eo (cw Y) (Eo (ab Y) (Eo (bH Y) (Eo (aj Y) (Eo (aj Y) (Eo (ak 1 Y Y Y) (Eo (cw Y) (Eo (sF X (a6 Y Y)) (El (bk Y Y) ?_)))))))))
   refine Ep (Ep (aa (aB Y (aY (av (av (aF (aa (ae ?_)))))))))
   refine ai (Em Y (En Y (Ep (aa (aD (ee (nj (List.perm_append_comm (l₁ := [_]) (l₂ := [_,_])) ?_)))))))
   exact jq (b16,sv,cap,svp,capp) Tryz.results79 (.tmp Y H) (SubM.refl _)
 ·have hcl2:c=cols:=by omega
  subst hcl2
  rw [← hE]
  refine ae (ae (a7 17 aZ Z S (Em Y (Em Y (El (sF X (a6 Y Y)) (Em Y (sg0 Y Y Y Y (sg0 Y Y Y Y (sg0 Y Y Y Y ?_)))))))))
  refine sg0 Y Y Y Y (sg0 Y Y Y Y (sg0 Y Y Y Y (sg0 Y Y Y Y (sg0 Y Y Y Y (sg0 Y Y Y Y (sg0 Y Y Y Y (sg0 Y Y Y Y (sg0 Y Y Y Y (El (bE Y Y) ?_)))))))))
  refine Ep (Ep (aa (aB Y (aY (av (av (aF (aa (ae ?_)))))))))
  refine ai (Em Y (En Y (Ep (aa (aD (ee (nj (List.perm_append_comm (l₁ := [_]) (l₂ := [_,_])) ?_)))))))
  exact jq (b16,sv,cap,svp,capp) Tryz.results79 (.tmp Y H) (SubM.refl _)
theorem zy {r w:Nat} {e:ElS} {b:Nat} {sv svp:Option Nat} {cap capp:Nat} : Ent [eJ b sv r cap e.last e.odd (one (slV svp e.piv.length capp)),aI sv 32 .one cap r (fun i=>bJ w (e.R i)),aI svp 3 .one capp e.piv.length (rg e.piv)] (one (.pointer (some ⟨b,0,none⟩))) (vV r w e) :=
 Ent.then (Ent.ptrW List.mem_cons_self (qt.cons List.mem_cons_self (Ent.sl (List.mem_cons_of_mem _ List.mem_cons_self)) (qt.cons (List.mem_cons_of_mem _ List.mem_cons_self) (Ent.refl _) (qt.cons (List.mem_cons_of_mem _ (List.mem_cons_of_mem _ List.mem_cons_self)) (Ent.refl _)
  (qt.cons (List.mem_cons_of_mem _ (List.mem_cons_of_mem _ (List.mem_cons_of_mem _ List.mem_cons_self))) (Ent.sl (List.mem_cons_of_mem _ (List.mem_cons_of_mem _ List.mem_cons_self))) qt.nil))))) (zw r w e)
theorem Br (r w cols:Nat) (F:Nat→Nat→Int) (full:Bool) (n:Nat) (hr:r≤1048576) (hw:w≤1048576) (hcw:cols≤w) (hn:1≤n) (hb:(n+1)*2^r≤1099511627776) (hF : ∀ i j,lz n (F i j)) :
  Ok Tryz.prog 79 [slT .one r (fun i=>bJ w (F i)),one (.int .i64 (cols:Nat)),one (.bool full)] (vV r w (elN r full F cols)) :=
 (C1 r w cols F full n hr hw hcw hn hb hF).ok fun s=>zy
end Tor
end
section
namespace Tor
open Go Go.RowKit Go.Proofs
theorem kQ:bm 0:=Nat.zero_le _
def sQ (n r:Nat):Prop:=1≤n∧(n+1)*2^r≤1099511627700
theorem sQ.b {n r:Nat} (h:sQ n r):(n+1)*2^r≤1099511627776:=Nat.le_trans h.2 S
theorem sQ.lz {n r:Nat} (h:sQ n r) {e:ElS} (he:ElOk n r e) {x:Int} (hx:lz (lY n e.piv.length) x):lz 1099511627700 x:=hx.mono (by
 have h1:=vU (n:=n) he.p
 have h2:=lZ n r
 have h3:=h.2
 omega)
theorem C2 {n r:Nat} {F:Nat→Nat→Int} (he:sQ n r) (hF : ∀ i j,lz n (F i j)):lz 1099511627700 (Lin.bU r F):=by
 rw [← Lin.vR]
 have hok:=uD (r:=r) false he.1 hF r
 have h:=he.lz hok hok.last
 unfold Lin.ze
 split
 ·exact Bn _
 ·split
  ·exact zu h
  ·exact h
attribute [local irreducible] J PJ aK one slT bR bC bv exT cj eP aT aI slV VT.le Ret bL xO
attribute [local irreducible] aL bJ
theorem xh (r c:Nat) (F:Nat→Nat→Int):Ok Tryz.prog 78 [bW r c F] (one (.bool (decide (r=c)))):=by
 have hv:=fB r c F
 unfold bW at *
 refine Ok.enter Tryz.func78 Y Tryz.ntmps78 Y (fun w O => ?_)
 by_cases h:r=c
 ·rw [decide_eq_true h]
  refine ae (ai ?_)
  refine aV Y Y (ltN Y) (fun b1 => ?_)
  refine En Y (Ep (aa (ae (ai (El (aN 0 Y Y) ?_)))))
  refine El (am (hv) Y ⟨H,Er⟩) ?_
  refine Em Y (Eo (aj Y) (Eo (ak 0 Y Y Y) (Eo (aj Y) (Eo (ak 0 Y Y Y) (Eo (sT X (cg Y Y)) (El (bk Y Y) (En Y (Ep (aa ?_)))))))))
  refine aD ?_
  refine aS Tryz.results78 (.tmp Y H)
 ·rw [decide_eq_false h]
  refine ae (ai ?_)
  refine aV Y Y (ltN Y) (fun b1 => ?_)
  refine En Y (Ep (aa (ae (ai (El (aN 0 Y Y) ?_)))))
  refine El (am (hv) Y ⟨H,Er⟩) ?_
  refine Em Y (Eo (aj Y) (Eo (ak 0 Y Y Y) (Eo (aj Y) (Eo (ak 0 Y Y Y) (Eo (sF X (cg Y Y)) (El (bk Y Y) (En Y (Ep (aa ?_)))))))))
  refine aD ?_
  refine aS Tryz.results78 (.tmp Y H)
theorem uF (r:Nat) (F:Nat→Nat→Int) (n:Nat) (hr:r≤1048576) (he:sQ n r) (hF : ∀ i j,lz n (F i j)):Ok Tryz.prog 50 [bW r r F] (bv [aL (Lin.bU r F),one (.int .i64 0)]):=by
 have hs:=xh r r F
 rw [decide_eq_true Y] at hs
 have hru:=Br r r r F false n hr hr (Nat.le_refl _) he.1 he.b hF
 rw [← Lin.vR]
 obtain ⟨A,V,hEL⟩:=Lin.rd r r false F r (Nat.le_refl _)
 have hpr:=hEL.gj.pr
 unfold Lin.ze
 have hok:=uD (r:=r) false he.1 hF r
 generalize elN r false F r=e at *
 have hlast:bm e.last:=(he.lz hok hok.last).small S
 have hneg:=vA e.last hlast
 have hadd:=kb e.last 0 hlast kQ
 rw [Int.add_zero] at hadd
 unfold bW vV at *
 refine Ok.enter Tryz.func50 Y Tryz.ntmps50 Y (fun w O => ?_)
 by_cases h:e.piv.length<r
 ·rw [if_pos h]
  refine ae (ai ?_)
  refine aV Y Y (ltN Y) (fun b1 => ?_)
  refine aH (T:=37) Y (ltN Y) (fun b2 => ?_)
  refine En Y (Ep (aa (ae (ae (ai (El (aN 1 Y Y) ?_))))))
  refine El (am (hs) Y ⟨H,Er⟩) ?_
  refine El (cS Y) (Ep (aa (aB Y (az (aa (ae (ai (El (aj Y) (El (ak 1 Y Y Y) ?_)))))))))
  refine El (aj Y) (El (ak 1 Y Y Y) ?_)
  refine El (am (hru) Y ⟨H,H,H,Er⟩) ?_
  refine En Y (Ep (aa (ae (au (ae (a7 9 aZ Z S (Em Y (El (ew Y) (El (ey Y Y) ?_)))))))))
  refine El (aO Y) (El (aX Y) (El (aj Y) (El (ak 1 Y Y Y) (El (sT X (a6 Y Y)) (En Y (Ep (Ep (aa (aG Y ?_)))))))))
  refine ae (ai (stB Y Y Y (BuildK.nil (aA 0 Y Y Y Y Y (leN Y) Y (En Y (Ep (aa (aD (bI ?_)))))))))
  refine aR ?_
  refine dg Tryz.results50 (.cellB 0 Y Y Y (kj)) (.tmp Y H)
 ·rw [if_neg h]
  cases ho:e.odd
  ·simp only [ho] at *
   refine ae (ai ?_)
   refine aV Y Y (ltN Y) (fun b1 => ?_)
   refine aH (T:=37) Y (ltN Y) (fun b2 => ?_)
   refine En Y (Ep (aa (ae (ae (ai (El (aN 1 Y Y) ?_))))))
   refine El (am (hs) Y ⟨H,Er⟩) ?_
   refine El (cS Y) (Ep (aa (aB Y (az (aa (ae (ai (El (aj Y) (El (ak 1 Y Y Y) ?_)))))))))
   refine El (aj Y) (El (ak 1 Y Y Y) ?_)
   refine El (am (hru) Y ⟨H,H,H,Er⟩) ?_
   refine En Y (Ep (aa (ae (au (ae (a7 9 aZ Z S (Em Y (El (ew Y) (El (ey Y Y) ?_)))))))))
   refine El (aO Y) (El (aX Y) (El (aj Y) (El (ak 1 Y Y Y) (El (sF X (a6 Y Y)) (En Y (Ep (Ep (aa (aB Y ?_)))))))))
   refine ae (ai (Em Y (El (ew Y) (El (ey Y Y) (El (ey Y Y) (El (aO Y) (En Y (Ep (aa ?_)))))))))
   refine aB Y (az (aE (aa (ae (ai (Em Y (El (ew Y) (El (ey Y Y) (El (ey Y Y) ?_)))))))))
   refine El (aO Y) (stB Y Y Y (BuildK.nil ?_))
   refine El (am (hadd) Y ⟨H,(kj),Er⟩) ?_
   refine aA 0 Y Y Y Y Y (leN Y) Y (En Y (Ep (aa (aD ?_))))
   refine dg Tryz.results50 (.cellB 0 Y Y Y H) (.tmp Y H)
  ·simp only [ho] at *
   refine ae (ai ?_)
   refine aV Y Y (ltN Y) (fun b1 => ?_)
   refine aH (T:=37) Y (ltN Y) (fun b2 => ?_)
   refine En Y (Ep (aa (ae (ae (ai (El (aN 1 Y Y) ?_))))))
   refine El (am (hs) Y ⟨H,Er⟩) ?_
   refine El (cS Y) (Ep (aa (aB Y (az (aa (ae (ai (El (aj Y) (El (ak 1 Y Y Y) ?_)))))))))
   refine El (aj Y) (El (ak 1 Y Y Y) ?_)
   refine El (am (hru) Y ⟨H,H,H,Er⟩) ?_
   refine En Y (Ep (aa (ae (au (ae (a7 9 aZ Z S (Em Y (El (ew Y) (El (ey Y Y) ?_)))))))))
   refine El (aO Y) (El (aX Y) (El (aj Y) (El (ak 1 Y Y Y) (El (sF X (a6 Y Y)) (En Y (Ep (Ep (aa (aB Y ?_)))))))))
   refine ae (ai (Em Y (El (ew Y) (El (ey Y Y) (El (ey Y Y) (El (aO Y) (En Y (Ep (aa ?_)))))))))
   refine aG Y (ae (ai (Em Y (El (ew Y) (El (ey Y Y) (El (ey Y Y) (El (aO Y) ?_)))))))
   refine El (am (hneg) Y ⟨H,Er⟩) ?_
   refine aA 0 Y Y Y Y Y (leN Y) Y (En Y (Ep (aa (aD (bI (aR ?_))))))
   refine dg Tryz.results50 (.cellB 0 Y Y Y H) (.tmp Y H)
end Tor
end
section
namespace Tor
end Tor
namespace Tor.Lin
theorem zA (n m:Nat) (f:Nat→Rat):sm (n+m) f=sm n f+sm m (fun k=>f (n+k)):=by
 induction m with
 | zero => show sm n f = sm n f + 0; grind
 | succ m ih => rw [← Nat.add_assoc, sm, sm, ih]; grind
variable {r c:Nat} {F:Nat→Nat→Int} {b:Nat→Int} {e:ElS} {A:Nat→Nat→Int} {V:Nat→Nat→Rat}
end Tor.Lin
end
section
namespace Tor
open Go Go.RowKit Go.Proofs
def cof (n:Nat) (F:Nat→Nat→Int) (i j:Nat):Int:=Lin.AJ (i+j)*Lin.bU (n - 1) (fun a b=>F (Lin.skip i a) (Lin.skip j b))
attribute [local irreducible] J PJ aK one slT bR bC bv exT cj eP aT aI slV VT.le Ret bL xO
attribute [local irreducible] aL bJ
end Tor
end
section
namespace Tor
open Go Go.RowKit Go.Proofs
def fC (n:Nat) (F:Nat→Nat→Int):Nat→Nat→Int:=fun i k=>if k<n then F i k else (if i=k - n then 1 else 0)
def nf (n:Nat) (F:Nat→Nat→Int) (e:ElS):Nat→Nat→Int:=fun i j=>if e.piv.length<n - 1 then 0 else if e.piv.length<n then cof n F j i else if e.odd then -(e.R i (n+j)) else e.R i (n+j)
attribute [local irreducible] J PJ aK one slT bR bC bv exT cj eP aT aI slV VT.le Ret bL xO
attribute [local irreducible] aL bJ dC
end Tor
end
section
namespace Tor
open Go Go.RowKit Go.Proofs
def mB (r c:Nat) (l:List Int):VT:=bC 3 [(0, .one,one (.int .u8 r)),(1, .one,one (.int .u8 c)),(2, .one,gD .i8 l)]
theorem DL (n:Nat):(n:Int).tmod 5=((n % 5:Nat):Int):=by
 rw [Int.tmod_eq_emod_of_nonneg X]; omega
attribute [local irreducible] J PJ aK one slT bR bC bv exT cj eP aT aI slV VT.le Ret bL
attribute [local irreducible] aL dC
end Tor
end
section
namespace Tor
open Go Go.RowKit Go.Proofs
theorem xi {sv:Option Nat} {T:TypeId} {cap i:Nat} {h:Nat→Int} {x:Int} (hx:x=h i):Own.le (aI sv T (.agg 2) cap (i+1) (fun q=>if q<i then aL (h q) else aL x)) (aI sv T (.agg 2) cap (i+1) (fun q=>aL (h q))):=bh fun q hq=>by
 by_cases c:q<i
 ·rw [if_pos c]
 ·rw [if_neg c,hx,show q=i by omega]
attribute [local irreducible] J PJ aK one slT bR bC bv exT cj eP aT aI slV VT.le Ret bL
attribute [local irreducible] aL dC
end Tor
end
section
namespace Tor.Lin
theorem mC (x:Rat):0≤x*x:=by
 rcases Rat.le_total (a:=0) (b:=x) with h | h
 ·exact Rat.mul_nonneg h h
 ·have:=Rat.mul_nonneg (a := -x) (b := -x) (by grind) (by grind)
  grind
theorem zB {a b c d:Rat} (h:0≤a) (h1:a≤b) (h2:0≤c) (h3:c≤d):a*c≤b*d:=by
 have e1:=Rat.mul_le_mul_of_nonneg_left (c:=c) h1 h2
 have e2:=Rat.mul_le_mul_of_nonneg_left (c:=b) h3 (Rat.le_trans h h1)
 grind
theorem mD {n:Nat} {f:Nat→Rat} (h : ∀ i,i<n→0≤f i):0≤sm n f:=by
 induction n with
 | zero => exact Rat.le_refl
 | succ n ih =>
  have h1:=ih (fun i hi=>h i X)
  have h2:=h n X
  rw [sm]; grind
theorem sR {n:Nat} {f:Nat→Rat} (h : ∀ i,i<n→0≤f i) (h0:sm n f=0) : ∀ i,i<n→f i=0:=by
 induction n with
 | zero => intro i hi; omega
 | succ n ih =>
  have h1:=mD (fun i hi=>h i (show i<n+1 by omega)) (n:=n)
  have h2:=h n X
  rw [sm] at h0
  intro i hi
  by_cases e:i=n
  ·subst e;grind
  ·exact ih (fun i hi=>h i X) (by grind) i X
theorem xj {n m:Nat} {f:Nat→Rat} (h:m≤n) (h0 : ∀ j,m≤j→j<n→f j=0):sm n f=sm m f:=by
  induction n with
  | zero => have : m = 0 := by omega
            rw [this]
  | succ n ih =>
    by_cases e:m=n+1
    · rw [e]
    · rw [sm,ih X (fun j h1 h2=>h0 j h1 X),h0 n X X,Rat.add_zero]
def dot (m:Nat) (u v:Nat→Rat):Rat:=sm m (fun k=>u k*v k)
theorem jT (m:Nat) (u v:Nat→Rat):dot m u v=dot m v u:=be fun k _=>Rat.mul_comm _ _
theorem sS (m:Nat) (u:Nat→Rat):0≤dot m u u:=mD fun k _=>mC _
theorem zC {m:Nat} {u:Nat→Rat} (h:dot m u u=0) : ∀ k,k<m→u k=0:=fun k hk=>by
 have:=sR (fun i _=>mC (u i)) h k hk
 grind
def gsT (m:Nat) (A:Nat→Nat→Rat):Nat→Nat→Nat→Rat
 | 0 => fun _ _ => 0
 | i + 1 => fun j => if j = i then (fun k => A i k - sm i (fun t => dot m (A i) (gsT m A i t) / dot m (gsT m A i t) (gsT m A i t) * gsT m A i t k)) else gsT m A i j
def gsB (m:Nat) (A:Nat→Nat→Rat) (i:Nat):Nat→Rat:=gsT m A (i+1) i
def gsM (m:Nat) (A:Nat→Nat→Rat) (i t:Nat):Rat:=dot m (A i) (gsB m A t) / dot m (gsB m A t) (gsB m A t)
theorem zD {m:Nat} {A:Nat→Nat→Rat} : ∀ i j,j<i→gsT m A i j=gsB m A j
 | 0, j, h => absurd h (Nat.not_lt_zero _)
 | i + 1, j, h => by
  by_cases e:j=i
  ·rw [e]; rfl
  ·show (if j=i then _ else gsT m A i j)=_
   rw [if_neg e]; exact zD i j X
theorem rh (m:Nat) (A:Nat→Nat→Rat) (i k:Nat):gsB m A i k=A i k - sm i (fun t=>gsM m A i t*gsB m A t k):=by
 show (if i=i then (fun k=>A i k - sm i (fun t=>dot m (A i) (gsT m A i t) / dot m (gsT m A i t) (gsT m A i t)*gsT m A i t k)) else gsT m A i i) k=_
 rw [if_pos Y]
 show A i k - _=_
 congr 1
 exact be fun t ht=>by rw [zD i t ht]; rfl
theorem oG {m n:Nat} {u v w:Nat→Rat} {f:Nat→Rat} {b:Nat→Nat→Rat} (h : ∀ k,k<m→w k=v k - sm n (fun t=>f t*b t k)):dot m u w=dot m u v - sm n (fun t=>f t*dot m u (b t)):=by
 unfold dot
 rw [be (g:=fun k=>u k*v k - sm n (fun t=>f t*(u k*b t k))) (fun k hk=>by
  rw [h k hk]
  have:sm n (fun t=>f t*(u k*b t k))=sm n (fun t=>f t*b t k)*u k:=by
   rw [← io]; exact be fun t _=>by grind
  rw [this]; grind),mq,qP]
 congr 1
 exact be fun t _=>by
  rw [Rat.mul_comm, ← io]; exact be fun k _=>by grind
theorem vW (m:Nat) (A:Nat→Nat→Rat) (i t:Nat):gsM m A i t*dot m (gsB m A t) (gsB m A t)=dot m (A i) (gsB m A t):=by
 by_cases h:dot m (gsB m A t) (gsB m A t)=0
 ·have h0:=zC h
  have e:dot m (A i) (gsB m A t)=0:=ip fun k hk=>by rw [h0 k hk]; exact Rat.mul_zero _
  rw [h,e]; exact Rat.mul_zero _
 ·unfold gsM;exact Rat.div_mul_cancel h
theorem vX (m:Nat) (A:Nat→Nat→Rat) : ∀ i j,j<i→dot m (gsB m A i) (gsB m A j)=0:=by
 intro i
 induction i using Nat.strongRecOn with
 | _ i ih =>
  intro j hj
  rw [jT,oG (v:=A i) (f:=fun t=>gsM m A i t) (b:=gsB m A) (n:=i) (fun k _=>rh m A i k)]
  rw [gR hj (fun t ht hne=>by
   rcases Nat.lt_trichotomy t j with h | h | h
   ·rw [ih j hj t h]; exact Rat.mul_zero _
   ·exact absurd h hne
   ·rw [jT,ih t ht j h]; exact Rat.mul_zero _),vW,jT]
  grind
theorem C3 (m:Nat) (A:Nat→Nat→Rat) (i k:Nat):A i k=gsB m A i k+sm i (fun t=>gsM m A i t*gsB m A t k):=by
 rw [rh]; grind
theorem Bs (m:Nat) (A:Nat→Nat→Rat) (i:Nat):dot m (A i) (A i)=dot m (gsB m A i) (gsB m A i)+sm i (fun t=>gsM m A i t*gsM m A i t*dot m (gsB m A t) (gsB m A t)):=by
 have e1:=oG (m:=m) (u:=gsB m A i) (v:=A i) (w:=gsB m A i) (n:=i) (f:=fun t=>gsM m A i t) (b:=gsB m A) (fun k _=>rh m A i k)
 rw [ip (n:=i) (fun t ht=>by rw [vX m A i t ht]; exact Rat.mul_zero _)] at e1
 have e2:=oG (m:=m) (u:=A i) (v:=A i) (w:=gsB m A i) (n:=i) (f:=fun t=>gsM m A i t) (b:=gsB m A) (fun k _=>rh m A i k)
 have e3:dot m (gsB m A i) (A i)=dot m (A i) (gsB m A i):=jT _ _ _
 have e4:sm i (fun t=>gsM m A i t*dot m (A i) (gsB m A t))=sm i (fun t=>gsM m A i t*gsM m A i t*dot m (gsB m A t) (gsB m A t)):=be fun t _=>by rw [← vW]; grind
 rw [e4] at e2
 grind
theorem DM (m:Nat) (A:Nat→Nat→Rat) (i:Nat):dot m (gsB m A i) (gsB m A i)≤dot m (A i) (A i):=by
 have h:=Bs m A i
 have h2:0≤sm i (fun t=>gsM m A i t*gsM m A i t*dot m (gsB m A t) (gsB m A t)):=mD fun t _=>Rat.mul_nonneg (mC _) (sS _ _)
 grind
def pr:Nat→(Nat→Rat)→Rat
 | 0, _ => 1
 | n + 1, f => pr n f * f n
theorem oH {n:Nat} {f g:Nat→Rat} (h : ∀ i,i<n→f i=g i):pr n f=pr n g:=by
 induction n with
 | zero => rfl
 | succ n ih => rw [pr, pr, ih (fun i hi => h i X), h n X]
theorem zE (n:Nat) (f:Nat→Rat):pr (n+1) f=f 0*pr n (fun i=>f (i+1)):=by
 induction n with
 | zero => show 1 * f 0 = f 0 * 1; grind
 | succ n ih => rw [pr, ih, pr]; grind
theorem xk {n:Nat} {f:Nat→Rat} (h : ∀ i,i<n→0≤f i):0≤pr n f:=by
 induction n with
 | zero => show (0 : Rat) ≤ 1; decide
 | succ n ih => exact Rat.mul_nonneg (ih fun i hi => h i X) (h n X)
theorem Bt {n:Nat} {f g:Nat→Rat} (h0 : ∀ i,i<n→0≤f i) (h : ∀ i,i<n→f i≤g i):pr n f≤pr n g:=by
 induction n with
 | zero => exact Rat.le_refl
 | succ n ih => exact zB (xk fun i hi => h0 i X) (ih (fun i hi => h0 i X) fun i hi => h i X) (h0 n X) (h n X)
theorem ri : ∀ {n:Nat} {F:Nat→Nat→Rat},(∀ i j,i<j→j<n→F i j=0)→det n F=pr n (fun i=>F i i)
 | 0, _, _ => rfl
 | n + 1, F, h => by
  rw [det,gR (Nat.succ_pos n) (fun j hj hne=>by rw [h 0 j X hj]; grind),ri (n:=n) (fun i j hij hj=>h _ _ (by unfold skip;split <;> omega) (by unfold skip;split <;> omega)),zE]
  have:sgn 0=1:=rfl
  rw [this,Rat.one_mul]
  congr 1
theorem C4 (n:Nat) (A:Nat→Nat→Rat):det n A*det n A=pr n (fun i=>dot n (gsB n A i) (gsB n A i)):=by
 have e1:det n A=det n (n8 n (fun i t=>if t<i then gsM n A i t else if t=i then 1 else 0) (gsB n A)):=bG fun i j hi hj=>by
  show A i j=sm n (fun t=>(if t<i then gsM n A i t else if t=i then 1 else 0)*gsB n A t j)
  rw [xj (show i+1≤n by omega) (fun t h1 h2=>by rw [if_neg X,if_neg X]; exact Rat.zero_mul _),sm,if_neg (Nat.lt_irrefl _),if_pos Y,C3 n A i j]
  rw [be (f:=fun t=>(if t<i then gsM n A i t else if t=i then 1 else 0)*gsB n A t j) (g:=fun t=>gsM n A i t*gsB n A t j) (fun t ht=>by rw [if_pos ht])]
  grind
 have e2:det n (fun i t=>if t<i then gsM n A i t else if t=i then (1:Rat) else 0)=1:=by
  rw [ri (fun i j hij hj=>by rw [if_neg X,if_neg X])]
  rw [oH (g:=fun _=>1) (fun i _=>by rw [if_neg (Nat.lt_irrefl _),if_pos Y])]
  clear e1
  induction n with
  | zero => rfl
  | succ n ih => rw [pr, ih, Rat.one_mul]
 rw [qO,e2,Rat.one_mul] at e1
 rw [e1]
 have e3:det n (gsB n A)*det n (gsB n A)=det n (n8 n (gsB n A) (fun i j=>gsB n A j i)):=by
  rw [qO]
  congr 1
  exact (t6 n fT (gsB n A)).symm
 rw [e3,ri (fun i j hij hj=>by
  show sm n (fun k=>gsB n A i k*gsB n A j k)=0
  have:=vX n A j i hij
  rw [jT] at this;exact this)]
 exact oH fun i _=>rfl
theorem zF (n:Nat) (A:Nat→Nat→Rat):det n A*det n A≤pr n (fun i=>dot n (A i) (A i)):=by
 rw [C4]
 exact Bt (fun i _=>sS _ _) (fun i _=>DM _ _ _)
end Tor.Lin
end
section
namespace Tor
def iG (j:Nat) (g:Nat→Int):Nat→Int:=fun q=>if q=j then g (j+1) else if q=j+1 then g j else g q
def ph:Nat→(Nat→Int)→Nat→Int
 | 0, g => g
 | j + 1, g => if g j < g (j + 1) then ph j (iG j g) else g
def dH:Nat→(Nat→Int)→Nat→Int
 | 0, g => g
 | i + 1, g => ph i (dH i g)
theorem m0 {m:Nat} : ∀ {j:Nat} {g:Nat→Int},j≤m→(∀ a b,a<b→b≤m→a≠j→b≠j→g b≤g a)→(∀ b,j<b→b≤m→g b≤g j) → ∀ a b,a<b→b≤m→ph j g b≤ph j g a
 | 0, g, hj, h1, h2 => fun a b hab hb => by
  show g b≤g a
  by_cases e:a=0
  ·rw [e]; exact h2 b X hb
  ·exact h1 a b hab hb e X
 | j + 1, g, hj, h1, h2 => by
  show ∀ a b,a<b→b≤m→(if g j<g (j+1) then ph j (iG j g) else g) b≤(if g j<g (j+1) then ph j (iG j g) else g) a
  by_cases c:g j<g (j+1)
  ·rw [if_pos c]
   refine m0 X (fun a b hab hb ha hb' => ?_) (fun b h3 hb => ?_)
   ·unfold iG
    rw [if_neg ha,if_neg hb']
    by_cases e1:a=j+1
    ·rw [if_pos e1,if_neg X]; exact h1 j b X hb X X
    ·rw [if_neg e1]
     by_cases e2:b=j+1
     ·rw [if_pos e2]; exact h1 a j X X e1 X
     ·rw [if_neg e2]; exact h1 a b hab hb e1 e2
   ·unfold iG
    rw [if_neg (show ¬ b=j by omega),if_pos Y]
    by_cases e2:b=j+1
    ·rw [if_pos e2]; omega
    ·rw [if_neg e2]; exact h2 b X hb
  ·rw [if_neg c]
   intro a b hab hb
   by_cases e1:a=j+1
   ·rw [e1]; exact h2 b X hb
   ·by_cases e2:b=j+1
    ·rw [e2]
     by_cases e3:a=j
     ·rw [e3]; omega
     ·have:=h1 a j X X e1 X
      omega
    ·exact h1 a b hab hb e1 e2
theorem l0 (g:Nat→Int) : ∀ n, ∀ a b,a<b→b<n→dH n g b≤dH n g a
 | 0, a, b, h1, h2 => absurd h2 (Nat.not_lt_zero _)
 | n + 1, a, b, h1, h2 => m0 (m := n) (j := n) (Nat.le_refl n) (fun a b hab hb ha hb' => l0 g n a b hab X) (fun b h3 h4 => absurd h3 X) a b h1 X
def lst (n:Nat) (g:Nat→Int):List Int:=(List.range n).map g
theorem fD (n:Nat) (g:Nat→Int):lst (n+1) g=lst n g ++ [g n]:=by unfold lst;rw [List.range_succ,List.map_append]; rfl
theorem xl {n:Nat} {g h:Nat→Int} (e : ∀ i,i<n→g i=h i):lst n g=lst n h:=List.map_congr_left fun i hi=>e i (List.mem_range.1 hi)
theorem p9 {j:Nat} (g:Nat→Int) : ∀ {n:Nat},j+1<n→(lst n (iG j g)).Perm (lst n g)
 | 0, h => absurd h (Nat.not_lt_zero _)
 | n + 1, h => by
  by_cases e:n=j+1
  ·subst e
   rw [fD,fD,fD,fD,xl (g:=iG j g) (h:=g) (fun i hi=>by unfold iG;rw [if_neg X,if_neg X])]
   have e1:iG j g j=g (j+1):=by unfold iG;rw [if_pos Y]
   have e2:iG j g (j+1)=g j:=by unfold iG;rw [if_neg X,if_pos Y]
   rw [e1,e2,List.append_assoc,List.append_assoc]
   exact List.Perm.append_left _ (List.Perm.swap _ _ _)
  ·rw [fD,fD]
   have e1:iG j g n=g n:=by unfold iG;rw [if_neg X,if_neg X]
   rw [e1]
   exact (p9 g X).append_right _
theorem qa {n:Nat} : ∀ {j:Nat} {g:Nat→Int},j<n→(lst n (ph j g)).Perm (lst n g)
 | 0, g, _ => List.Perm.refl _
 | j + 1, g, h => by
  show (lst n (if g j<g (j+1) then ph j (iG j g) else g)).Perm _
  split
  ·exact (qa X).trans (p9 g h)
  ·exact List.Perm.refl _
theorem e6 {n:Nat} (g:Nat→Int) : ∀ {i:Nat},i≤n→(lst n (dH i g)).Perm (lst n g)
 | 0, _ => List.Perm.refl _
 | i + 1, h => (qa X).trans (e6 g X)
def prZ:Nat→(Nat→Int)→Int
 | 0, _ => 1
 | n + 1, g => prZ n g * g n
def prL (l:List Int):Int:=l.foldr (fun x y=>x*y) 1
theorem Bu (l:List Int) (x:Int):prL (l ++ [x])=prL l*x:=by
 induction l with
 | nil => show x * 1 = 1 * x; rw [Int.mul_one, Int.one_mul]
 | cons y l ih => show y * prL (l ++ [x]) = y * prL l * x; rw [ih, Int.mul_assoc]
theorem nt (n:Nat) (g:Nat→Int):prZ n g=prL (lst n g):=by
 induction n with
 | zero => rfl
 | succ n ih => rw [fD, Bu, ← ih]; rfl
theorem sU {l m:List Int} (h:l.Perm m):prL l=prL m:=by
 induction h with
 | nil => rfl
 | cons x h ih => show x * prL _ = x * prL _; rw [ih]
 | swap x y l => show y * (x * prL l) = x * (y * prL l); rw [← Int.mul_assoc, ← Int.mul_assoc, Int.mul_comm y x]
 | trans h1 h2 ih1 ih2 => exact ih1.trans ih2
theorem sV (n:Nat) (g:Nat→Int):prZ n (dH n g)=prZ n g:=by
 rw [nt,nt]; exact sU (e6 g (Nat.le_refl n))
end Tor
end
section
namespace Tor
open Go Go.RowKit Go.Proofs
def eR (c:Nat) (f:Nat→Int):Nat:=(bA c (fun k=>f k*f k)).natAbs
theorem kR (x:Int):0≤x*x:=by
 rw [← Int.natAbs_mul_self (a:=x)]; exact Int.natCast_nonneg _
theorem rj (c:Nat) (f:Nat→Int):0≤bA c (fun k=>f k*f k):=by
 induction c with
 | zero => exact Int.le_refl _
 | succ c ih =>
  show 0≤bA c (fun k=>f k*f k)+f c*f c
  have:=kR (f c)
  omega
theorem vY (c:Nat) (f:Nat→Int):((eR c f:Nat):Int)=bA c (fun k=>f k*f k):=Int.natAbs_of_nonneg (rj c f)
def isq:Nat→Nat
 | 0 => 0
 | a + 1 => if (isq a + 1) * (isq a + 1) ≤ a + 1 then isq a + 1 else isq a
theorem jU : ∀ a,isq a*isq a≤a∧a<(isq a+1)*(isq a+1)
 | 0 => ⟨by decide, by decide⟩
 | a + 1 => by
  obtain ⟨h1,h2⟩:=jU a
  show (if (isq a+1)*(isq a+1)≤a+1 then isq a+1 else isq a)*(if (isq a+1)*(isq a+1)≤a+1 then isq a+1 else isq a)≤a+1∧a+1<((if (isq a+1)*(isq a+1)≤a+1 then isq a+1 else isq a)+1)*((if (isq a+1)*(isq a+1)≤a+1 then isq a+1 else isq a)+1)
  split
  ·rename_i h
   have:(isq a+1)*(isq a+1)<(isq a+1+1)*(isq a+1+1):=Nat.mul_lt_mul'' X X
   exact ⟨h,by omega⟩
  ·exact ⟨by omega,by omega⟩
def upN (a:Nat):Nat:=if isq a*isq a<a then isq a+1 else isq a
theorem C5 (a:Nat):a≤upN a*upN a:=by
 have:=jU a
 unfold upN;split <;> omega
theorem C6 {a:Nat} (h:0<upN a):(upN a - 1)*(upN a - 1)<a:=by
 have h1:=jU a
 unfold upN at *
 split
 ·rename_i h2;rw [Nat.add_sub_cancel]; exact h2
 ·rename_i h2
  rw [if_neg h2] at h
  have:(isq a - 1)*(isq a - 1)<isq a*isq a:=Nat.mul_lt_mul'' X X
  omega
theorem C7 (a:Nat):isq a≤a:=by
 have h:=(jU a).1
 rcases Nat.eq_zero_or_pos (isq a) with h0 | h0
 ·omega
 ·exact Nat.le_trans (Nat.le_mul_of_pos_right _ h0) h
theorem zG {x:Int} (h:x.natAbs≤2^810):bm x:=dn h (Nat.pow_lt_pow_right (a:=2) (m:=810) (n:=2048) S S)
theorem zH {a:Nat} (h:a<2^800):a≤2^810:=Nat.le_of_lt (Nat.lt_of_lt_of_le h (Nat.pow_le_pow_right (n:=2) (i:=800) (j:=810) S S))
def prN:Nat→(Nat→Nat)→Nat
 | 0, _ => 1
 | n + 1, g => prN n g * g n
theorem l3 (n:Nat) (g:Nat→Nat):((prN n g:Nat):Int)=prZ n (fun i=>(g i:Int)):=by
 induction n with
 | zero => rfl
 | succ n ih => rw [prN, prZ, Int.natCast_mul, ih]
theorem rk {B n:Nat} {g:Nat→Nat} (h : ∀ i,i<n→g i≤B) : ∀ k,k≤n→prN k g≤B^k
 | 0, _ => Nat.le_refl _
 | k + 1, hk => by rw [prN, Nat.pow_succ]; exact Nat.mul_le_mul (rk h k X) (h k X)
theorem zI {B n:Nat} {g:Nat→Nat} (hB:1≤B) (hn:B^n<2^800) (h : ∀ i,i<n→g i≤B) {k:Nat} (hk:k≤n):prN k g<2^800 :=
 Nat.lt_of_le_of_lt (Nat.le_trans (rk h k hk) (Nat.pow_le_pow_right hB hk)) hn
theorem DY {B n:Nat} (hB:1≤B) (hn:B^n<2^800) (h:0<n):B<2^800:=by
 have:=Nat.pow_le_pow_right hB (show 1≤n from h)
 rw [Nat.pow_one] at this
 exact Nat.lt_of_le_of_lt this hn
theorem xm {x:Int} {n:Nat} (h:x=(n:Int)):VT.le (aL x) (aL (n:Int)):=h▸VT.le_refl _
attribute [local irreducible] J PJ aK one slT bR bC bv exT cj eP aT aI slV VT.le Ret bL
attribute [local irreducible] aL
end Tor
end
section
namespace Tor
open Go Go.RowKit Go.Proofs
attribute [local irreducible] J PJ aK one slT bR bC bv exT cj eP aT aI slV VT.le Ret bL
attribute [local irreducible] aL
theorem uG (n:Nat) (hn:n<18446744073709551616) (b:Bool) (hb:b=true↔2≤n∧n<2147483648∧pW n):Ok Tryz.prog 28 [one (.int .u64 (n:Nat))] (one (.bool b)):=by
 refine Ok.enter Tryz.func28 Y Tryz.ntmps28 Y (fun w O => ?_)
 by_cases h2:n<2
 ·have hf:b=false:=by cases b with | false=>rfl | true=>have:=hb.1 rfl;omega
  subst hf
  refine ae (ai (En Y (Ep (aa (ae (ae (ai (Em Y (El (sT X (a6 Y Y)) ?_)))))))))
  refine Em Y (sn0 Y Y Y Y Y (sn0 Y Y Y Y Y (El (bk Y Y) (Ep (aa (aG Y (ae (ai (En Y ?_)))))))))
  refine Ep (aa (aD (aR ?_)))
  refine aS Tryz.results28 (.tmp Y H)
 ·by_cases h3:n<2147483648
  ·refine ae (ai (En Y (Ep (aa (ae (ae (ai (Em Y (El (sF X (a6 Y Y)) ?_)))))))))
   refine Em Y (Eo (ab Y) (Eo (sF X (ff Y Y)) (El (bE Y Y) (Ep (aa (aB Y (az (aa (ae ?_)))))))))
   refine ae (ai (En Y (Ep (aa (au (co (Γ' := [(0,_),(2,_),(3,_)]) Eg (SubM.refl _) ?_))))))
   refine bB (σ:=Nat) (Γk := [(0,_)]) Eg (fun d => [(3,one (.int .u64 (d:Nat)))]) (fun d M0=>M0) (fun d=>2≤d∧d≤65536 ∧ ∀ e,2≤e→e<d→n % e≠0) (fun d=>65536 - d) (2) (⟨Nat.le_refl _,by decide,fun e h1 h2=>absurd h2 X⟩) Eh (.nil) (fun d hd => ?_)
   refine bQ (Γ' := [(3,_),(0,_)]) (M' := []) Y Y ?_
   obtain ⟨hd2,hd6,hd⟩:=hd
   have hm:d*d≤65536*65536:=Nat.mul_le_mul hd6 hd6
   by_cases hle:d*d≤n
   ·have hlt:d<65536:=by
     rcases Nat.lt_or_ge d 65536 with h | h
     ·exact h
     ·have:=Nat.mul_le_mul h h;omega
    by_cases h0:n % d=0
    ·have hf:b=false:=by cases b with | false=>rfl | true=>exact absurd h0 ((hb.1 rfl).2.2 d hd2 hle)
     subst hf
     refine ae (ae (ai (Em Y (Em Y (El (fk Y Y X) (Em Y (El (sT X (nC Y Y)) (Ep (aa ?_)))))))))
     refine aG Y (az (aa (ae (au (ae (ai (Em Y (Em Y (El (eK _ Y Y Y X) ?_)))))))))
     refine El (sT X (cg Y Y)) (Ep (aa (aG Y (ae (ai (En Y (Ep (aa (aD ?_)))))))))
     refine bI (aR (aR (bI (aR ?_))))
     refine aS Tryz.results28 (.tmp Y H)
    ·refine ae (ae (ai (Em Y (Em Y (El (fk Y Y X) (Em Y (El (sT X (nC Y Y)) (Ep (aa ?_)))))))))
     refine aG Y (az (aa (ae (au (ae (ai (Em Y (Em Y (El (eK _ Y Y Y X) ?_)))))))))
     refine El (sF X (cg Y Y)) (Ep (aa (aB Y (az (aE (aa (ai (Em Y (El (dJ (b:=1) Y Y X) ?_)))))))))
     refine En Y (Ep ?_)
     refine aP (d+1) (⟨by omega,hlt,fun e h1 h2=>by by_cases e1:e=d;exact e1▸h0;exact hd e h1 X⟩) X Eh (.nil)
   ·have ht:b=true:=hb.2 ⟨by omega,h3,fun e h1 h4=>hd e h1 (by
     rcases Nat.lt_or_ge e d with h | h
     ·exact h
     ·have:=Nat.mul_le_mul h h;omega)⟩
    subst ht
    refine ae (ae (ai (Em Y (Em Y (El (fk Y Y X) (Em Y (El (sF X (nC Y Y)) (Ep (aa ?_)))))))))
    refine aB Y (aY (av (av (aF (aa (ae (ai (En Y (Ep ?_)))))))))
    refine aa (aD ?_)
    refine aS Tryz.results28 (.tmp Y H)
  ·have hf:b=false:=by cases b with | false=>rfl | true=>have:=hb.1 rfl;omega
   subst hf
   refine ae (ai (En Y (Ep (aa (ae (ae (ai (Em Y (El (sF X (a6 Y Y)) ?_)))))))))
   refine Em Y (Eo (ab Y) (Eo (sT X (ff Y Y)) (El (bE Y Y) (Ep (aa (aG Y (ae (ai (En Y ?_)))))))))
   refine Ep (aa (aD (aR ?_)))
   refine aS Tryz.results28 (.tmp Y H)
theorem sW (n:Nat) (hn:n<18446744073709551616):Ok Tryz.prog 38 [one (.int .u64 (n:Nat))] (one (.int .u64 (bf eo n:Nat))):=by
 have hP:=fun m (hm:m<18446744073709551616)=>uG m hm (eo m) ue
 refine Ok.enter Tryz.func38 Y Tryz.ntmps38 Y (fun w O => ?_)
 refine ae (ai (En Y (Ep (aa (ae (ae (ai (Em Y (El (u9 Y Y) ?_)))))))))
 refine En Y (Ep (aa (au (lc (t:=3) (ψ:=one (.int .u64 ((min n 2147483648:Nat):Int))) Y (aq (by congr 1;omega)) (co (Γ' := [(2,_),(3,_)]) Eg (SubM.refl _) ?_)))))
 refine bB (σ:=Nat) (Γk := []) (dI.nil) (fun m => [(3,one (.int .u64 (m:Nat)))]) (fun m M0=>M0) (fun m=>m≤2147483648∧iR eo m=bf eo n) (fun m=>m) (min n 2147483648) (⟨Nat.min_le_right _ _,rfl⟩) Eh (.nil) (fun m hm => ?_)
 refine bQ (Γ' := [(3,_)]) (M' := []) Y Y ?_
 obtain ⟨hm,hI⟩:=hm
 cases m with
 | zero =>
  have hI:0=bf eo n:=hI
  refine ae (ae (ai (Em Y (El (sF X (cW Y Y)) (Ep (aa (aB Y (aY (av ?_)))))))))
  refine av (aF (aa (ae (ai (En Y (Ep (aa (aD ?_))))))))
  refine aS Tryz.results38 (.tmp Y (aq (by congr 1;omega)))
 | succ m =>
  have hI:(if eo m then m else iR eo m)=bf eo n:=hI
  have hp:=hP m X
  cases ht:eo m with
  | true =>
   rw [ht] at hp hI
   have hI:m=bf eo n:=hI
   refine ae (ae (ai (Em Y (El (sT X (cW Y Y)) (Ep (aa (aG Y (az (aa ?_)))))))))
   refine au (ae (ai (Em Y (El (i9 1 Y Y X X) (En Y (Ep (aa (ae (ai ?_)))))))))
   refine Em Y ?_
   refine El (sBt (by assumption) (am (hP _ X) Y ⟨H,Er⟩)) ?_
   refine En Y (Ep (aa (ae (ai (Em Y (Ep (aa (aG Y (ae ?_)))))))))
   refine ai (Em Y (En Y (Ep (aa (aD (bI (aR (bI (aR ?_)))))))))
   refine aS Tryz.results38 (.tmp Y (aq (by congr 1;omega)))
  | false =>
   rw [ht] at hp hI
   have hI:iR eo m=bf eo n:=hI
   refine ae (ae (ai (Em Y (El (sT X (cW Y Y)) (Ep (aa (aG Y (az (aa ?_)))))))))
   refine au (ae (ai (Em Y (El (i9 1 Y Y X X) (En Y (Ep (aa (ae (ai ?_)))))))))
   refine Em Y ?_
   refine El (sBf (by assumption) (am (hP _ X) Y ⟨H,Er⟩)) ?_
   refine En Y (Ep (aa (ae (ai (Em Y (Ep (aa (aB Y (az ?_)))))))))
   refine aE ?_
   refine aP (m) (⟨by omega,hI⟩) X Eh (.nil)
end Tor
end
