/-
  Theorems that the proofs of laws of this seat rest on.
  No condition.
-/
import Derived.Test.YtbgloceimmbliaaGreatEA7
set_option linter.unusedVariables false
set_option linter.unusedSimpArgs false
section
namespace Tor
open Go Go.RowKit Go.Proofs
def uh (p:Nat):Prop := ∀ x,x<p→x≠0→(x^(p - 2) % p)*x % p=1
def ui (p n:Nat) (F:Nat→Nat→Int):Prop := ∀ u:Nat→Int,(∀ h,h<n→(p:Int)∣bA n (fun j=>F h j*u j)) → ∀ j,j<n→(p:Int)∣u j
abbrev CI (p n:Nat) (F:Nat→Nat→Int):Type := { s:(Nat→Nat) × (Nat→Nat) × (Nat→Nat→Nat) // EchI p n F n s.2.2 }
abbrev Dq (sv:Option Nat) (cap k:Nat):Own:=aI sv 3 .one cap k (fun q=>one (.int .i64 (q:Nat)))
theorem A6:VT.le (one (.slice none 0 0)) (one (slV none 0 0)):=ar Y
theorem mv {sv:Option Nat} {T:TypeId} {cap c j:Nat} {G DP:Nat→Nat} : Own.le (aI sv T .one cap c (upd (fun q=>one (.int .u64 ((if q<j then G q else DP q:Nat)))) j (one (.int .u64 (G j:Nat))))) (aI sv T .one cap c (fun q=>one (.int .u64 ((if q<j+1 then G q else DP q:Nat))))):=be fun q _=>by
 unfold upd
 by_cases h:q=j
 ·subst h;rw [if_pos Y,if_pos (Nat.lt_succ_self q)]
 ·rw [if_neg h]
  dsimp only
  by_cases h2:q<j
  ·rw [if_pos h2,if_pos Z]
  ·rw [if_neg h2,if_neg Z]
theorem y4 (a b c:Own) (l:Mem):(a :: b :: c :: l).Perm ([c,b] ++ (a :: l)) :=
 ((List.Perm.swap c b l).cons a).trans ((List.Perm.swap c a (b :: l)).trans ((List.Perm.swap b a l).cons c))
theorem CJ {c n h p v:Nat} {B C:Nat→Nat} {W:Nat→Nat→Nat} : Own.le (rwO 44 .one c n B C (fun a q=>one (.int .u64 ((if a<h then ia p v h W a q else W a q:Nat)))) (fun q=>if q=h then true else false)) (rwO 44 .one c n B C (fun a q=>one (.int .u64 ((if a<h+1 then ia p v h W a q else W a q:Nat)))) (fun q=>if q=h then true else false)) :=
 kE (fun _ _=>rfl) (fun _ _ _=>⟨rfl,rfl⟩) fun a q _ ha _=>by
  have:a≠h:=fun e=>by rw [if_pos e] at ha;cases ha
  by_cases h2:a<h
  ·rw [if_pos h2,if_pos Z]; exact VT.le_refl _
  ·rw [if_neg h2,if_neg Z]; exact VT.le_refl _
theorem y5 (a b c:Own) (l:Mem):(a :: b :: c :: l).Perm (c :: b :: a :: l) :=
 ((List.Perm.swap c b l).cons a).trans ((List.Perm.swap c a (b :: l)).trans ((List.Perm.swap b a l).cons c))
theorem Dr {c n h k p v:Nat} {B C:Nat→Nat} {W:Nat→Nat→Nat} (hne : ¬ h=k):Own.le (rwO 44 .one c n (fun q=>if q=h then B h else B q) (fun q=>if q=h then C h else C q) (fun q=>if q=h then (fun j=>one (.int .u64 ((W h j+(0+p - W h k) % p*(v*W k j % p) % p) % p:Nat))) else (fun j=>one (.int .u64 ((if q<h then ia p v k W q j else W q j:Nat))))) (fun q=>if q=h then false else (if q=h then true else (if q=k then true else false)))) (rwO 44 .one c n B C (fun a q=>one (.int .u64 ((if a<h+1 then ia p v k W a q else W a q:Nat)))) (fun q=>if q=k then true else false)) :=
 kE (fun q _=>by
  by_cases e:q=h
  ·rw [if_pos e,if_neg Z]
  ·rw [if_neg e,if_neg e]) (fun q _ _=>by
  by_cases e:q=h
  ·rw [if_pos e,if_pos e,e]; exact ⟨rfl,rfl⟩
  ·rw [if_neg e,if_neg e]; exact ⟨rfl,rfl⟩) fun q j _ _ _=>by
  by_cases e:q=h
  ·subst e;rw [if_pos Y,if_pos (Nat.lt_succ_self q)]; unfold ia;rw [if_neg hne]; exact VT.le_refl _
  ·rw [if_neg e]
   by_cases h2:q<h
   ·rw [if_pos h2,if_pos Z]; exact VT.le_refl _
   ·rw [if_neg h2,if_neg Z]; exact VT.le_refl _
theorem Ds {c n h k p v:Nat} {B C:Nat→Nat} {W:Nat→Nat→Nat} (hn:h=n):Own.le (rwO 44 .one c n (fun q=>if q=k then B k else B q) (fun q=>if q=k then C k else C q) (fun q=>if q=k then (fun j=>one (.int .u64 ((v*W k j % p:Nat)))) else (fun j=>one (.int .u64 ((if q<h then ia p v k W q j else W q j:Nat))))) (fun q=>if q=k then false else (if q=k then true else false))) (oy c n B C (ia p v k W) (fun _=>false)) :=
 kE (fun q _=>by
  by_cases e:q=k
  ·rw [if_pos e]
  ·rw [if_neg e,if_neg e]) (fun q _ _=>by
  by_cases e:q=k
  ·rw [if_pos e,if_pos e,e]; exact ⟨rfl,rfl⟩
  ·rw [if_neg e,if_neg e]; exact ⟨rfl,rfl⟩) fun q j hq _ _=>by
  by_cases e:q=k
  ·subst e;rw [if_pos Y]; unfold wN ia;rw [if_pos Y]; exact VT.le_refl _
  ·rw [if_neg e,if_pos Z]; exact VT.le_refl _
theorem wR {sv:Option Nat} {cap k:Nat} : Own.le (aI sv 3 .one cap (k+1) (fun q=>if q<k then one (.int .i64 (q:Nat)) else one (.int .i64 (k:Nat)))) (Dq sv cap (k+1)):=be fun q hq=>by
 by_cases h:q<k
 ·rw [if_pos h]
 ·rw [if_neg h,show q=k by omega]
theorem A7 {bz n c i k:Nat} {B C:Nat→Nat} : Own.le (aI (some bz) 173 .one n n (upd (upd (fun q=>one (slV (some (B q)) c (C q))) k (one (slV (some (B i)) c (C i)))) i (one (slV (some (B k)) c (C k))))) (sP bz n c (swp i k B) (swp i k C)):=be fun q _=>by
 unfold upd swp
 by_cases h1:q=i
 ·rw [if_pos h1,if_pos h1,if_pos h1]
 ·rw [if_neg h1,if_neg h1,if_neg h1]
  by_cases h2:q=k
  ·rw [if_pos h2,if_pos h2,if_pos h2]
  ·rw [if_neg h2,if_neg h2,if_neg h2]
theorem y6 {n c i k:Nat} {B C:Nat→Nat} {W:Nat→Nat→Nat} : Own.le (rwO 44 .one c n B C (swp i k (wN W)) (fun _=>false)) (oy c n B C (swp i k W) (fun _=>false)):=kE (fun _ _=>rfl) (fun _ _ _=>⟨rfl,rfl⟩) fun q j _ _ _=>by
 show VT.le (swp i k (wN W) q j) (one (.int .u64 (swp i k W q j:Nat)))
 unfold swp
 split
 ·exact VT.le_refl _
 ·split <;> exact VT.le_refl _
attribute [local irreducible] Tor.J Tor.PJ Tor.aK Tor.one Tor.slT Tor.bO Tor.bC Tor.bv Tor.exT Tor.cd Tor.eP Tor.aR Tor.aI Tor.slV Tor.VT.le Tor.Ret Tor.bJ
attribute [local irreducible] Tor.rwO
set_option maxHeartbeats 4000000 in
theorem uj (p n bz:Nat) (F:Nat→Nat→Int) (B C:Nat→Nat) (W:Nat→Nat→Nat) (hp2:2≤p) (hp:p<2147483648) (hinv:uh p) (hF:ui p n F) (hn:n≤1024) (h0:EchI p n F 0 W) :
  OkI (σ:=CI p n F) Tryz.prog 162 [one (.int .u64 (p:Nat)),one (slV (some bz) n n),one (.int .i64 ((n+n:Nat):Int))] [sP bz n (n+n) B C,oy (n+n) n B C W (fun _=>false)]
   (fun s=>slT .one n (fun q=>one (.int .i64 (q:Nat)))) (fun s => [sP bz n (n+n) s.1.1 s.1.2.1,oy (n+n) n s.1.1 s.1.2.1 s.1.2.2 (fun _=>false)]):=by
 refine OkI.enter Tryz.func162 Y Tryz.ntmps162 Y (fun w O => ?_)
 refine f8 (ConvM.nilSl0 (T:=3) (L := .one) (φ:=fun q=>one (.int .i64 (q:Nat))) _) ?_
 refine f8 (.ofPerm (List.perm_append_comm (l₁ := [_]) (l₂ := [_,_]))) (ae (ai (st (ah Y) Y (Run.nil (aa (ae (ai (st (ah Y) Y (Run.nil ?_)))))))))
 refine aa (ae (ae (ai (st (ah Y) Y (Run.nil (aa (au (nB (t:=7) (ψ:=one (slV none 0 0)) Y A6 (cn (Γ' := [(0,_),(1,_),(2,_),(6,_),(7,_),(8,_)]) DQ (SubM.refl _) ?_)))))))))
 refine bB (σ:=Nat × (Nat→Nat) × (Nat→Nat) × (Nat→Nat→Nat) × Option Nat × Nat) (Γk := [(0,_),(1,_),(2,_),(6,_)]) DQ (fun s => [(8,one (.int .i64 (s.1:Nat))),(7,one (slV s.2.2.2.2.1 s.1 s.2.2.2.2.2))]) (fun s M0=>(((M0.set 0 (sP bz n (n+n) s.2.1 s.2.2.1)).set 1 (oy (n+n) n s.2.1 s.2.2.1 s.2.2.2.1 (fun _=>false))).set 2 (Dq s.2.2.2.2.1 s.2.2.2.2.2 s.1))) (fun s=>s.1≤n∧EchI p n F s.1 s.2.2.2.1) (fun s=>n - s.1) ((0,B,C,W,none,0)) (⟨Nat.zero_le _,h0⟩) DR (.keep DU (.keep DU (.keep DU (.nil)))) (fun s hs => ?_)
 refine bQ (Γ' := [(8,_),(7,_),(0,_),(1,_),(2,_),(6,_)]) (M' := [_,_,_]) Y Y ?_
 obtain ⟨k,B,C,W,sv,cap⟩:=s
 obtain ⟨hk,hI⟩:=hs
 dsimp only at hk hI ⊢
 by_cases hkn:k<n
 ·obtain ⟨i,hf⟩:=hI.first hp2 hkn hF
  obtain ⟨f1,f2,f3,f4⟩:=hf
  have hse:=wQ bz n (n+n) k k i B C W Z Z ⟨f1,f2,f3,f4⟩
  refine ae (ae (ai (st (ab Y) Y (st (ab Y) Y (st (sT Z (a7 Y Y)) Y (st (ab Y) Y (sg1 Y Y (ab Y) Y (sg1 Y Y (cx Y) Y (sg1 Y Y (ab Y) Y ?_)))))))))
  refine sg1 Y Y (cx Y) Y (sg1 Y Y (sT Z (a7 Y Y)) Y (st (bj Y Y) Y (Run.nil (aa (aH Y (az (aa (ae (au ?_)))))))))
  refine ae (ai (st (ab Y) Y (st (cx Y) Y (st (ah Y) Y (Run.nil (aa (ae (ai (st (ab Y) Y ?_)))))))))
  refine st (ab Y) Y (st (ab Y) Y ?_)
  refine gn (Min := [_,_]) (Kp := [_]) hse Y ⟨VT.le_refl _,VT.le_refl _,VT.le_refl _,trivial⟩ (List.Perm.refl _) Y Y (fun _ => ?_)
  refine st (ah Y) Y (Run.nil (aa (ae (ae (ai (st (ab Y) Y (st (sF Z (a7 Y Y)) Y (Run.nil (aa ?_)))))))))
  refine aB Y (az (aa (ae ?_)))
  apply iE (Γ1 := [(0,_),(1,_),(2,_),(6,_),(7,_),(8,_),(9,_)]) (M1 := [_,_,_]) 12 7 [2,3] [] aZ X S
  ·refine st (ab Y) Y (st (ab Y) Y (st (ab Y) Y (st (ab Y) Y (st (ab Y) Y (st (ab Y) Y (st (ao Y Y Z) Y (st (bh 0 Y Y Z) Y (st (ab Y) Y (st (ab Y) Y ?_)))))))))
   refine st (ao Y Y Z) Y (st (bh 0 Y Y Z) Y (Run.nil ?_))
   refine yd (Γa := [(0,_),(1,_),(2,_),(6,_),(7,_),(8,_),(9,_),(10,_),(37,_),(38,_),(44,_),(48,_)]) (Γb := [(0,_),(1,_),(2,_),(6,_),(7,_),(8,_),(9,_),(10,_),(37,_),(38,_),(44,_),(48,_),(40,_)]) (Γc := [(0,_),(1,_),(2,_),(6,_),(7,_),(8,_),(9,_),(10,_),(37,_),(38,_),(44,_),(48,_),(39,_)]) (Γd := [(0,_),(1,_),(2,_),(6,_),(7,_),(8,_),(9,_),(10,_),(37,_),(38,_),(44,_),(48,_),(39,_),(40,_)]) (rem := [12,13,14,15]) Y DT Y DT Y DT Y DT Y ?_ ?_ ?_ ?_
   ·refine et (r1 := [3,12,13,14,15]) (r2 := [2,12,13,14,15]) (r3 := [2,3,13,14,15]) (i:=2) (j:=3) (k:=12) X Y Y Y Y Y Y ?_ ?_ ?_ iD.nil
    refine st (ab Y) Y (Run.nil ?_)
    refine ⟨rfl,?_⟩
    refine bK (rem' := [12,13,14,15]) (rem'' := [3,13,14,15]) (i:=3) (j:=12) X Y Y Y Y ?_ ?_ iD.nil
    refine st (ab Y) Y (Run.nil ?_)
    refine ⟨rfl,?_⟩
    refine an (rem' := [13,14,15]) (i:=12) X Y Y ?_ iD.nil
    refine st (ao Y Y Z) Y (Run.nil ?_)
    refine ⟨rfl,?_⟩
    refine an (rem' := [14,15]) (i:=13) X Y Y ?_ iD.nil
    (refine aw 0 Y Y Y ?_ Y ?_;omega)
    refine Run.nil ?_
    refine ⟨rfl,?_⟩
    refine an (rem' := [15]) (i:=14) X Y Y ?_ iD.nil
    refine st (ao Y Y Z) Y (Run.nil ?_)
    refine ⟨rfl,?_⟩
    refine an (rem' := []) (i:=15) X Y Y ?_ iD.nil
    (refine aw 0 Y Y Y ?_ Y ?_;omega)
    refine Run.nil ?_
    refine ⟨rfl,?_⟩
    refine aV DT (SubM.refl _) iD.nil
    refine st (ao Y Y Z) Y (Run.nil ?_)
    refine ⟨rfl,?_⟩
    refine bK (rem' := [13,14,15]) (rem'' := [3,14,15]) (i:=3) (j:=13) X Y Y Y Y ?_ ?_ iD.nil
    refine st (ab Y) Y (Run.nil ?_)
    refine ⟨rfl,?_⟩
    refine an (rem' := [14,15]) (i:=13) X Y Y ?_ iD.nil
    (refine aw 0 Y Y Y ?_ Y ?_;omega)
    refine Run.nil ?_
    refine ⟨rfl,?_⟩
    refine an (rem' := [15]) (i:=14) X Y Y ?_ iD.nil
    refine st (ao Y Y Z) Y (Run.nil ?_)
    refine ⟨rfl,?_⟩
    refine an (rem' := []) (i:=15) X Y Y ?_ iD.nil
    (refine aw 0 Y Y Y ?_ Y ?_;omega)
    refine Run.nil ?_
    refine ⟨rfl,?_⟩
    refine aV DT (SubM.refl _) iD.nil
    (refine aw 0 Y Y Y ?_ Y ?_;omega)
    refine Run.nil ?_
    refine ⟨rfl,?_⟩
    refine an (rem' := [14,15]) (i:=3) X Y Y ?_ iD.nil
    refine st (ab Y) Y (Run.nil ?_)
    refine ⟨rfl,?_⟩
    refine an (rem' := [15]) (i:=14) X Y Y ?_ iD.nil
    refine st (ao Y Y Z) Y (Run.nil ?_)
    refine ⟨rfl,?_⟩
    refine an (rem' := []) (i:=15) X Y Y ?_ iD.nil
    (refine aw 0 Y Y Y ?_ Y ?_;omega)
    refine Run.nil ?_
    refine ⟨rfl,?_⟩
    refine aV DT (SubM.refl _) iD.nil
    refine st (ab Y) Y (Run.nil ?_)
    refine ⟨rfl,?_⟩
    refine bK (rem' := [12,13,14,15]) (rem'' := [2,13,14,15]) (i:=2) (j:=12) X Y Y Y Y ?_ ?_ iD.nil
    refine st (ab Y) Y (Run.nil ?_)
    refine ⟨rfl,?_⟩
    refine an (rem' := [13,14,15]) (i:=12) X Y Y ?_ iD.nil
    refine st (ao Y Y Z) Y (Run.nil ?_)
    refine ⟨rfl,?_⟩
    refine an (rem' := [14,15]) (i:=13) X Y Y ?_ iD.nil
    (refine aw 0 Y Y Y ?_ Y ?_;omega)
    refine Run.nil ?_
    refine ⟨rfl,?_⟩
    refine an (rem' := [15]) (i:=14) X Y Y ?_ iD.nil
    refine st (ao Y Y Z) Y (Run.nil ?_)
    refine ⟨rfl,?_⟩
    refine an (rem' := []) (i:=15) X Y Y ?_ iD.nil
    (refine aw 0 Y Y Y ?_ Y ?_;omega)
    refine Run.nil ?_
    refine ⟨rfl,?_⟩
    refine aV DT (SubM.refl _) iD.nil
    refine st (ao Y Y Z) Y (Run.nil ?_)
    refine ⟨rfl,?_⟩
    refine bK (rem' := [13,14,15]) (rem'' := [2,14,15]) (i:=2) (j:=13) X Y Y Y Y ?_ ?_ iD.nil
    refine st (ab Y) Y (Run.nil ?_)
    refine ⟨rfl,?_⟩
    refine an (rem' := [14,15]) (i:=13) X Y Y ?_ iD.nil
    (refine aw 0 Y Y Y ?_ Y ?_;omega)
    refine Run.nil ?_
    refine ⟨rfl,?_⟩
    refine an (rem' := [15]) (i:=14) X Y Y ?_ iD.nil
    refine st (ao Y Y Z) Y (Run.nil ?_)
    refine ⟨rfl,?_⟩
    refine an (rem' := []) (i:=15) X Y Y ?_ iD.nil
    (refine aw 0 Y Y Y ?_ Y ?_;omega)
    refine Run.nil ?_
    refine ⟨rfl,?_⟩
    refine aV DT (SubM.refl _) iD.nil
    (refine aw 0 Y Y Y ?_ Y ?_;omega)
    refine Run.nil ?_
    refine ⟨rfl,?_⟩
    refine an (rem' := [14,15]) (i:=2) X Y Y ?_ iD.nil
    refine st (ab Y) Y (Run.nil ?_)
    refine ⟨rfl,?_⟩
    refine an (rem' := [15]) (i:=14) X Y Y ?_ iD.nil
    refine st (ao Y Y Z) Y (Run.nil ?_)
    refine ⟨rfl,?_⟩
    refine an (rem' := []) (i:=15) X Y Y ?_ iD.nil
    (refine aw 0 Y Y Y ?_ Y ?_;omega)
    refine Run.nil ?_
    refine ⟨rfl,?_⟩
    refine aV DT (SubM.refl _) iD.nil
    refine st (ao Y Y Z) Y (Run.nil ?_)
    refine ⟨rfl,?_⟩
    refine et (r1 := [3,13,14,15]) (r2 := [2,13,14,15]) (r3 := [2,3,14,15]) (i:=2) (j:=3) (k:=13) X Y Y Y Y Y Y ?_ ?_ ?_ iD.nil
    refine st (ab Y) Y (Run.nil ?_)
    refine ⟨rfl,?_⟩
    refine bK (rem' := [13,14,15]) (rem'' := [3,14,15]) (i:=3) (j:=13) X Y Y Y Y ?_ ?_ iD.nil
    refine st (ab Y) Y (Run.nil ?_)
    refine ⟨rfl,?_⟩
    refine an (rem' := [14,15]) (i:=13) X Y Y ?_ iD.nil
    (refine aw 0 Y Y Y ?_ Y ?_;omega)
    refine Run.nil ?_
    refine ⟨rfl,?_⟩
    refine an (rem' := [15]) (i:=14) X Y Y ?_ iD.nil
    refine st (ao Y Y Z) Y (Run.nil ?_)
    refine ⟨rfl,?_⟩
    refine an (rem' := []) (i:=15) X Y Y ?_ iD.nil
    (refine aw 0 Y Y Y ?_ Y ?_;omega)
    refine Run.nil ?_
    refine ⟨rfl,?_⟩
    refine aV DT (SubM.refl _) iD.nil
    (refine aw 0 Y Y Y ?_ Y ?_;omega)
    refine Run.nil ?_
    refine ⟨rfl,?_⟩
    refine an (rem' := [14,15]) (i:=3) X Y Y ?_ iD.nil
    refine st (ab Y) Y (Run.nil ?_)
    refine ⟨rfl,?_⟩
    refine an (rem' := [15]) (i:=14) X Y Y ?_ iD.nil
    refine st (ao Y Y Z) Y (Run.nil ?_)
    refine ⟨rfl,?_⟩
    refine an (rem' := []) (i:=15) X Y Y ?_ iD.nil
    (refine aw 0 Y Y Y ?_ Y ?_;omega)
    refine Run.nil ?_
    refine ⟨rfl,?_⟩
    refine aV DT (SubM.refl _) iD.nil
    refine st (ab Y) Y (Run.nil ?_)
    refine ⟨rfl,?_⟩
    refine bK (rem' := [13,14,15]) (rem'' := [2,14,15]) (i:=2) (j:=13) X Y Y Y Y ?_ ?_ iD.nil
    refine st (ab Y) Y (Run.nil ?_)
    refine ⟨rfl,?_⟩
    refine an (rem' := [14,15]) (i:=13) X Y Y ?_ iD.nil
    (refine aw 0 Y Y Y ?_ Y ?_;omega)
    refine Run.nil ?_
    refine ⟨rfl,?_⟩
    refine an (rem' := [15]) (i:=14) X Y Y ?_ iD.nil
    refine st (ao Y Y Z) Y (Run.nil ?_)
    refine ⟨rfl,?_⟩
    refine an (rem' := []) (i:=15) X Y Y ?_ iD.nil
    (refine aw 0 Y Y Y ?_ Y ?_;omega)
    refine Run.nil ?_
    refine ⟨rfl,?_⟩
    refine aV DT (SubM.refl _) iD.nil
    (refine aw 0 Y Y Y ?_ Y ?_;omega)
    refine Run.nil ?_
    refine ⟨rfl,?_⟩
    refine an (rem' := [14,15]) (i:=2) X Y Y ?_ iD.nil
    refine st (ab Y) Y (Run.nil ?_)
    refine ⟨rfl,?_⟩
    refine an (rem' := [15]) (i:=14) X Y Y ?_ iD.nil
    refine st (ao Y Y Z) Y (Run.nil ?_)
    refine ⟨rfl,?_⟩
    refine an (rem' := []) (i:=15) X Y Y ?_ iD.nil
    (refine aw 0 Y Y Y ?_ Y ?_;omega)
    refine Run.nil ?_
    refine ⟨rfl,?_⟩
    refine aV DT (SubM.refl _) iD.nil
    (refine aw 0 Y Y Y ?_ Y ?_;omega)
    refine Run.nil ?_
    refine ⟨rfl,?_⟩
    refine bK (rem' := [3,14,15]) (rem'' := [2,14,15]) (i:=2) (j:=3) X Y Y Y Y ?_ ?_ iD.nil
    refine st (ab Y) Y (Run.nil ?_)
    refine ⟨rfl,?_⟩
    refine an (rem' := [14,15]) (i:=3) X Y Y ?_ iD.nil
    refine st (ab Y) Y (Run.nil ?_)
    refine ⟨rfl,?_⟩
    refine an (rem' := [15]) (i:=14) X Y Y ?_ iD.nil
    refine st (ao Y Y Z) Y (Run.nil ?_)
    refine ⟨rfl,?_⟩
    refine an (rem' := []) (i:=15) X Y Y ?_ iD.nil
    (refine aw 0 Y Y Y ?_ Y ?_;omega)
    refine Run.nil ?_
    refine ⟨rfl,?_⟩
    refine aV DT (SubM.refl _) iD.nil
    refine st (ab Y) Y (Run.nil ?_)
    refine ⟨rfl,?_⟩
    refine an (rem' := [14,15]) (i:=2) X Y Y ?_ iD.nil
    refine st (ab Y) Y (Run.nil ?_)
    refine ⟨rfl,?_⟩
    refine an (rem' := [15]) (i:=14) X Y Y ?_ iD.nil
    refine st (ao Y Y Z) Y (Run.nil ?_)
    refine ⟨rfl,?_⟩
    refine an (rem' := []) (i:=15) X Y Y ?_ iD.nil
    (refine aw 0 Y Y Y ?_ Y ?_;omega)
    refine Run.nil ?_
    refine ⟨rfl,?_⟩
    refine aV DT (SubM.refl _) iD.nil
   ·refine bK (rem' := [12,13,14,15]) (rem'' := [2,13,14,15]) (i:=2) (j:=12) X Y Y Y Y ?_ ?_ iD.nil
    refine st (ab Y) Y (Run.nil ?_)
    refine ⟨rfl,?_⟩
    refine an (rem' := [13,14,15]) (i:=12) X Y Y ?_ iD.nil
    refine st (ao Y Y Z) Y (Run.nil ?_)
    refine ⟨rfl,?_⟩
    refine an (rem' := [14,15]) (i:=13) X Y Y ?_ iD.nil
    (refine aw 0 Y Y Y ?_ Y ?_;omega)
    refine Run.nil ?_
    refine ⟨rfl,?_⟩
    refine an (rem' := [15]) (i:=14) X Y Y ?_ iD.nil
    refine st (ao Y Y Z) Y (Run.nil ?_)
    refine ⟨rfl,?_⟩
    refine an (rem' := []) (i:=15) X Y Y ?_ iD.nil
    (refine aw 0 Y Y Y ?_ Y ?_;omega)
    refine Run.nil ?_
    refine ⟨rfl,?_⟩
    refine aV DT (SubM.refl _) iD.nil
    refine st (ao Y Y Z) Y (Run.nil ?_)
    refine ⟨rfl,?_⟩
    refine bK (rem' := [13,14,15]) (rem'' := [2,14,15]) (i:=2) (j:=13) X Y Y Y Y ?_ ?_ iD.nil
    refine st (ab Y) Y (Run.nil ?_)
    refine ⟨rfl,?_⟩
    refine an (rem' := [14,15]) (i:=13) X Y Y ?_ iD.nil
    (refine aw 0 Y Y Y ?_ Y ?_;omega)
    refine Run.nil ?_
    refine ⟨rfl,?_⟩
    refine an (rem' := [15]) (i:=14) X Y Y ?_ iD.nil
    refine st (ao Y Y Z) Y (Run.nil ?_)
    refine ⟨rfl,?_⟩
    refine an (rem' := []) (i:=15) X Y Y ?_ iD.nil
    (refine aw 0 Y Y Y ?_ Y ?_;omega)
    refine Run.nil ?_
    refine ⟨rfl,?_⟩
    refine aV DT (SubM.refl _) iD.nil
    (refine aw 0 Y Y Y ?_ Y ?_;omega)
    refine Run.nil ?_
    refine ⟨rfl,?_⟩
    refine an (rem' := [14,15]) (i:=2) X Y Y ?_ iD.nil
    refine st (ab Y) Y (Run.nil ?_)
    refine ⟨rfl,?_⟩
    refine an (rem' := [15]) (i:=14) X Y Y ?_ iD.nil
    refine st (ao Y Y Z) Y (Run.nil ?_)
    refine ⟨rfl,?_⟩
    refine an (rem' := []) (i:=15) X Y Y ?_ iD.nil
    (refine aw 0 Y Y Y ?_ Y ?_;omega)
    refine Run.nil ?_
    refine ⟨rfl,?_⟩
    refine aV DT (SubM.refl _) iD.nil
   ·refine bK (rem' := [12,13,14,15]) (rem'' := [3,13,14,15]) (i:=3) (j:=12) X Y Y Y Y ?_ ?_ iD.nil
    refine st (ab Y) Y (Run.nil ?_)
    refine ⟨rfl,?_⟩
    refine an (rem' := [13,14,15]) (i:=12) X Y Y ?_ iD.nil
    refine st (ao Y Y Z) Y (Run.nil ?_)
    refine ⟨rfl,?_⟩
    refine an (rem' := [14,15]) (i:=13) X Y Y ?_ iD.nil
    (refine aw 0 Y Y Y ?_ Y ?_;omega)
    refine Run.nil ?_
    refine ⟨rfl,?_⟩
    refine an (rem' := [15]) (i:=14) X Y Y ?_ iD.nil
    refine st (ao Y Y Z) Y (Run.nil ?_)
    refine ⟨rfl,?_⟩
    refine an (rem' := []) (i:=15) X Y Y ?_ iD.nil
    (refine aw 0 Y Y Y ?_ Y ?_;omega)
    refine Run.nil ?_
    refine ⟨rfl,?_⟩
    refine aV DT (SubM.refl _) iD.nil
    refine st (ao Y Y Z) Y (Run.nil ?_)
    refine ⟨rfl,?_⟩
    refine bK (rem' := [13,14,15]) (rem'' := [3,14,15]) (i:=3) (j:=13) X Y Y Y Y ?_ ?_ iD.nil
    refine st (ab Y) Y (Run.nil ?_)
    refine ⟨rfl,?_⟩
    refine an (rem' := [14,15]) (i:=13) X Y Y ?_ iD.nil
    (refine aw 0 Y Y Y ?_ Y ?_;omega)
    refine Run.nil ?_
    refine ⟨rfl,?_⟩
    refine an (rem' := [15]) (i:=14) X Y Y ?_ iD.nil
    refine st (ao Y Y Z) Y (Run.nil ?_)
    refine ⟨rfl,?_⟩
    refine an (rem' := []) (i:=15) X Y Y ?_ iD.nil
    (refine aw 0 Y Y Y ?_ Y ?_;omega)
    refine Run.nil ?_
    refine ⟨rfl,?_⟩
    refine aV DT (SubM.refl _) iD.nil
    (refine aw 0 Y Y Y ?_ Y ?_;omega)
    refine Run.nil ?_
    refine ⟨rfl,?_⟩
    refine an (rem' := [14,15]) (i:=3) X Y Y ?_ iD.nil
    refine st (ab Y) Y (Run.nil ?_)
    refine ⟨rfl,?_⟩
    refine an (rem' := [15]) (i:=14) X Y Y ?_ iD.nil
    refine st (ao Y Y Z) Y (Run.nil ?_)
    refine ⟨rfl,?_⟩
    refine an (rem' := []) (i:=15) X Y Y ?_ iD.nil
    (refine aw 0 Y Y Y ?_ Y ?_;omega)
    refine Run.nil ?_
    refine ⟨rfl,?_⟩
    refine aV DT (SubM.refl _) iD.nil
   ·refine an (rem' := [13,14,15]) (i:=12) X Y Y ?_ iD.nil
    refine st (ao Y Y Z) Y (Run.nil ?_)
    refine ⟨rfl,?_⟩
    refine an (rem' := [14,15]) (i:=13) X Y Y ?_ iD.nil
    (refine aw 0 Y Y Y ?_ Y ?_;omega)
    refine Run.nil ?_
    refine ⟨rfl,?_⟩
    refine an (rem' := [15]) (i:=14) X Y Y ?_ iD.nil
    refine st (ao Y Y Z) Y (Run.nil ?_)
    refine ⟨rfl,?_⟩
    refine an (rem' := []) (i:=15) X Y Y ?_ iD.nil
    (refine aw 0 Y Y Y ?_ Y ?_;omega)
    refine Run.nil ?_
    refine ⟨rfl,?_⟩
    refine aV DT (SubM.refl _) iD.nil
  ·refine fc (ConvM.le A7) (fc (ConvM.cons (ym f2 hkn)) ?_)
   have hI':=hI.swap hkn f2 f1
   have hnz:swp i k W k k≠0:=by rw [gM]; exact f3
   refine fc (ConvM.cons (ConvM.le y6)) ?_
   generalize swp i k W=W' at *
   generalize swp i k B=B' at *
   generalize swp i k C=C' at *
   have hWk:W' k k<p:=hI'.lt k k hkn Z
   have hin:=AU p (W' k k) hp2 Z hnz hWk
   have hin1:=hinv (W' k k) hWk hnz
   have hinlt:W' k k^(p - 2) % p<p:=Nat.mod_lt _ Z
   generalize W' k k^(p - 2) % p=v at *
   refine aa (ae (ai (st (ab Y) Y (st (ab Y) Y (st (ab Y) Y (st (ao Y Y Z) Y (st (bh 0 Y Y Z) Y (st (ab Y) Y (st (ao Y Y Z) Y ?_)))))))))
   refine st (n6 1 Y Y Z Y Z) Y ?_
   refine st (am (hin) Y ⟨VT.le_refl _,VT.le_refl _,trivial⟩) Y ?_
   refine st (ab Y) Y (st (aq Y Y) Y (st (aq Y Y) Y (st (ah Y) Y (st (ah Y) Y (Run.nil (aa (ae (ae (ai ?_)))))))))
   refine st (ab Y) Y (st (ab Y) Y (st (ao Y Y Z) Y (st (bh 0 Y Y Z) Y (st (cx Y) Y (st (ab Y) Y (Run.nil (aa (au (f8 (ConvM.cons (lC hkn Y)) ?_)))))))))
   refine cn (Γ' := [(0,_),(1,_),(2,_),(6,_),(7,_),(8,_),(9,_),(11,_),(66,_),(67,_),(68,_)]) DQ (SubM.refl _) ?_
   refine bB (σ:=Nat) (Γk := [(0,_),(1,_),(2,_),(6,_),(7,_),(8,_),(9,_),(11,_),(66,_),(67,_)]) DQ (fun j => [(68,one (.int .i64 (j:Nat)))]) (fun j M0=>(M0.set 1 (aI (some (B' k)) 44 .one (C' k) (n+n) (fun q=>one (.int .u64 ((if q<j then v*W' k q % p else W' k q:Nat))))))) (fun j=>j≤n+n) (fun j=>n+n - j) (0) (Nat.zero_le _) DR (.keep DU (.keep DU (.keep DU (.keep DU (.nil))))) (fun j hj => ?_)
   refine bQ (Γ' := [(68,_),(0,_),(1,_),(2,_),(6,_),(7,_),(8,_),(9,_),(11,_),(66,_),(67,_)]) (M' := [_,_,_,_]) Y Y ?_
   by_cases hj2:j<n+n
   ·have h1:=hI'.lt k j hkn hj2
    have hmu:=it p v (W' k j) Z Z Z Z
    refine ae (ai (st (sT Z (a7 Y Y)) Y (Run.nil (aa (ae (aH Y (az (aa (ae ?_)))))))))
    refine au (ae (ai (st (ab Y) Y (st (ao Y Y Z) Y (st (bh 1 Y Y Z) Y (st (ah Y) Y (st (ah Y) Y (Run.nil (aa ?_)))))))))
    refine a6 9 aZ X S (st (ab Y) Y (st (ab Y) Y (st (ao Y Y Z) Y (st (bh 0 Y Y Z) Y (st (ab Y) Y (st (ab Y) Y (st (ab Y) Y (st (ab Y) Y ?_))))))))
    refine st (am (hmu) Y ⟨VT.le_refl _,VT.le_refl _,(ar (by rw [if_neg (Nat.lt_irrefl j)])),trivial⟩) Y ?_
    refine Run.nil (st (ao Y Y Z) Y ?_)
    (refine aw 1 Y Y Y ?_ Y ?_;omega)
    refine Run.nil (aD (aa (ai (st (bI _ 1 Y Y Z) Y (st (ab Y) Y (Run.nil ?_))))))
    refine aQ (j+1) Z Z DR (.keep DU (.keep (mv) (.keep DU (.keep DU (.nil)))))
   ·have hjn:j=n+n:=by omega
    refine ae (ai (st (sF Z (a7 Y Y)) Y (Run.nil (aa (ae (aB Y (aX (av (av ?_)))))))))
    refine aF (aa (ae (ae (ai (st (ab Y) Y (st (cx Y) Y (st (ab Y) Y (Run.nil (aa ?_)))))))))
    refine au ?_
    refine f8 (ConvM.cons (ConvM.le (b:=aI (some (B' k)) 44 .one (C' k) (n+n) (fun q=>one (.int .u64 (v*W' k q % p:Nat)))) (be fun q hq=>by rw [if_pos Z]))) ?_
    refine cn (Γ' := [(0,_),(1,_),(2,_),(6,_),(7,_),(8,_),(9,_),(84,_),(85,_),(86,_)]) DQ (SubM.refl _) ?_
    refine bB (σ:=Nat) (Γk := [(0,_),(1,_),(2,_),(6,_),(7,_),(8,_),(9,_),(84,_),(85,_)]) DQ (fun h => [(86,one (.int .i64 (h:Nat)))]) (fun h M0=>(M0.set 2 (rwO 44 .one (n+n) n B' C' (fun a q=>one (.int .u64 ((if a<h then ia p v k W' a q else W' a q:Nat)))) (fun q=>if q=k then true else false)))) (fun h=>h≤n) (fun h=>n - h) (0) (Nat.zero_le _) DR (.keep DU (.keep DU (.keep DU (.keep DU (.nil))))) (fun h hh => ?_)
    refine bQ (Γ' := [(86,_),(0,_),(1,_),(2,_),(6,_),(7,_),(8,_),(9,_),(84,_),(85,_)]) (M' := [_,_,_,_]) Y Y ?_
    by_cases hh2:h<n
    ·by_cases hhk:h=k
     ·subst hhk
      refine ae (ai (st (sT Z (a7 Y Y)) Y (Run.nil (aa (ae (aH Y (az (aa (ae ?_)))))))))
      refine au (ae (ai (st (ab Y) Y (st (ao Y Y Z) Y (st (bh 0 Y Y Z) Y (st (ah Y) Y (st (ah Y) Y (Run.nil (aa ?_)))))))))
      refine ae (ai (st (ab Y) Y (st (ab Y) Y (st (sF Z (di Y Y)) Y (Run.nil (aa (aB Y (az (aD ?_)))))))))
      refine aa (ai (st (bI _ 1 Y Y Z) Y (st (ab Y) Y (Run.nil ?_))))
      refine aQ (h+1) Z Z DR (.keep DU (.keep DU (.keep (CJ) (.keep DU (.nil)))))
     ·refine f8 (ConvM.cons (ConvM.cons (lC hh2 (if_neg hhk)))) ?_
      refine f8 (ConvM.cons (ConvM.cons (ConvM.le (b:=aI (some (B' h)) 44 .one (C' h) (n+n) (fun q=>one (.int .u64 (W' h q:Nat)))) (be fun q hq=>by rw [if_neg (Nat.lt_irrefl h)])))) ?_
      have h1:=hI'.lt h k hh2 Z
      have hsu:=AT p 0 (W' h k) Z Z Z Z
      have had:=yY p (n+n) (B' h) (B' k) (C' h) (C' k) ((0+p - W' h k) % p) (W' h) (fun q=>v*W' k q % p) Z Z (Nat.mod_lt _ Z) (fun q hq=>hI'.lt h q hh2 hq) (fun q _=>Nat.mod_lt _ Z) Z
      refine ae (ai (st (sT Z (a7 Y Y)) Y (Run.nil (aa (ae (aH Y (az (aa (ae ?_)))))))))
      refine au (ae (ai (st (ab Y) Y (st (ao Y Y Z) Y (st (bh 0 Y Y Z) Y (st (ah Y) Y (st (ah Y) Y (Run.nil (aa ?_)))))))))
      refine ae (ai (st (ab Y) Y (st (ab Y) Y (st (sT Z (di Y Y)) Y (Run.nil (aa (aH Y (qt 16 12 aZ X S (st (ab Y) Y ?_)))))))))
      refine st (ab Y) Y (st (ab Y) Y (st (ab Y) Y (st (ao Y Y Z) Y (st (bh 0 Y Y Z) Y (st (ab Y) Y (st (ab Y) Y (st (ab Y) Y (st (ao Y Y Z) Y (st (bh 2 Y Y Z) Y ?_)))))))))
      refine st (am (hsu) Y ⟨VT.le_refl _,VT.le_refl _,VT.le_refl _,trivial⟩) Y ?_
      refine Run.nil ?_
      refine gn (Min := [_,_]) (Kp := [_,_,_]) had Y ⟨VT.le_refl _,VT.le_refl _,VT.le_refl _,VT.le_refl _,trivial⟩ (y4 _ _ _ _) Y Y (fun _ => ?_)
      refine Run.nil (aD (aa (ai (st (bI _ 1 Y Y Z) Y (st (ab Y) Y (Run.nil (fc (.ofPerm (y5 _ _ _ _)) (fc (ConvM.cons (ConvM.cons (lD hh2 (if_pos Y)))) ?_))))))))
      refine aQ (h+1) Z Z DR (.keep DU (.keep DU (.keep (Dr hhk) (.keep DU (.nil)))))
    ·have hhn:h=n:=by omega
     have hst:=hI'.step hp2 hkn hin1
     refine ae (ai (st (sF Z (a7 Y Y)) Y (Run.nil (aa (ae (aB Y (aX (av (av ?_)))))))))
     refine aF (aa (ai (st (ab Y) Y (st (ab Y) Y (fS Y Y Y Y ?_)))))
     (refine cS 3 Y Y Y (leN Y) ?_ ?_ Y (ltN Y) (fun sv111 cap111 => ?_);omega;omega)
     refine st (ah Y) Y (Run.nil (aD (aa (ai (st (ab Y) Y (st (bI _ 1 Y Y Z) Y (st (ah Y) Y (Run.nil (fc (ConvM.cons (lD hkn (if_pos Y))) ?_)))))))))
     refine aQ ((k+1,B',C',ia p v k W',sv111,cap111)) (⟨hkn,hst⟩) Z DR (.keep DU (.keep (Ds hhn) (.keep (wR) (.nil))))
 ·have hkn:k=n:=by omega
  by_cases hn0:n=0
  ·refine ae (ae (ai (st (ab Y) Y (st (ab Y) Y (st (sF Z (a7 Y Y)) Y (st (ab Y) Y (sn0 Y Y Y Y Y (sn0 Y Y Y Y Y (sn0 Y Y Y Y Y ?_)))))))))
   refine sn0 Y Y Y Y Y (sn0 Y Y Y Y Y (st (bF Y Y) Y (Run.nil (aa (aB Y (aX (av (av (aF ?_)))))))))
   refine aa (ae (ai (st (ab Y) Y (st (ah Y) Y (Run.nil (aa (aE ?_)))))))
   subst hkn
   refine cq (t:=6) (i:=2) Y Y ?_
   exact pA (⟨(B,C,W),hI⟩:CI p k F) Tryz.results162 (.tmp Y H) (SubM.refl _)
  ·refine ae (ae (ai (st (ab Y) Y (st (ab Y) Y (st (sT Z (a7 Y Y)) Y (st (ab Y) Y (sg1 Y Y (ab Y) Y (sg1 Y Y (cx Y) Y (sg1 Y Y (ab Y) Y ?_)))))))))
   refine sg1 Y Y (cx Y) Y (sg1 Y Y (sF Z (a7 Y Y)) Y (st (bj Y Y) Y (Run.nil (aa (aB Y (aX (av (av (aF ?_)))))))))
   refine aa (ae (ai (st (ab Y) Y (st (ah Y) Y (Run.nil (aa (aE ?_)))))))
   subst hkn
   refine cq (t:=6) (i:=2) Y Y ?_
   exact pA (⟨(B,C,W),hI⟩:CI p k F) Tryz.results162 (.tmp Y H) (SubM.refl _)
end Tor
end
section
set_option linter.unusedSectionVars false
namespace Tor
open Go Go.RowKit
section
variable {P:Program} {E:Env} {ops:Array Oper}
abbrev mw (d:Nat→Nat) (V:Nat→Value) (l:List Nat):Ctx:=l.map fun j=>(d j,one (V j))
theorem p6 {d:Nat→Nat} {V:Nat→Value} {Γ:Ctx} {t:Nat} {φ:VT} : ∀ {l:List Nat},bP (mw d V l ++ Γ) t=some φ→(∃ j∈l,d j=t∧φ=one (V j))∨bP Γ t=some φ
 | [], h => .inr h
 | j :: l, h => by
  have h:bP ((d j,one (V j)) :: (mw d V l ++ Γ)) t=some φ:=h
  rw [bx] at h
  split at h
  ·rename_i e;cases h;exact .inl ⟨j,List.mem_cons_self,e,rfl⟩
  ·rcases p6 h with ⟨k,h1,h2⟩ | h2
   ·exact .inl ⟨k,List.mem_cons_of_mem _ h1,h2⟩
   ·exact .inr h2
theorem vz {D:List Deferred} {Γ:Ctx} {M:Mem} {a:Act} {w:World} {d:Nat→Nat} {V:Nat→Value} {l:List Nat} (hS:St E D Γ M a w) (h : ∀ j∈l,a.tmps.getD (d j) undef=V j):St E D (mw d V l ++ Γ) M a w :=
 ⟨hS.base,hS.sz,hS.df,fun t φ ht=>by
  rcases p6 ht with ⟨j,h1,rfl,rfl⟩ | h2
  ·exact h j h1
  ·exact hS.tm t φ h2⟩
def y7 (E:Env) (D:List Deferred) (Γ:Ctx) (M:Mem) (row:Nat→Own) (n m:Nat) (d:Nat→Nat) (V:Nat→Value) (W:Nat→Value) (l:Array Bool) (a:Act) (w:World):Prop :=
 ∃ M',(l.getD m false=false∧M'=M∨l.getD m false=true ∧ ∃ b,M'=row b :: M∧a.tmps.getD (d m) undef=W b)∧St E D Γ M' a w ∧ ∀ j,j<n→j≠m→l.getD j false=true→a.tmps.getD (d j) undef=V j
theorem CK {T e:TypeId} {z:Value} {by':Nat} {L:Lay} [hS:SliceOf P T e] [hL:LayOf P e L] [hZ:ZeroOf P e z by'] [hF:Flat (one z) L] {D:List Deferred} {Γ:Ctx} {M:Mem} {id:Nat} {Q:Exit→Act→World→Prop} (n m c:Nat) (d:Nat→Nat) (V:Nat→Value) (pre:Nat→List Nat) (Γ0:Ctx) {x y:Operand} {ty:TypeId} {pos:String} {af:Array Edge}
  (hm:P.follows .mixedOrders=true) (hok:eX n ops=true) (hmn:m<n)
  (hd:((List.range n).all fun i=>(List.range n).all fun j => !Nat.beq (d i) (d j) || Nat.beq i j)=true)
  (hpre:((List.range n).all fun i=>(pre i).all fun j => !Nat.beq j m && Nat.blt j n && predB ops j i)=true)
  (h0:((List.range n).all fun j=>(bP Γ0 (d j)).isNone)=true) (hs0:dG Γ Γ0)
  (hA : ∀ i,i<n→i≠m → ∃ o,ops[i]? = some o ∧ ∀ M',(M'=M ∨ ∃ b,M'=aI (some b) e L c c (fun _=>one z) :: M)→StepG P E (mw d V (pre i) ++ Γ0) M' ops o ((d i,one (V i)) :: (mw d V (pre i) ++ Γ0)))
  (hmk:ops[m]? = some ⟨some (d m), .makeSlice T x y,ty,pos,af,none⟩) (hx:aN (mw d V (pre m) ++ Γ0) x=some (one (.int .i64 (c:Nat)))) (hy:aN (mw d V (pre m) ++ Γ0) y=some (one (.int .i64 (c:Nat))))
  (hb0:Nat.ble 1 by'=true) (hz0:Nat.ble 1 L.sz=true) (hc:by'*c≤2^48) (hdm:Nat.ble (d m+1) E.N=true)
  (hT : ∀ b,Run P E ops false n D ((d m,one (slV (some b) c c)) :: (mw d V ((List.range n).filter fun j => !Nat.beq j m) ++ Γ0)) (aI (some b) e L c c (fun _=>one z) :: M) (ops.toList.drop n) (fun D' Γ' M'=>PJ E D' Γ' M' .normal Q)):J P E D Γ M (.region id ops true) Q:=by
 intro a w hSt
 have hn:n≤ops.size:=by simp only [eX,Bool.and_eq_true] at hok;exact of_decide_eq_true hok.1
 have hd' : ∀ i j,i<n→j<n→d i=d j→i=j:=fun i j hi hj e=>by
  have h1:=List.all_eq_true.1 (List.all_eq_true.1 hd i (List.mem_range.2 hi)) j (List.mem_range.2 hj)
  rw [e] at h1
  simpa using h1
 have hpre' : ∀ i j,i<n→j∈pre i→j≠m∧j<n∧predB ops j i=true:=fun i j hi hj=>by
  have h1:=List.all_eq_true.1 (List.all_eq_true.1 hpre i (List.mem_range.2 hi)) j hj
  simp only [Bool.and_eq_true,Bool.not_eq_true'] at h1
  exact ⟨fun e=>(by rw [e,Nat.beq_refl] at h1;exact absurd h1.1.1 S),Nat.le_of_ble_eq_true h1.1.2,h1.2⟩
 have h0' : ∀ j,j<n→bP Γ0 (d j)=none:=fun j hj=>by
  have h1:=List.all_eq_true.1 h0 j (List.mem_range.2 hj)
  simpa using h1
 refine d8 hm ?_
 have k0:Ext w { w with drawn:=w.drawn+1 } := ⟨rfl,rfl,rfl,Nat.le_refl _,fun _ _=>rfl⟩
 have hl0 : ∀ j,(Array.replicate ops.size false).getD j false=false:=fun j=>by
  simp [Array.getD_eq_getD_getElem?,Array.getElem?_replicate]; split <;> rfl
 have hS1:St E D Γ M a { w with drawn:=w.drawn+1 } := ⟨hSt.base.ext k0,hSt.sz,hSt.df,fun t φ ht=>φ.mono (Base.hv_ext k0) (hSt.tm t φ ht)⟩
 refine gy (n:=n) hok (fun l a w=>((∃ j,j<n∧l.getD j false=false)∧(∀ j,n≤j→l.getD j false=false)∧y7 E D Γ0 M (fun b=>aI (some b) e L c c (fun _=>one z)) n m d V (fun b=>slV (some b) c c) l a w) ∨
  ∃ k,n≤k∧k≤ops.size∧(∀ j,j<ops.size→(l.getD j false=true↔j<k))∧wpOps P ops (nrm Q) (List.range' k (ops.size - k)) a w) ?_ ?_ ops.size _ a _ ⟨by simp,fun j hj => ?_⟩ ?_ (.inl ⟨⟨m,hmn,hl0 m⟩,fun j _=>hl0 j,M, .inl ⟨hl0 m,rfl⟩,hS1.sub hs0 (SubM.refl _),fun j _ _ hj => ?_⟩)
 ·rintro l a w (⟨⟨j,hj,hlj⟩,_⟩ | ⟨k,h1,h2,h3,h4⟩) hall
  ·rw [hall j Z] at hlj;cases hlj
  ·have hk:k=ops.size:=by
    rcases Nat.lt_or_ge k ops.size with h | h
    ·exact absurd ((h3 k h).1 (hall k h)) (Nat.lt_irrefl k)
    ·omega
   subst hk
   simpa [wpOps] using h4
 ·rintro l a w i (⟨⟨j0,hj0,hlj0⟩,hlate,M',hM',hS',hV⟩ | ⟨k,h1,h2,h3,h4⟩) hl hi1 hi2 hi
  ·have hin:i<n:=by
    rcases Nat.lt_or_ge i n with h | h
    ·exact h
    ·rcases cI hok (i:=j0) (j:=i) Z hi1 with hp | ⟨h',_⟩
     ·have:=cz hi hp;rw [hlj0] at this;cases this
     ·omega
   have hls:=hl.size
   have hself:(l.setIfInBounds i true).getD i false=true:=by rw [bM Z,if_pos Y]
   have hsame : ∀ j,j≠i→(l.setIfInBounds i true).getD j false=l.getD j false:=fun j hj=>by rw [bM Z,if_neg (fun e=>hj e.symm)]
   have hSp:St E D (mw d V (pre i) ++ Γ0) M' a w:=vz hS' fun j hj=>by
    obtain ⟨g1,g2,g3⟩:=hpre' i j hin hj
    exact hV j g2 g1 (cz hi g3)
   -- what holds behind it
   have fin : ∀ a' w',y7 E D Γ0 M (fun b=>aI (some b) e L c c (fun _=>one z)) n m d V (fun b=>slV (some b) c c) (l.setIfInBounds i true) a' w'→(((∃ j,j<n∧(l.setIfInBounds i true).getD j false=false)∧(∀ j,n≤j→(l.setIfInBounds i true).getD j false=false)∧y7 E D Γ0 M (fun b=>aI (some b) e L c c (fun _=>one z)) n m d V (fun b=>slV (some b) c c) (l.setIfInBounds i true) a' w') ∨
     ∃ k,n≤k∧k≤ops.size∧(∀ j,j<ops.size→((l.setIfInBounds i true).getD j false=true↔j<k))∧wpOps P ops (nrm Q) (List.range' k (ops.size - k)) a' w'):=fun a' w' hH=>by
    by_cases hmore : ∃ j,j<n∧(l.setIfInBounds i true).getD j false=false
    ·exact .inl ⟨hmore,fun j hj=>by rw [hsame j Z]; exact hlate j hj,hH⟩
    ·have hall : ∀ j,j<n→(l.setIfInBounds i true).getD j false=true:=fun j hj=>by
      rw [← Bool.not_eq_false]; intro h;exact hmore ⟨j,hj,h⟩
     refine .inr ⟨n,Nat.le_refl _,hn,fun j hj=>⟨fun h => ?_,hall j⟩,?_⟩
     ·rcases Nat.lt_or_ge j n with h' | h'
      ·exact h'
      ·rw [hsame j Z,hlate j h'] at h;cases h
     ·obtain ⟨M2,hM2,hS2,hV2⟩:=hH
      rcases hM2 with ⟨h1,_⟩ | ⟨_,b,rfl,hb⟩
      ·rw [hall m hmn] at h1;cases h1
      ·have hS3:=vz (l:=(List.range n).filter fun j => !Nat.beq j m) hS2 fun j hj=>by
        obtain ⟨g1,g2⟩:=List.mem_filter.1 hj
        exact hV2 j (List.mem_range.1 g1) (fun e=>by subst e;simp at g2) (hall j (List.mem_range.1 g1))
       have hS4:St E D ((d m,one (slV (some b) c c)) :: (mw d V ((List.range n).filter fun j => !Nat.beq j m) ++ Γ0)) (aI (some b) e L c c (fun _=>one z) :: M) a' w':=⟨hS3.base,hS3.sz,hS3.df,fun t φ ht=>by
        rw [bx] at ht
        split at ht
        ·rename_i e;cases ht;subst e;exact hb
        ·exact hS3.tm t φ ht⟩
       have:=(hT b).seq (nrm Q) [] (fun j _=>by simp [List.getElem?_drop]) (fun D' Γ' M' a w hK hS=>by simpa [wpOps] using hK a w hS) a' w' hS4
       simpa using this
   by_cases him:i=m
   ·subst him
    rcases hM' with ⟨_,rfl⟩ | ⟨hc1,_⟩
    ·have hx':a.eval x = .int .i64 c:=cF hSp hx
     have hy':a.eval y = .int .i64 c:=cF hSp hy
     have hb1:=Nat.le_of_ble_eq_true hb0
     have hz1:=Nat.le_of_ble_eq_true hz0
     obtain ⟨f1,f2,f3⟩:=hF.ok z (fun _=>none) Y
     have hc48:c≤2^48:=by
      have:c≤by'*c:=Nat.le_mul_of_pos_left c hb1
      omega
     have hr:(execOp a.eval ⟨some (d i), .makeSlice T x y,ty,pos,af,none⟩).run P w = .ok (.value (slV (some w.heap.size) c c)) (w.alloc (.cells (dS z.cells (c*L.sz)) e)):=by
      simp only [execOp,hx',hy',Sem.run_bind,iB hb1 (Nat.le_refl c) hc,Result.andThen_ok,Sem.run_pure]
     have hS2:St E D ((d i,one (slV (some w.heap.size) c c)) :: (mw d V (pre i) ++ Γ0)) (aI (some w.heap.size) e L c c (fun _=>one z) :: M') (a.put (some (d i)) (slV (some w.heap.size) c c)) (w.alloc (.cells (dS z.cells (c*L.sz)) e)):=by
      refine hSp.alloc (o:=aI (some w.heap.size) e L c c (fun _=>one z)) Y ⟨Nat.le_refl _,by omega,(fun h=>by cases h),fun b hb => ?_⟩ (Nat.le_of_ble_eq_true hdm) Y
      cases hb
      exact ⟨_,cJ w _ _ _,eY _ _,fun q hq=>⟨z,kw f1 f3 Z hz1,rfl⟩⟩
     simp only [wpOp,hmk,cP (o:=⟨some (d i), .makeSlice T x y,ty,pos,af,none⟩) Y,if_true]
     refine .inl ?_
     unfold Oper.wp
     rw [hr]
     refine fin _ _ ⟨_, .inr ⟨hself,w.heap.size,rfl,?_⟩,?_,fun j hj hne hlj => ?_⟩
     ·exact ct (by rw [hS'.sz]; exact Nat.le_of_ble_eq_true hdm)
     ·refine hS2.sub (fun t φ ht=>⟨φ,?_,VT.le_refl _⟩) (SubM.refl _)
      have htd:d i≠t:=fun e=>by subst e;rw [h0' i hin] at ht;cases ht
      rw [bx,if_neg htd]
      have : ∀ l:List Nat,(∀ j∈l,j<n)→bP (mw d V l ++ Γ0) t=some φ:=fun l=>by
       induction l with
       | nil => exact fun _ => ht
       | cons j l ih =>
        intro hl
        show bP ((d j,one (V j)) :: (mw d V l ++ Γ0)) t=some φ
        rw [bx,if_neg (fun e=>by subst e;rw [h0' j (hl j List.mem_cons_self)] at ht;cases ht)]
        exact ih fun j hj=>hl j (List.mem_cons_of_mem _ hj)
      exact this _ fun j hj=>(hpre' i j hin hj).2.1
     ·rw [hsame j hne] at hlj
      show (a.put (some (d i)) _).tmps.getD (d j) undef=_
      rw [cj (fun e=>hne (hd' i j hin hj e).symm)]
      exact hV j hj hne hlj
    ·rw [hc1] at hi2;cases hi2
   ·obtain ⟨o,ho,hst⟩:=hA i hin him
    obtain ⟨d', ψ',hdd,hN,heq,hrun⟩:=(hst M' (by rcases hM' with ⟨_,h⟩ | ⟨_,b,h,_⟩;exact .inl h;exact .inr ⟨b,h⟩)).run ho
    cases heq
    refine hrun a w hSp.base (hSp.names _) _ (nrm Q) fun v w' k hv'=>fin _ _ ?_
    have hv':v=V i:=hv'
    subst hv'
    refine ⟨M',?_,?_,fun j hj hne hlj => ?_⟩
    ·rw [hsame m (fun e=>him e.symm),cj (fun e=>him (hd' i m hin hmn e))]; exact hM'
    ·refine (hS'.put k hN (ψ:=one (V i)) Y).sub (fun t φ ht=>⟨φ,?_,VT.le_refl _⟩) (SubM.refl _)
     rw [bx,if_neg (fun e=>by subst e;rw [h0' i hin] at ht;cases ht)]
     exact ht
    ·by_cases hji:j=i
     ·subst hji;exact ct (by rw [hS'.sz]; exact hN)
     ·rw [hsame j hji] at hlj
      rw [cj (fun e=>hji (hd' i j hin hj e).symm)]
      exact hV j hj hne hlj
  ·have hik:i=k:=by
    rcases Nat.lt_trichotomy i k with h | h | h
    ·rw [(h3 i hi1).2 h] at hi2;cases hi2
    ·exact h
    ·rcases cI hok h hi1 with hp | ⟨h',_⟩
     ·have:=(h3 k Z).1 (cz hi hp);omega
     ·omega
   subst hik
   rw [show ops.size - i=(ops.size - (i+1))+1 by omega,List.range'_succ,wpOps_cons] at h4
   refine wpOp_mono (fun a' w' h' => .inr ⟨i+1,by omega,hi1,fun j hj => ?_,h'⟩) h4
   have hls:=hl.size
   rw [bM Z]
   by_cases e:i=j
   ·subst e;simp
   ·rw [if_neg e,h3 j hj]; omega
 ·rw [hl0] at hj;cases hj
 ·unfold left;refine Nat.le_trans (List.length_filter_le _ _) (by simp)
 ·rw [hl0] at hj;cases hj
end
end Tor
end
section
namespace Tor
open Go Go.RowKit Go.Proofs
def m9 (p:Nat) (G:Nat→Nat→Int):Nat→Nat→Nat:=fun i j=>(G i j % (p:Int)).toNat
theorem A8 (a b:Own) (l:Mem):(a :: b :: l).Perm ([b] ++ (a :: l)):=List.Perm.swap b a l
theorem y8 {Ms:Mem} {b2 br n c i j p:Nat} {G:Nat→Nat→Int} {T:TypeId} (hm:aI (some br) T .one c c (fun q=>one (.int .u64 ((if q<j then m9 p G i q else 0:Nat))))∈Ms) (hj:j=c) :
  v8 Ms (aI (some b2) 173 .one n n (upd (fun q=>if q<i then jc c (m9 p G q) else bJ) i (one (slV (some br) c c)))) (aI (some b2) 173 .one n n (fun q=>if q<i+1 then jc c (m9 p G q) else bJ)):=v8.sl fun q hq=>by
 unfold upd
 by_cases h:q=i
 ·subst h
  rw [if_pos Y,if_pos (Nat.lt_succ_self q)]
  exact Ent.slE hm fun k hk=>Ent.le (by rw [if_pos Z]; exact VT.le_refl _)
 ·rw [if_neg h]
  dsimp only
  by_cases h2:q<i
  ·rw [if_pos h2,if_pos Z]; exact Ent.refl _
  ·rw [if_neg h2,if_neg Z]; exact Ent.refl _
attribute [local irreducible] Tor.J Tor.PJ Tor.aK Tor.one Tor.slT Tor.bO Tor.bC Tor.bv Tor.exT Tor.cd Tor.eP Tor.aR Tor.aI Tor.slV Tor.VT.le Tor.Ret Tor.bJ
attribute [local irreducible] aL
set_option maxHeartbeats 4000000 in
theorem sR (p n c:Nat) (G:Nat→Nat→Int) (hp:cB p=true) (hp0:0<p) (hp':p<2147483648) (hn:n≤1048576) (hc:c≤1048576) (hG : ∀ i j,bm (G i j)):Ok Tryz.prog 139 [one (.int .u64 (p:Nat)),bR n c G] (wJ p n c (m9 p G)):=by
 have h1:=j8 p Z
 rw [hp] at h1
 unfold bR
 refine Ok.enter Tryz.func139 Y Tryz.ntmps139 Y (fun w O => ?_)
 refine ae (ai ?_)
 refine aS Y Y (ltN Y) (fun b3 => ?_)
 refine bq (T:=169) Y Y Y (fun b4 => ?_)
 refine Run.nil (aa (ae (ae (ai (st (ab Y) Y ?_)))))
 refine st (am (h1) Y ⟨VT.le_refl _,trivial⟩) Y ?_
 refine st (cK Y) Y (st (ab Y) Y (sg1 Y Y (aj Y) Y (sg1 Y Y (ak 1 Y Y Y) Y (sg1 Y Y (sF Z (a7 Y Y)) Y (st (bF Y Y) Y (Run.nil (aa (aB Y (az ?_)))))))))
 refine aa (ae ?_)
 refine xR aZ X X (fun a1 w1 hS1 => ?_)
 refine ux (fun B=>ab Y) Y Y ?_
 refine ux (fun B=>aj Y) Y Y ?_
 refine ux (fun B=>ak 1 Y Y Y) Y Y ?_
 refine ux (fun B=>aj Y) Y Y ?_
 refine ux (fun B=>ak 1 Y Y Y) Y Y ?_
 refine ux (fun B=>aU Y) Y Y ?_
 refine ux (fun B=>lg w1.heap.size n Y Y Y Y Y Y Y ?_) Y Y ?_
 ·omega
 refine uB Y Y Y (BuildK.cons Y Y Y (BuildK.cons Y Y Y (BuildK.cons Y Y Y (BuildK.nil (ua Y (us Y ?_))))))
 refine RunU.nil (fun γ a2 w2 hS2 hx hk2 => ?_)
 obtain ⟨b2,hS3⟩:=tL (t:=5) (b:=γ 5) (T:=169) (m:=3) (k:=2) (n:=n) (cs1 := [(0, .one,one (.int .u64 (p:Nat))),(1, .one,one (.int .i64 (c:Nat)))])
  (Γk := [(0,one (.int .u64 (p:Nat))),(3,one (.pointer (some ⟨b3,0,none⟩))),(4,one (.pointer (some ⟨b4,0,none⟩)))])
  hS1 Y hS2 hx hk2 (.cons Y X (.cons Y X (.cons Y X .nil))) Y Y (fun q hq=>by
   rcases List.mem_cons.1 hq with rfl | hq
   ·exact ⟨_,rfl,rfl⟩
   rcases List.mem_cons.1 hq with rfl | hq
   ·exact ⟨_,rfl,rfl⟩
   cases hq)
 generalize γ 5=b5 at hS3
 refine xS ?_ hS3
 clear hS3 hS2 hx hk2 hS1
 refine aa (ae (ae (ai (st (aj Y) Y (st (ak 3 Y Y Y) Y (st (aU Y) Y (st (ab Y) Y (Run.nil (aa ?_)))))))))
 refine au (cn (Γ' := [(0,_),(3,_),(4,_),(5,_),(28,_),(29,_),(30,_)]) DQ (SubM.refl _) ?_)
 refine bB (σ:=Nat) (Γk := [(0,_),(3,_),(4,_),(5,_),(28,_),(29,_)]) DQ (fun i => [(30,one (.int .i64 (i:Nat)))]) (fun i M0=>(M0.set 1 (aI (some b2) 173 .one n n (fun q=>if q<i then jc c (m9 p G q) else bJ)))) (fun i=>i≤n) (fun i=>n - i) (0) (Nat.zero_le _) DR (.keep DU (.keep (ec fun q hq=>by rw [if_neg (Nat.not_lt_zero q)]; exact jG _) (.keep DU (.keep DU (.nil))))) (fun i hi => ?_)
 refine bQ (Γ' := [(30,_),(0,_),(3,_),(4,_),(5,_),(28,_),(29,_)]) (M' := [_,_,_,_]) Y Y ?_
 by_cases hi2:i<n
 ·refine ae (ai (st (sT Z (a7 Y Y)) Y (Run.nil (aa (ae (aH Y (az (aa (ae ?_)))))))))
  refine au (ae (ai (st (ab Y) Y (st (aC Y Y Z) Y (st (aM Y) Y (st (ah Y) Y (st (ah Y) Y (Run.nil (aa ?_)))))))))
  refine ae (ae (ai (st (ab Y) Y (st (aU Y) Y (st (aj Y) Y (st (ak 3 Y Y Y) Y (st (sF Z (di Y Y)) Y (Run.nil (aa ?_)))))))))
  refine aB Y (az (aa (ae ?_)))
  refine CK 6 5 c (fun j=>41+j) (fun j=>match j with | 0 => .pointer (some ⟨b5,0+2,none⟩) | 1=>slV (some b2) n n | 2 => .int .i64 (i:Nat) | 3 => .pointer (some ⟨b3,0+1,none⟩) | _ => .int .i64 (c:Nat)) (fun j=>match j with | 1 => [0] | 4 => [3] | 5 => [4] | _ => [])
   [(0,one (.int .u64 (p:Nat))),(3,one (.pointer (some ⟨b3,0,none⟩))),(4,one (.pointer (some ⟨b4,0,none⟩))),(5,one (.pointer (some ⟨b5,0,none⟩))),(6,one (.int .i64 (i:Nat))),(7,bD c (G i)),(28,slT .one n (fun i=>bD c (G i))),(29,one (.int .i64 (n:Nat))),(30,one (.int .i64 (i:Nat)))]
   aZ X S S U Y DT
   (fun j hj hne => ?_) Y Y Y Y Y Z Y (fun br => ?_)
  ·match j,hj,hne with
   | 0, _, _ => exact ⟨_, rfl, fun M' hM' => by rcases hM' with rfl | ⟨b, rfl⟩ <;> exact .plain (aj Y) Y Y (Nat.le_of_ble_eq_true Y)⟩
   | 1, _, _ => exact ⟨_, rfl, fun M' hM' => by
     rcases hM' with rfl | ⟨b,rfl⟩
     ·exact .plain (ak 0 Y Y Y) Y Y (Nat.le_of_ble_eq_true Y)
     ·exact .plain (ak 1 Y Y Y) Y Y (Nat.le_of_ble_eq_true Y)⟩
   | 2, _, _ => exact ⟨_, rfl, fun M' hM' => by rcases hM' with rfl | ⟨b, rfl⟩ <;> exact .plain (ab Y) Y Y (Nat.le_of_ble_eq_true Y)⟩
   | 3, _, _ => exact ⟨_, rfl, fun M' hM' => by rcases hM' with rfl | ⟨b, rfl⟩ <;> exact .plain (aj Y) Y Y (Nat.le_of_ble_eq_true Y)⟩
   | 4, _, _ => exact ⟨_, rfl, fun M' hM' => by
     rcases hM' with rfl | ⟨b,rfl⟩
     ·exact .plain (ak 3 Y Y Y) Y Y (Nat.le_of_ble_eq_true Y)
     ·exact .plain (ak 4 Y Y Y) Y Y (Nat.le_of_ble_eq_true Y)⟩
   | 5, _, h => exact absurd Y h
  refine st (ao Y Y Z) Y ?_
  (refine aw 2 Y Y Y ?_ Y ?_;omega)
  refine Run.nil (aa (ae (ai (st (ab Y) Y (st (aU Y) Y (st (ab Y) Y (Run.nil (aa (au ?_)))))))))
  refine cn (Γ' := [(0,_),(3,_),(4,_),(5,_),(6,_),(28,_),(29,_),(30,_),(48,_),(49,_),(50,_)]) DQ (SubM.refl _) ?_
  refine bB (σ:=Nat) (Γk := [(0,_),(3,_),(4,_),(5,_),(6,_),(28,_),(29,_),(30,_),(48,_),(49,_)]) DQ (fun j => [(50,one (.int .i64 (j:Nat)))]) (fun j M0=>(M0.set 0 (aI (some br) 44 .one c c (fun q=>one (.int .u64 ((if q<j then m9 p G i q else 0:Nat))))))) (fun j=>j≤c) (fun j=>c - j) (0) (Nat.zero_le _) DR (.keep DU (.keep DU (.keep DU (.keep DU (.keep DU (.nil)))))) (fun j hj => ?_)
  refine bQ (Γ' := [(50,_),(0,_),(3,_),(4,_),(5,_),(6,_),(28,_),(29,_),(30,_),(48,_),(49,_)]) (M' := [_,_,_,_,_]) Y Y ?_
  by_cases hjc:j<c
  ·have hre:=gW p (G i j) hp0 Z (hG i j)
   refine ae (ai (st (sT Z (a7 Y Y)) Y (Run.nil (aa (ae (aH Y (az (aa (ae ?_)))))))))
   refine au (ae (ai (st (ab Y) Y (st (aC Y Y Z) Y (st (aM Y) Y ?_)))))
   refine aG (T:=37) Y (ltN Y) (fun b9 => ?_)
   refine st (ah Y) Y (aA 0 Y Y Y Y Y (leN Y) Y (Run.nil (aa (qt 16 9 aZ X S (st (aj Y) Y (st (ak 2 Y Y Y) Y (st (ab Y) Y (st (ao Y Y Z) Y (st (aK.le' (bh 3 Y Y hi2) (gE (by unfold upd;rw [if_pos Y]))) Y ?_)))))))))
   refine st (ab Y) Y (st (ab Y) Y (st (ak 0 Y Y Y) Y ?_))
   refine st (am (hre) Y ⟨VT.le_refl _,VT.le_refl _,trivial⟩) Y ?_
   refine Run.nil (st (ao Y Y Z) Y ?_)
   (refine aw 1 Y Y Y ?_ Y ?_;omega)
   refine Run.nil (aD (aa (ai (st (bI _ 1 Y Y Z) Y (st (ab Y) Y (Run.nil ?_))))))
   refine aQ (j+1) Z Z DR (.drop (.keep (mv (G:=m9 p G i) (DP:=fun _=>0)) (.keep DU (.keep DU (.keep DU (.keep DU (.nil)))))))
  ·refine ae (ai (st (sF Z (a7 Y Y)) Y (Run.nil (aa (ae (aB Y (aX (av (av ?_)))))))))
   refine aF (aD (aa (ai (st (bI _ 1 Y Y Z) Y (st (ab Y) Y (Run.nil ?_))))))
   refine gm [_] (List.Perm.refl _) (.keep (v8.refl _) (.keep (y8 (j:=j) List.mem_cons_self Z) (EntM.refl _))) (v9.refl _) ?_
   refine aQ (i+1) Z Z DR (.keep DU (.keep DU (.keep DU (.keep DU (.nil)))))
 ·have hin:i=n:=by omega
  subst hin
  refine ae (ai (st (sF Z (a7 Y Y)) Y (Run.nil (aa (ae (aB Y (aX (av (av ?_)))))))))
  refine aF (aa (ae (ai (st (aO 0 Y Y) Y (a4 2 Y Y Y Y (Run.nil (aa (aE ?_))))))))
  refine gm [_] (A8 _ _ _) (.keep (v8.refl _) (.keep (v8.box (cs' := [(0, .one,one (.int .u64 (p:Nat))),(1, .one,one (.int .i64 (c:Nat))),(2, .one,slT .one i (fun q=>jc c (m9 p G q)))]) (.cons (by simp) (Ent.refl _) (.cons (by simp) (Ent.refl _) (.cons List.mem_cons_self (Ent.slE List.mem_cons_self (fun q hq=>Ent.le (by rw [if_pos hq]; exact VT.le_refl _))) .nil)))) (.keep (v8.refl _) .nil))) (v9.refl _) ?_
  refine aT Tryz.results139 (.cellW 1 Y Y H)
end Tor
end
section
namespace Tor
open Go Go.RowKit Go.Proofs
theorem Dt {p n:Nat} {W':Nat→Nat→Nat} : VT.le (bC 3 [(0, .one,one (.int .u64 (p:Nat))),(1, .one,one (.int .i64 ((n+n:Nat):Int))),(2, .one,slT .one ((n:Int) - 0).toNat (fun j=>jc (n+n) (W' (Int.toNat 0+j))))]) (wJ p n (n+n) W') :=
 eO fun q hq=>by
  rcases List.mem_cons.1 hq with rfl | hq
  ·exact ⟨_,List.mem_cons_self,VT.le_refl _⟩
  ·rcases List.mem_cons.1 hq with rfl | hq
   ·exact ⟨_,List.mem_cons_of_mem _ List.mem_cons_self,VT.le_refl _⟩
   ·rcases List.mem_singleton.1 hq with rfl
    exact ⟨_,List.mem_cons_of_mem _ (List.mem_cons_of_mem _ List.mem_cons_self),cE Z (fun i hi=>by rw [show Int.toNat 0+i=i from Nat.zero_add i])⟩
attribute [local irreducible] Tor.J Tor.PJ Tor.aK Tor.one Tor.slT Tor.bO Tor.bC Tor.bv Tor.exT Tor.cd Tor.eP Tor.aR Tor.aI Tor.slV Tor.VT.le Tor.Ret Tor.bJ
attribute [local irreducible] aL Tor.rwO
set_option maxHeartbeats 4000000 in
theorem A9 (p n:Nat) (F:Nat→Nat→Int) (W:Nat→Nat→Nat) (hpb:cB p=true) (hp2:2≤p) (hp:p<2147483648) (hinv:uh p) (hF:ui p n F) (hn:n≤1024) (h0:EchI p n F 0 W) :
  Ok Tryz.prog 138 [wJ p n (n+n) W] (exT fun W':Nat→Nat→Nat=>cd (EchI p n F n W') (bv [wJ p n (n+n) W',slT .one n (fun q=>one (.int .i64 (q:Nat)))])):=by
 have hv:=wL p n (n+n) W hpb hp (fun i j hi hj=>h0.lt i j hi hj) Z Z
 have hcp:=sQ n (n+n) W Z Z Z
 refine Ok.enter Tryz.func138 Y Tryz.ntmps138 Y (fun w O => ?_)
 refine ae (ai ?_)
 refine aS Y Y (ltN Y) (fun b1 => ?_)
 refine bq (T:=169) Y Y Y (fun b2 => ?_)
 refine st (ah Y) Y (Run.nil (aa (ae (ae (ai (st (aO 1 Y Y) Y ?_))))))
 refine st (am (hv) Y ⟨VT.le_refl _,trivial⟩) Y ?_
 refine st (cK Y) Y (Run.nil (aa (aB Y (az (aa (ae (ai (st (aj Y) Y (st (ak 1 Y Y Y) Y ?_)))))))))
 refine gl (hcp) Y ⟨VT.le_refl _,trivial⟩ Y Y (fun s13 => ?_)
 refine st (ah Y) Y (Run.nil (aa (ae (ai (st (aj Y) Y (st (ak 3 Y Y Y) Y (st (ab Y) Y (st (aj Y) Y (st (ak 3 Y Y Y) Y ?_)))))))))
 refine gn (Min := [_,_]) (Kp := [_,_]) (uj p n s13.2.2 F s13.1 s13.2.1 W hp2 hp hinv hF hn h0) Y ⟨VT.le_refl _,VT.le_refl _,VT.le_refl _,trivial⟩ (List.Perm.refl _) Y Y (fun s => ?_)
 obtain ⟨⟨B,C,W'⟩,hI⟩:=s
 refine rG [_,_] (List.Perm.refl _) (EntM.refl _) (v9.set (t:=4) (ψ:=slT .one n (fun i=>jc (n+n) (W' i))) Y (Ent.slE List.mem_cons_self (fun q hq=>Ent.rwo (List.mem_cons_of_mem _ List.mem_cons_self) hq Y))) ?_
 refine st (ah Y) Y (Run.nil (aa (ae (ai (st (ab Y) Y (st (aU Y) Y (st (ah Y) Y (Run.nil (aa ?_)))))))))
 refine ae (ai (st (ab Y) Y (st (ab Y) Y ?_)))
 refine st (gi Y Y Y Y (fun h=>nomatch h) Z Z Z Z) Y ?_
 refine kJ (t:=24) (ψ:=slT .one 0 (fun _=>bJ)) Y (cE Z (fun q hq=>by omega)) ?_
 refine yo Y Y (Run.nil (aa (ae ?_)))
 apply iE (Γ1 := [(2,_),(3,_)]) (M1 := [_,_]) 10 4 [9] [] aZ X S
 ·refine st (aj Y) Y (st (ak 1 Y Y Y) Y (st (aj Y) Y (st (ak 1 Y Y Y) Y (st (ab Y) Y (st (ab Y) Y (st (ab Y) Y ?_))))))
  refine st (gi Y Y Y Y (fun _=>rfl) Z Z Z Z) Y ?_
  refine stB Y Y Y (BuildK.cons Y Y Y (BuildK.cons Y Y Y (BuildK.cons Y Y Y (BuildK.nil (st (ab Y) Y (Run.nil ?_))))))
  refine yc (Γe := [(2,_),(5,_),(33,_)]) (Γe' := [(2,_),(5,_),(33,_),(34,_)]) (rem := [10,11]) Y DT Y DT Y ?_ ?_
  ·refine bK (rem' := [10,11]) (rem'' := [9,11]) (i:=9) (j:=10) X Y Y Y Y ?_ ?_ iD.nil
   refine st (ab Y) Y (Run.nil ?_)
   refine ⟨rfl,?_⟩
   refine an (rem' := [11]) (i:=10) X Y Y ?_ iD.nil
   refine a4 0 Y Y Y Y (Run.nil ?_)
   refine ⟨rfl,?_⟩
   refine an (rem' := []) (i:=11) X Y Y ?_ iD.nil
   refine st (ah Y) Y (Run.nil ?_)
   refine ⟨rfl,?_⟩
   refine aV DT (SubM.refl _) iD.nil
   refine a4 0 Y Y Y Y (Run.nil ?_)
   refine ⟨rfl,?_⟩
   refine an (rem' := [11]) (i:=9) X Y Y ?_ iD.nil
   refine st (ab Y) Y (Run.nil ?_)
   refine ⟨rfl,?_⟩
   refine an (rem' := []) (i:=11) X Y Y ?_ iD.nil
   refine st (ah Y) Y (Run.nil ?_)
   refine ⟨rfl,?_⟩
   refine aV DT (SubM.refl _) iD.nil
  ·refine an (rem' := [11]) (i:=10) X Y Y ?_ iD.nil
   refine a4 0 Y Y Y Y (Run.nil ?_)
   refine ⟨rfl,?_⟩
   refine an (rem' := []) (i:=11) X Y Y ?_ iD.nil
   refine st (ah Y) Y (Run.nil ?_)
   refine ⟨rfl,?_⟩
   refine aV DT (SubM.refl _) iD.nil
 ·refine aa (aE ?_)
  refine sa (ψ:=bv [wJ p n (n+n) W',slT .one n (fun q=>one (.int .i64 (q:Nat)))]) (nK W' (kZ hI H)) ?_
  refine cV Tryz.results138 (.cellW 0 Y Y (Dt)) (.tmp Y H)
end Tor
end
section
namespace Tor
open Go Go.RowKit Go.Proofs
theorem oA {sv:Option Nat} {T:TypeId} {cap n j:Nat} {h:Nat→Int} {x:Int} (hx:x=h j):Own.le (aI sv T (.agg 2) cap n (upd (fun q=>aL (if q<j then h q else 0)) j (aL x))) (aI sv T (.agg 2) cap n (fun q=>aL (if q<j+1 then h q else 0))):=be (fun q _=>by
 subst hx
 show (if q=j then aL (h j) else aL (if q<j then h q else 0))=_
 by_cases c:q=j
 ·rw [if_pos c,if_pos Z,c]
 ·rw [if_neg c]
  by_cases c2:q<j
  ·rw [if_pos c2,if_pos Z]
  ·rw [if_neg c2,if_neg Z])
attribute [local irreducible] Tor.J Tor.PJ Tor.aK Tor.one Tor.slT Tor.bO Tor.bC Tor.bv Tor.exT Tor.cd Tor.eP Tor.aR Tor.aI Tor.slV Tor.VT.le Tor.Ret Tor.bJ Tor.xO
attribute [local irreducible] aL
set_option maxHeartbeats 4000000 in
theorem sS (b:Nat) (sv:Option Nat) (r cap:Nat) (last:Int) (odd:Bool) (ψ:VT) (w c:Nat) (f g:Nat→Int) (hc:c<w) (hw:w≤1048576) (hl0:last≠0) (hl:bm last) (hf : ∀ j,bm (f j)) (hg : ∀ j,bm (g j))
  (hp : ∀ j,bm (g c*f j)) (hq : ∀ j,bm (f c*g j)) (hd : ∀ j,bm (g c*f j - f c*g j)) :
  OkR Tryz.prog 152 [one (.pointer (some ⟨b,0,none⟩)),bD w f,bD w g,one (.int .i64 (c:Nat))] [eE b sv r cap last odd ψ] (bD w (fun j=>jm (g c) (f j) (f c) (g j) last)):=by
 intro g0
 show OkI _ _ _ [xO g0 (eE b sv r cap last odd ψ)] _ (fun _ => [xO g0 (eE b sv r cap last odd ψ)])
 unfold bD
 refine OkI.enter Tryz.func152 Y Tryz.ntmps152 Y (fun w0 O => ?_)
 refine ae (ai (st (ah Y) Y (Run.nil (aa (ae (ai (st (ab Y) Y (st (aU Y) Y ?_))))))))
 refine bV w w Y Y Y Y (Nat.le_refl _) Y Y Z Y Y (fun bz => ?_)
 refine st (ah Y) Y (Run.nil (aa (ae (ae (ai (st (ab Y) Y (st (aU Y) Y (st (ab Y) Y (Run.nil ?_)))))))))
 refine aa (au (cn (Γ' := [(0,_),(1,_),(2,_),(3,_),(8,_),(9,_),(16,_),(17,_),(18,_)]) DQ (SubM.refl _) ?_))
 refine bB (σ:=Nat) (Γk := [(0,_),(1,_),(2,_),(3,_),(8,_),(9,_),(16,_),(17,_)]) DQ (fun j => [(18,one (.int .i64 (j:Nat)))]) (fun j M0=>(M0.set 0 (aI (some bz) 37 (.agg 2) w w (fun q=>aL (if q<j then jm (g c) (f q) (f c) (g q) last else 0))))) (fun j=>j≤w) (fun j=>w - j) (0) (Nat.zero_le _) DR (.keep (ec fun q hq=>iQ) (.keep DU (.nil))) (fun j hj => ?_)
 refine bQ (Γ' := [(18,_),(0,_),(1,_),(2,_),(3,_),(8,_),(9,_),(16,_),(17,_)]) (M' := [_,_]) Y Y ?_
 by_cases hj:j<w
 ·have m1:=eR (g c) (f j) (hg c) (hf j)
  have m2:=eR (f c) (g j) (hf c) (hg j)
  have m3:=lL (g c*f j) (f c*g j) (hp j) (hq j)
  have sp:=hp j
  have sd:=hd j
  have hs1:c8 (f c)=0↔f c=0:=eD _
  have hs2:c8 (g j)=0↔g j=0:=eD _
  by_cases h1:f c=0
  ·have d1:=dk (g c*f j) last hl0 sp hl
   have h3:=hs1.2 h1
   rw [← u5 (y:=f c) (z:=g j) (.inl h1)] at d1
   refine ae (ai (st (sT Z (a7 Y Y)) Y (Run.nil (aa (ae (aH Y (az (aa (ae ?_)))))))))
   refine au (ae (ai (st (ab Y) Y (st (aC Y Y Z) Y (st (aM Y) Y ?_)))))
   refine aG (T:=37) Y (ltN Y) (fun b11 => ?_)
   refine st (ah Y) Y (aA 0 Y Y Y Y Y (leN Y) Y (Run.nil (aa (ae ?_))))
   refine dN aZ X X ?_
   refine ux (fun B=>ab Y) Y Y ?_
   refine ux (fun B=>ab Y) Y Y ?_
   refine ux (fun B=>aC Y Y Z) Y Y ?_
   refine ux (fun B=>aM Y) Y Y ?_
   refine ux (fun B=>ak 0 Y Y Y) Y Y ?_
   refine uxk (m1) Y ⟨VT.le_refl _,VT.le_refl _,trivial⟩ Y ?_
   refine ua Y (us Y ?_)
   refine RunU.nil (fun γ => ?_)
   refine cH (M' := [_,_,_,_]) Y (aa (ae (ae (ai (st (ab Y) Y (st (ab Y) Y (st (aC Y Y Z) Y (st (aM Y) Y ?_))))))))
   refine st (am (db _) Y ⟨VT.le_refl _,trivial⟩) Y ?_
   refine st (sF Z (di Y Y)) Y (st (ab Y) Y (sn0 Y Y Y Y Y (sn0 Y Y Y Y Y (sn0 Y Y Y Y Y (sn0 Y Y Y Y Y (sn0 Y Y Y Y Y (sn0 Y Y Y Y Y (st (bF Y Y) Y (Run.nil ?_)))))))))
   refine aa (aB Y (az (aa ?_)))
   apply iE (Γ1 := [(0,_),(1,_),(2,_),(3,_),(8,_),(9,_),(16,_),(17,_),(18,_)]) (M1 := [_,_,_,_]) 12 3 [] [10,11] aZ X S
   ·refine st (ab Y) Y (st (ab Y) Y (st (ak 0 Y Y Y) Y (st (ab Y) Y (st (bH Y) Y (st (aj Y) Y (st (qH 3 Y Y Y) Y ?_))))))
    refine st (am (d1) Y ⟨VT.le_refl _,VT.le_refl _,trivial⟩) Y ?_
    refine st (ab Y) Y (st (aq Y Y) Y (st (aq Y Y) Y (st (aq Y Y) Y (Run.nil ?_))))
    refine nT (Γe := [(0,_),(1,_),(2,_),(3,_),(8,_),(9,_),(16,_),(17,_),(18,_),(54,_),(55,_),(56,_),(63,_)]) (rem := [12,13]) Y DT Y ?_
    refine an (rem' := [13]) (i:=12) X Y Y ?_ (iD.cons Y (StepG.plain (aq Y Y) Y Y (ltN Y)) Y (iD.cons Y (StepG.plain (aq Y Y) Y Y (ltN Y)) Y iD.nil))
    refine st (ao Y Y Z) Y (Run.nil ?_)
    refine ⟨rfl,?_⟩
    refine an (rem' := []) (i:=13) X Y Y ?_ (iD.cons Y (StepG.plain (aq Y Y) Y Y (ltN Y)) Y (iD.cons Y (StepG.plain (aq Y Y) Y Y (ltN Y)) Y iD.nil))
    (refine aw 2 Y Y Y ?_ Y ?_;omega)
    refine Run.nil ?_
    refine ⟨rfl,?_⟩
    refine aV DT (SubM.refl _) (iD.cons Y (StepG.plain (aq Y Y) Y Y (ltN Y)) Y (iD.cons Y (StepG.plain (aq Y Y) Y Y (ltN Y)) Y iD.nil))
   ·refine aD (aa (ai (st (bI _ 1 Y Y Z) Y (st (ab Y) Y (Run.nil ?_)))))
    refine aQ (j+1) (hj) Z DR (.drop (.drop (.keep (oA (h:=fun q=>jm (g c) (f q) (f c) (g q) last) Y) (.keep DU (.nil)))))
  have h3:c8 (f c)≠0:=fun e=>h1 (hs1.1 e)
  by_cases h2:g j=0
  ·have d1:=dk (g c*f j) last hl0 sp hl
   have h4:=hs2.2 h2
   rw [← u5 (y:=f c) (z:=g j) (.inr h2)] at d1
   refine ae (ai (st (sT Z (a7 Y Y)) Y (Run.nil (aa (ae (aH Y (az (aa (ae ?_)))))))))
   refine au (ae (ai (st (ab Y) Y (st (aC Y Y Z) Y (st (aM Y) Y ?_)))))
   refine aG (T:=37) Y (ltN Y) (fun b11 => ?_)
   refine st (ah Y) Y (aA 0 Y Y Y Y Y (leN Y) Y (Run.nil (aa (ae ?_))))
   refine dN aZ X X ?_
   refine ux (fun B=>ab Y) Y Y ?_
   refine ux (fun B=>ab Y) Y Y ?_
   refine ux (fun B=>aC Y Y Z) Y Y ?_
   refine ux (fun B=>aM Y) Y Y ?_
   refine ux (fun B=>ak 0 Y Y Y) Y Y ?_
   refine uxk (m1) Y ⟨VT.le_refl _,VT.le_refl _,trivial⟩ Y ?_
   refine ua Y (us Y ?_)
   refine RunU.nil (fun γ => ?_)
   refine cH (M' := [_,_,_,_]) Y (aa (ae (ae (ai (st (ab Y) Y (st (ab Y) Y (st (aC Y Y Z) Y (st (aM Y) Y ?_))))))))
   refine st (am (db _) Y ⟨VT.le_refl _,trivial⟩) Y ?_
   refine st (sT (by assumption) (di Y Y)) Y (st (ab Y) Y (sg1 Y Y (ab Y) Y (sg1 Y Y (ab Y) Y (sg1 Y Y (aC Y Y Z) Y (sg1 Y Y (aM Y) Y ?_)))))
   refine sg1 Y Y (am (db _) Y ⟨VT.le_refl _,trivial⟩) Y ?_
   refine sg1 Y Y (sF Z (di Y Y)) Y (st (bj Y Y) Y (Run.nil (aa (aB Y (az (aa ?_))))))
   apply iE (Γ1 := [(0,_),(1,_),(2,_),(3,_),(8,_),(9,_),(16,_),(17,_),(18,_)]) (M1 := [_,_,_,_]) 12 3 [] [10,11] aZ X S
   ·refine st (ab Y) Y (st (ab Y) Y (st (ak 0 Y Y Y) Y (st (ab Y) Y (st (bH Y) Y (st (aj Y) Y (st (qH 3 Y Y Y) Y ?_))))))
    refine st (am (d1) Y ⟨VT.le_refl _,VT.le_refl _,trivial⟩) Y ?_
    refine st (ab Y) Y (st (aq Y Y) Y (st (aq Y Y) Y (st (aq Y Y) Y (Run.nil ?_))))
    refine nT (Γe := [(0,_),(1,_),(2,_),(3,_),(8,_),(9,_),(16,_),(17,_),(18,_),(54,_),(55,_),(56,_),(63,_)]) (rem := [12,13]) Y DT Y ?_
    refine an (rem' := [13]) (i:=12) X Y Y ?_ (iD.cons Y (StepG.plain (aq Y Y) Y Y (ltN Y)) Y (iD.cons Y (StepG.plain (aq Y Y) Y Y (ltN Y)) Y iD.nil))
    refine st (ao Y Y Z) Y (Run.nil ?_)
    refine ⟨rfl,?_⟩
    refine an (rem' := []) (i:=13) X Y Y ?_ (iD.cons Y (StepG.plain (aq Y Y) Y Y (ltN Y)) Y (iD.cons Y (StepG.plain (aq Y Y) Y Y (ltN Y)) Y iD.nil))
    (refine aw 2 Y Y Y ?_ Y ?_;omega)
    refine Run.nil ?_
    refine ⟨rfl,?_⟩
    refine aV DT (SubM.refl _) (iD.cons Y (StepG.plain (aq Y Y) Y Y (ltN Y)) Y (iD.cons Y (StepG.plain (aq Y Y) Y Y (ltN Y)) Y iD.nil))
   ·refine aD (aa (ai (st (bI _ 1 Y Y Z) Y (st (ab Y) Y (Run.nil ?_)))))
    refine aQ (j+1) (hj) Z DR (.drop (.drop (.keep (oA (h:=fun q=>jm (g c) (f q) (f c) (g q) last) Y) (.keep DU (.nil)))))
  ·have d1:=dk (g c*f j - f c*g j) last hl0 sd hl
   have h4:c8 (g j)≠0:=fun e=>h2 (hs2.1 e)
   refine ae (ai (st (sT Z (a7 Y Y)) Y (Run.nil (aa (ae (aH Y (az (aa (ae ?_)))))))))
   refine au (ae (ai (st (ab Y) Y (st (aC Y Y Z) Y (st (aM Y) Y ?_)))))
   refine aG (T:=37) Y (ltN Y) (fun b11 => ?_)
   refine st (ah Y) Y (aA 0 Y Y Y Y Y (leN Y) Y (Run.nil (aa (ae ?_))))
   refine dN aZ X X ?_
   refine ux (fun B=>ab Y) Y Y ?_
   refine ux (fun B=>ab Y) Y Y ?_
   refine ux (fun B=>aC Y Y Z) Y Y ?_
   refine ux (fun B=>aM Y) Y Y ?_
   refine ux (fun B=>ak 0 Y Y Y) Y Y ?_
   refine uxk (m1) Y ⟨VT.le_refl _,VT.le_refl _,trivial⟩ Y ?_
   refine ua Y (us Y ?_)
   refine RunU.nil (fun γ => ?_)
   refine cH (M' := [_,_,_,_]) Y (aa (ae (ae (ai (st (ab Y) Y (st (ab Y) Y (st (aC Y Y Z) Y (st (aM Y) Y ?_))))))))
   refine st (am (db _) Y ⟨VT.le_refl _,trivial⟩) Y ?_
   refine st (sT (by assumption) (di Y Y)) Y (st (ab Y) Y (sg1 Y Y (ab Y) Y (sg1 Y Y (ab Y) Y (sg1 Y Y (aC Y Y Z) Y (sg1 Y Y (aM Y) Y ?_)))))
   refine sg1 Y Y (am (db _) Y ⟨VT.le_refl _,trivial⟩) Y ?_
   refine sg1 Y Y (sT (by assumption) (di Y Y)) Y (st (bj Y Y) Y (Run.nil (aa (aH Y (a6 11 aZ X S (st (ak 0 Y Y Y) Y (st (ab Y) Y (st (ab Y) Y (st (aC Y Y Z) Y ?_)))))))))
   refine st (aM Y) Y (st (ab Y) Y (st (ab Y) Y (st (aC Y Y Z) Y (st (aM Y) Y ?_))))
   refine st (am (m2) Y ⟨VT.le_refl _,VT.le_refl _,trivial⟩) Y ?_
   refine st (am (m3) Y ⟨VT.le_refl _,VT.le_refl _,trivial⟩) Y ?_
   refine Run.nil (aA 0 Y Y Y Y Y (leN Y) Y (Run.nil (aa ?_)))
   apply iE (Γ1 := [(0,_),(1,_),(2,_),(3,_),(8,_),(9,_),(16,_),(17,_),(18,_)]) (M1 := [_,_,_,_]) 12 3 [] [10,11] aZ X S
   ·refine st (ab Y) Y (st (ab Y) Y (st (ak 0 Y Y Y) Y (st (ab Y) Y (st (bH Y) Y (st (aj Y) Y (st (qH 3 Y Y Y) Y ?_))))))
    refine st (am (d1) Y ⟨VT.le_refl _,VT.le_refl _,trivial⟩) Y ?_
    refine st (ab Y) Y (st (aq Y Y) Y (st (aq Y Y) Y (st (aq Y Y) Y (Run.nil ?_))))
    refine nT (Γe := [(0,_),(1,_),(2,_),(3,_),(8,_),(9,_),(16,_),(17,_),(18,_),(54,_),(55,_),(56,_),(63,_)]) (rem := [12,13]) Y DT Y ?_
    refine an (rem' := [13]) (i:=12) X Y Y ?_ (iD.cons Y (StepG.plain (aq Y Y) Y Y (ltN Y)) Y (iD.cons Y (StepG.plain (aq Y Y) Y Y (ltN Y)) Y iD.nil))
    refine st (ao Y Y Z) Y (Run.nil ?_)
    refine ⟨rfl,?_⟩
    refine an (rem' := []) (i:=13) X Y Y ?_ (iD.cons Y (StepG.plain (aq Y Y) Y Y (ltN Y)) Y (iD.cons Y (StepG.plain (aq Y Y) Y Y (ltN Y)) Y iD.nil))
    (refine aw 2 Y Y Y ?_ Y ?_;omega)
    refine Run.nil ?_
    refine ⟨rfl,?_⟩
    refine aV DT (SubM.refl _) (iD.cons Y (StepG.plain (aq Y Y) Y Y (ltN Y)) Y (iD.cons Y (StepG.plain (aq Y Y) Y Y (ltN Y)) Y iD.nil))
   ·refine aD (aa (ai (st (bI _ 1 Y Y Z) Y (st (ab Y) Y (Run.nil ?_)))))
    refine aQ (j+1) (hj) Z DR (.drop (.drop (.keep (oA (h:=fun q=>jm (g c) (f q) (f c) (g q) last) Y) (.keep DU (.nil)))))
 ·have he:j=w:=by omega
  subst he
  refine ae (ai (st (sF Z (a7 Y Y)) Y (Run.nil (aa (ae (aB Y (aX (av (av ?_)))))))))
  refine aF (aa (ae (ai (st (ab Y) Y (st (ah Y) Y (Run.nil (aa (aE (cq (t:=8) (i:=0) Y Y ?_)))))))))
  exact pA (σ:=Unit) (ψ:=fun _=>slT (.agg 2) j (fun q=>aL (jm (g c) (f q) (f c) (g q) last))) () Tryz.results152 (.tmp Y (dX fun q hq=>gE (by rw [if_pos hq]))) (SubM.refl _)
end Tor
end
section
namespace Tor
open Go Go.RowKit Go.Proofs
def lz (n:Nat) (x:Int):Prop:=(aJ x.natAbs).length≤n
theorem lz.small {n:Nat} {x:Int} (h:lz n x) (hn:n≤1099511627776):bm x:=Nat.le_trans h hn
theorem lz.small0 {n:Nat} {x:Int} (h:lz n x) (hn:n≤1099511627700):cZ x:=Nat.le_trans h hn
theorem lz.mono {n m:Nat} {x:Int} (h:lz n x) (hn:n≤m):lz m x:=Nat.le_trans h hn
theorem vA {n:Nat} {x y:Int} (h:lz n y) (hl:x.natAbs≤y.natAbs):lz n x:=Nat.le_trans (bZ hl) h
theorem lz.lt {n:Nat} {x:Int} (h:lz n x):x.natAbs<4294967296^n:=Nat.lt_of_lt_of_le (cW _) (Nat.pow_le_pow_right S h)
theorem d6 {n m:Nat} {x y:Int} (hx:lz n x) (hy:lz m y):lz (n+m) (x*y):=cr (by
 rw [Int.natAbs_mul,Nat.pow_add]
 have h1:=hx.lt
 have h2:=hy.lt
 exact Nat.mul_lt_mul'' h1 h2)
theorem y9 {n:Nat} {x y:Int} (hx:lz n x) (hy:lz n y):lz (n+1) (x - y):=cr (by
 have h1:=hx.lt
 have h2:=hy.lt
 rw [Nat.pow_succ]
 generalize 4294967296^n=z at *
 omega)
theorem za {n:Nat} {x y:Int} (hx:lz n x) (hy:lz n y):lz (n+1) (x+y):=cr (by
 have h1:=hx.lt
 have h2:=hy.lt
 rw [Nat.pow_succ]
 generalize 4294967296^n=z at *
 omega)
theorem zc {n:Nat} {x:Int} (h:lz n x):lz n (-x):=vA h Z
theorem na (x q:Int):(x / q).natAbs≤x.natAbs:=Int.natAbs_ediv_le_natAbs x q
theorem CL {n:Nat} {x:Int} (h:lz n x) (q:Int):lz n (x / q):=vA h (na x q)
theorem vB (n:Nat):lz n 0:=Nat.zero_le _
theorem uk {n:Nat} (h:1≤n):lz n 1:=Nat.le_trans (cr (k:=1) S) h
theorem Ba {n:Nat} {p x y z:Int} (hp:lz n p) (hx:lz n x) (hy:lz n y) (hz:lz n z) (q:Int):lz (2*n+1) (jm p x y z q):=by
 unfold jm
 have h1:=d6 hp hx
 have h2:=d6 hy hz
 have h3:=y9 h1 h2
 rw [show n+n+1=2*n+1 by omega] at h3
 exact CL h3 q
theorem zd {n k c:Nat} {last:Int} {full:Bool} {R:Nat→Nat→Int} (h : ∀ i j,lz n (R i j)) : ∀ i j,lz (2*n+1) (gb k c last full R i j):=fun i j=>by
 unfold gb;split
 ·exact Ba (h _ _) (h _ _) (h _ _) (h _ _) _
 ·exact (h _ _).mono Z
theorem my {sv:Option Nat} {T:TypeId} {cap n w i:Nat} {R DN:Nat→Nat→Int} {f:Nat→Int} (hf : ∀ j,f j=DN i j):Own.le (aI sv T .one cap n (upd (fun q=>bD w (if q<i then DN q else R q)) i (bD w f))) (aI sv T .one cap n (fun q=>bD w (if q<i+1 then DN q else R q))):=be (fun q _=>by
 have e:f=DN i:=funext hf
 show (if q=i then bD w f else bD w (if q<i then DN q else R q))=_
 by_cases c:q=i
 ·rw [if_pos c,if_pos Z,c,e]
 ·rw [if_neg c]
  by_cases c2:q<i
  ·rw [if_pos c2,if_pos Z]
  ·rw [if_neg c2,if_neg Z])
theorem p7 {sv:Option Nat} {T:TypeId} {cap n w i:Nat} {R DN:Nat→Nat→Int} (hf : ∀ j,R i j=DN i j):Own.le (aI sv T .one cap n (fun q=>bD w (if q<i then DN q else R q))) (aI sv T .one cap n (fun q=>bD w (if q<i+1 then DN q else R q))):=be (fun q _=>by
 have e:R i=DN i:=funext hf
 by_cases c:q=i
 ·subst c;rw [if_neg Z,if_pos Z,e]
 ·by_cases c2:q<i
  ·rw [if_pos c2,if_pos Z]
  ·rw [if_neg c2,if_neg Z])
theorem Bb:VT.le (one (.slice none 0 0)) (one (slV none 0 0)):=ar Y
instance {n:Nat} {f:Nat→Int} : Flat (bD n f) .one:=by unfold bD;infer_instance
attribute [local irreducible] Tor.J Tor.PJ Tor.aK Tor.one Tor.slT Tor.bO Tor.bC Tor.bv Tor.exT Tor.cd Tor.eP Tor.aR Tor.aI Tor.slV Tor.VT.le Tor.Ret Tor.bJ Tor.xO
set_option maxHeartbeats 1000000 in
theorem wS (r:Nat) (φ:Nat→VT) [hF : ∀ i,Flat (φ i) .one] (hr:r≤1048576):OkM (σ:=Option Nat × Nat) Tryz.prog 125 [slT .one r φ] (fun s=>one (slV s.1 r s.2)) (fun s => [aI s.1 32 .one s.2 r φ]):=by
 refine OkM.enter Tryz.func125 Y Tryz.ntmps125 Y (fun w O => ?_)
 refine ae (ai (st (ah Y) Y (Run.nil (aa (ae (ae (ai (st (ab Y) Y (st (qv Y) Y ?_)))))))))
 refine Run.nil (aa ?_)
 refine v6 (t:=4) Y (fun b => ?_)
 refine pu (t:=4) Y (fun hb => ?_)
 refine a8 Y (fun hc => ?_) (fun hc => ?_)
 ·have h0:=hb hc
  subst h0
  refine ae (ai (st (ah Y) Y (Run.nil (aa (aE (aW (u0 (nU 32 .one φ) ?_)))))))
  exact kt (σ:=Option Nat × Nat) (ψ:=fun s=>one (slV s.1 0 s.2)) (Ms:=fun s => [aI s.1 32 .one s.2 0 φ]) (none,0) Tryz.results125 (.tmp Y Bb) (SubM.refl _)
 ·refine az (aa (ae (ai (m0 (n:=0) Y Y Y Y Y ?_))))
  refine PartsK.nil (fun bl => ?_)
  refine st (ab Y) Y ?_
  (refine cS 0 Y Y Y (leN Y) ?_ ?_ Y (ltN Y) (fun sv7 cap7 => ?_);omega;omega)
  refine st (ah Y) Y (Run.nil (aa (aE ?_)))
  exact kt (σ:=Option Nat × Nat) (ψ:=fun s=>one (slV s.1 r s.2)) (Ms:=fun s => [aI s.1 32 .one s.2 r φ]) (sv7,cap7) Tryz.results125 (.tmp Y (lK (Nat.zero_add r))) (.keep (gR (Nat.zero_add r) (fun q hq=>by rw [if_neg (Nat.not_lt_zero q),Nat.sub_zero])) .nil)
attribute [local irreducible] aL bD
set_option maxHeartbeats 4000000 in
theorem Bc (b bs r cap:Nat) (last:Int) (odd:Bool) (ψ:VT) (w:Nat) (R:Nat→Nat→Int) (k c:Nat) (full:Bool) (n:Nat) (hk:k<r) (hc:c<w) (hw:w≤1048576) (hr:r≤1048576) (hl0:last≠0) (hn:2*n+1≤1099511627776) (hl:lz n last) (hR : ∀ i j,lz n (R i j)) :
  OkI Tryz.prog 127 [one (.pointer (some ⟨b,0,none⟩)),one (.int .i64 (k:Nat)),one (.int .i64 (c:Nat)),one (.bool full)] [eE b (some bs) r cap last odd ψ,aI (some bs) 32 .one cap r (fun i=>bD w (R i))]
   (fun _:Unit=>bv []) (fun _ => [eE b (some bs) r cap (R k c) odd ψ,aI (some bs) 32 .one cap r (fun i=>bD w (gb k c last full R i))]):=by
 have hrep:=fun f g (hf : ∀ j,lz n (f j)) (hg : ∀ j,lz n (g j))=>sS b (some bs) r cap last odd ψ w c f g hc hw hl0 (hl.small Z) (fun j=>(hf j).small Z) (fun j=>(hg j).small Z) (fun j=>(d6 (hg c) (hf j)).small Z) (fun j=>(d6 (hf c) (hg j)).small Z) (fun j=>(y9 (d6 (hg c) (hf j)) (d6 (hf c) (hg j))).small Z)
 refine OkI.enter Tryz.func127 Y Tryz.ntmps127 Y (fun w0 O => ?_)
 refine ae (ai (st (ab Y) Y (st (bH Y) Y (st (aj Y) Y (st (ak 0 Y Y Y) Y (st (ab Y) Y (st (ao Y Y Z) Y (st (bh 1 Y Y Z) Y (st (ah Y) Y ?_)))))))))
 refine Run.nil (aa (ae (ae (ai (st (ab Y) Y (st (bH Y) Y (st (aj Y) Y (st (ak 0 Y Y Y) Y (st (cx Y) Y ?_)))))))))
 refine st (ab Y) Y (Run.nil (aa (au (cn (Γ' := [(0,_),(1,_),(2,_),(3,_),(8,_),(21,_),(22,_),(23,_)]) DQ (SubM.refl _) ?_))))
 refine bB (σ:=Nat) (Γk := [(0,_),(1,_),(2,_),(3,_),(8,_),(21,_),(22,_)]) DQ (fun i => [(23,one (.int .i64 (i:Nat)))]) (fun i M0=>(M0.set 1 (aI (some bs) 32 .one cap r (fun q=>bD w (if q<i then gb k c last full R q else R q))))) (fun i=>i≤r) (fun i=>r - i) (0) (Nat.zero_le _) DR (.keep DU (.keep DU (.nil))) (fun i hi => ?_)
 refine bQ (Γ' := [(23,_),(0,_),(1,_),(2,_),(3,_),(8,_),(21,_),(22,_)]) (M' := [_,_]) Y Y ?_
 cases full with
 | true =>
  by_cases hi:i<r
  ·by_cases h1:k<i
   ·refine ae (ai (st (sT Z (a7 Y Y)) Y (Run.nil (aa (ae (aH Y (az (aa (ae ?_)))))))))
    refine au (ae (ai (st (ab Y) Y (st (ao Y Y Z) Y (st (bh 1 Y Y Z) Y (st (ah Y) Y (st (ah Y) Y (Run.nil (aa ?_)))))))))
    refine ae (ai (st (ab Y) Y (st (ab Y) Y (st (sT Z (c7 Y Y)) Y (st (ab Y) Y (sn0 Y Y Y Y Y (sn0 Y Y Y Y Y (snU Y Y Y Y (snU Y Y Y Y ?_)))))))))
    refine snU Y Y Y Y (sn0 Y Y Y Y Y (st (bj Y Y) Y (Run.nil (aa (aH Y (a6 10 aZ X S (st (ab Y) Y (st (bH Y) Y (st (aj Y) Y ?_)))))))))
    refine st (ak 0 Y Y Y) Y (st (ab Y) Y (st (ab Y) Y (st (ab Y) Y (st (ab Y) Y (st (ab Y) Y ?_)))))
    refine st (qI (Min := [eE b (some bs) r cap last odd ψ]) (Kp := [_]) (hrep (R i) (R k) (hR i) (hR k)) Y ⟨VT.le_refl _,gE (by rw [if_neg (Nat.lt_irrefl i)]),VT.le_refl _,VT.le_refl _,trivial⟩ (List.Perm.refl _)) Y ?_
    refine Run.nil (st (ao Y Y Z) Y ?_)
    (refine aw 1 Y Y Y ?_ Y ?_;omega)
    refine Run.nil (aD (aa (ai (st (bI _ 1 Y Y Z) Y (st (ab Y) Y (Run.nil ?_))))))
    refine aQ (i+1) (hi) Z DR (.keep DU (.keep (my (fun j=>by unfold gb;simp [h1])) (.nil)))
   ·by_cases h2:i<k
    ·refine ae (ai (st (sT Z (a7 Y Y)) Y (Run.nil (aa (ae (aH Y (az (aa (ae ?_)))))))))
     refine au (ae (ai (st (ab Y) Y (st (ao Y Y Z) Y (st (bh 1 Y Y Z) Y (st (ah Y) Y (st (ah Y) Y (Run.nil (aa ?_)))))))))
     refine ae (ai (st (ab Y) Y (st (ab Y) Y (st (sF Z (c7 Y Y)) Y (st (ab Y) Y (sg1 Y Y (ab Y) Y (sg1 Y Y (ab Y) Y (sg1 Y Y (ab Y) Y (sg1 Y Y (ab Y) Y ?_)))))))))
     refine sg1 Y Y (sT Z (a7 Y Y)) Y (sg1 Y Y (bj Y Y) Y (st (bF Y Y) Y (Run.nil (aa (aH Y (a6 10 aZ X S (st (ab Y) Y (st (bH Y) Y (st (aj Y) Y ?_)))))))))
     refine st (ak 0 Y Y Y) Y (st (ab Y) Y (st (ab Y) Y (st (ab Y) Y (st (ab Y) Y (st (ab Y) Y ?_)))))
     refine st (qI (Min := [eE b (some bs) r cap last odd ψ]) (Kp := [_]) (hrep (R i) (R k) (hR i) (hR k)) Y ⟨VT.le_refl _,gE (by rw [if_neg (Nat.lt_irrefl i)]),VT.le_refl _,VT.le_refl _,trivial⟩ (List.Perm.refl _)) Y ?_
     refine Run.nil (st (ao Y Y Z) Y ?_)
     (refine aw 1 Y Y Y ?_ Y ?_;omega)
     refine Run.nil (aD (aa (ai (st (bI _ 1 Y Y Z) Y (st (ab Y) Y (Run.nil ?_))))))
     refine aQ (i+1) (hi) Z DR (.keep DU (.keep (my (fun j=>by unfold gb;simp [h2])) (.nil)))
    ·refine ae (ai (st (sT Z (a7 Y Y)) Y (Run.nil (aa (ae (aH Y (az (aa (ae ?_)))))))))
     refine au (ae (ai (st (ab Y) Y (st (ao Y Y Z) Y (st (bh 1 Y Y Z) Y (st (ah Y) Y (st (ah Y) Y (Run.nil (aa ?_)))))))))
     refine ae (ai (st (ab Y) Y (st (ab Y) Y (st (sF Z (c7 Y Y)) Y (st (ab Y) Y (sg1 Y Y (ab Y) Y (sg1 Y Y (ab Y) Y (sg1 Y Y (ab Y) Y (sg1 Y Y (ab Y) Y ?_)))))))))
     refine sg1 Y Y (sF Z (a7 Y Y)) Y (sg1 Y Y (bj Y Y) Y (st (bF Y Y) Y (Run.nil (aa (aB Y (az (aD (aa (ai ?_)))))))))
     refine st (bI _ 1 Y Y Z) Y (st (ab Y) Y (Run.nil ?_))
     refine aQ (i+1) (hi) Z DR (.keep DU (.keep (p7 (fun j=>by unfold gb;simp [h1,h2])) (.nil)))
  ·have he:i=r:=by omega
   subst he
   unfold bD
   refine ae (ai (st (sF Z (a7 Y Y)) Y (Run.nil (aa (ae (aB Y (aX (av (av ?_)))))))))
   refine aF (aa (ai (st (ab Y) Y (st (ab Y) Y (st (ab Y) Y (st (aC Y Y Z) Y (st (aM Y) Y (st (bH Y) Y (st (aj Y) Y ?_)))))))))
   refine aA 0 Y Y Y Y Y (leN Y) Y (Run.nil (i6 ?_))
   exact lk (σ:=Unit) (ψ:=fun _=>bv []) () Tryz.results127 H (.keep DU (.keep (be fun q hq=>by rw [if_pos hq]) .nil))
 | false =>
  by_cases hi:i<r
  ·by_cases h1:k<i
   ·refine ae (ai (st (sT Z (a7 Y Y)) Y (Run.nil (aa (ae (aH Y (az (aa (ae ?_)))))))))
    refine au (ae (ai (st (ab Y) Y (st (ao Y Y Z) Y (st (bh 1 Y Y Z) Y (st (ah Y) Y (st (ah Y) Y (Run.nil (aa ?_)))))))))
    refine ae (ai (st (ab Y) Y (st (ab Y) Y (st (sT Z (c7 Y Y)) Y (st (ab Y) Y (sn0 Y Y Y Y Y (sn0 Y Y Y Y Y (snU Y Y Y Y (snU Y Y Y Y ?_)))))))))
    refine snU Y Y Y Y (sn0 Y Y Y Y Y (st (bj Y Y) Y (Run.nil (aa (aH Y (a6 10 aZ X S (st (ab Y) Y (st (bH Y) Y (st (aj Y) Y ?_)))))))))
    refine st (ak 0 Y Y Y) Y (st (ab Y) Y (st (ab Y) Y (st (ab Y) Y (st (ab Y) Y (st (ab Y) Y ?_)))))
    refine st (qI (Min := [eE b (some bs) r cap last odd ψ]) (Kp := [_]) (hrep (R i) (R k) (hR i) (hR k)) Y ⟨VT.le_refl _,gE (by rw [if_neg (Nat.lt_irrefl i)]),VT.le_refl _,VT.le_refl _,trivial⟩ (List.Perm.refl _)) Y ?_
    refine Run.nil (st (ao Y Y Z) Y ?_)
    (refine aw 1 Y Y Y ?_ Y ?_;omega)
    refine Run.nil (aD (aa (ai (st (bI _ 1 Y Y Z) Y (st (ab Y) Y (Run.nil ?_))))))
    refine aQ (i+1) (hi) Z DR (.keep DU (.keep (my (fun j=>by unfold gb;simp [h1])) (.nil)))
   ·refine ae (ai (st (sT Z (a7 Y Y)) Y (Run.nil (aa (ae (aH Y (az (aa (ae ?_)))))))))
    refine au (ae (ai (st (ab Y) Y (st (ao Y Y Z) Y (st (bh 1 Y Y Z) Y (st (ah Y) Y (st (ah Y) Y (Run.nil (aa ?_)))))))))
    refine ae (ai (st (ab Y) Y (st (ab Y) Y (st (sF Z (c7 Y Y)) Y (st (ab Y) Y (sg1 Y Y (ab Y) Y (sg1 Y Y (ab Y) Y (sn0 Y Y Y Y Y (sn0 Y Y Y Y Y ?_)))))))))
    refine sn0 Y Y Y Y Y (sg1 Y Y (bF Y Y) Y (st (bF Y Y) Y (Run.nil (aa (aB Y (az (aD (aa (ai ?_)))))))))
    refine st (bI _ 1 Y Y Z) Y (st (ab Y) Y (Run.nil ?_))
    refine aQ (i+1) (hi) Z DR (.keep DU (.keep (p7 (fun j=>by unfold gb;simp [h1])) (.nil)))
  ·have he:i=r:=by omega
   subst he
   unfold bD
   refine ae (ai (st (sF Z (a7 Y Y)) Y (Run.nil (aa (ae (aB Y (aX (av (av ?_)))))))))
   refine aF (aa (ai (st (ab Y) Y (st (ab Y) Y (st (ab Y) Y (st (aC Y Y Z) Y (st (aM Y) Y (st (bH Y) Y (st (aj Y) Y ?_)))))))))
   refine aA 0 Y Y Y Y Y (leN Y) Y (Run.nil (i6 ?_))
   exact lk (σ:=Unit) (ψ:=fun _=>bv []) () Tryz.results127 H (.keep DU (.keep (be fun q hq=>by rw [if_pos hq]) .nil))
end Tor
end
section
namespace Tor
open Go Go.RowKit Go.Proofs
def lW (n:Nat):Nat→Nat
 | 0 => n
 | p + 1 => 2 * lW n p + 1
theorem lX (n:Nat) : ∀ p,lW n p+1=(n+1)*2^p
 | 0 => by rw [Nat.pow_zero, Nat.mul_one]; rfl
 | p + 1 => by
  have:=lX n p
  show 2*lW n p+1+1=_
  rw [Nat.pow_succ, ← Nat.mul_assoc, ← this]; omega
theorem vC {n p q:Nat} (h:p≤q):lW n p≤lW n q:=by
 have h1:=lX n p
 have h2:=lX n q
 have h3:(n+1)*2^p≤(n+1)*2^q:=Nat.mul_le_mul_left _ (Nat.pow_le_pow_right S h)
 omega
structure ElOk (n r:Nat) (e:ElS):Prop where
 p:e.piv.length≤r
 nz:e.last≠0
 last:lz (lW n e.piv.length) e.last
 R : ∀ i j,lz (lW n e.piv.length) (e.R i j)
theorem ul {n i k:Nat} {R:Nat→Nat→Int} (h : ∀ i j,lz n (R i j)) : ∀ q j,lz n (swp i k R q j):=fun q j=>by
 unfold swp;split
 ·exact h _ _
 ·split
  ·exact h _ _
  ·exact h _ _
theorem ElOk.start {n r:Nat} {F:Nat→Nat→Int} (hn:1≤n) (h : ∀ i j,lz n (F i j)):ElOk n r ⟨F,1,false, []⟩:=⟨Nat.zero_le _,(by decide:(1:Int)≠0),uk hn,h⟩
theorem ElOk.round {n r:Nat} {e:ElS} (h:ElOk n r e) {i c:Nat} (full:Bool) (hp:e.piv.length<r) (hn:swp i e.piv.length e.R e.piv.length c≠0) :
  ElOk n r ⟨gb e.piv.length c e.last full (swp i e.piv.length e.R),swp i e.piv.length e.R e.piv.length c,xor e.odd (decide (i≠e.piv.length)),e.piv ++ [c]⟩:=by
 have hl:(e.piv ++ [c]).length=e.piv.length+1:=by simp
 refine ⟨by rw [hl]; exact hp,hn,?_,fun i' j => ?_⟩
 ·show lz (lW n (e.piv ++ [c]).length) _
  rw [hl]; exact (ul h.R _ _).mono (vC (Nat.le_succ _))
 ·show lz (lW n (e.piv ++ [c]).length) _
  rw [hl]; exact zd (ul h.R) _ _
theorem um {n r:Nat} (full:Bool) {F:Nat→Nat→Int} (hn:1≤n) (hF : ∀ i j,lz n (F i j)) : ∀ c,ElOk n r (elN r full F c)
 | 0 => ElOk.start hn hF
 | c + 1 => by
  have h:=um (r:=r) full hn hF c
  show ElOk n r (elR r full c (elN r full F c))
  generalize elN r full F c=e at h
  rcases r6 e.R c e.piv.length r with h0 | ⟨i,hk,hi,h0,hn'⟩
  ·rw [nY h0]; exact h
  ·have hp:e.piv.length<r:=by omega
   rw [nZ hp hk hi h0 hn']
   exact h.round full hp (by rw [gM]; exact hn')
def ElI (n r:Nat) (full:Bool) (F:Nat→Nat→Int) (c:Nat) (e:ElS):Prop:=e=elN r full F c∧ElOk n r e
abbrev rf (l:List Nat):Nat→VT:=fun q=>one (.int .i64 (l.getD q 0:Nat))
def vD (r w:Nat) (e:ElS):VT:=bO (.agg 5) (bC 5 [(0, .agg 4,bC 4 [(0, .one,slT .one r (fun i=>bD w (e.R i))),(1, .agg 2,aL e.last),(3, .one,one (.bool e.odd))]),(4, .one,slT .one e.piv.length (rf e.piv))])
theorem ze (r w:Nat) (e:ElS):VT.le (bO (.agg 5) (bC 5 [(0, .one,slT .one r (fun i=>bD w (e.R i))),(1, .agg 2,aL e.last),(3, .one,one (.bool e.odd)),(4, .one,slT .one e.piv.length (rf e.piv))])) (vD r w e) :=
 yf (ye (m:=5) (o:=0) (k:=4) (cs := [(0, .one,slT .one r (fun i=>bD w (e.R i))),(1, .agg 2,aL e.last),(3, .one,one (.bool e.odd))]) (rest := [(4, .one,slT .one e.piv.length (rf e.piv))]) Y S)
theorem un {b r cap:Nat} {sv:Option Nat} : Own.le (aR b 117 5 (ko (dx #[Value.slice none 0 0,Value.bool false,Value.slice none 0 0,Value.bool false,Value.slice none 0 0] [(0,Lay.agg 4),(4, .one)]) 0 (bC 4 (ko (ko (dx #[Value.slice none 0 0,Value.bool false,Value.slice none 0 0,Value.bool false] [(0, .one),(1,Lay.agg 2),(3, .one)]) 0 (one (slV sv r cap))) 1 (aL 1)))))
  (eE b sv r cap 1 false (one (slV none 0 0))):=Ch (o:=0) (k:=4) (cs := [(0, .one,one (slV sv r cap)),(1, .agg 2,aL 1),(3, .one,one (.bool false))]) (rest := [(4, .one,one (.slice none 0 0))]) Y
theorem wT {b r cap:Nat} {last:Int} {odd:Bool} {sv svp:Option Nat} {capp c:Nat} {l:List Nat} : Own.le (eE b sv r cap last odd (one (slV svp (l.length+1) capp))) (eE b sv r cap last odd (one (slV svp (l ++ [c]).length capp))):=by
 rw [List.length_append]; exact Own.le_refl _
theorem zf {sv:Option Nat} {T:TypeId} {cap c:Nat} {l:List Nat} : Own.le (aI sv T .one cap (l.length+1) (fun q=>if q<l.length then rf l q else one (.int .i64 (c:Nat)))) (aI sv T .one cap (l ++ [c]).length (rf (l ++ [c]))):=gR (by simp) (fun q hq=>by
 show _=one (Value.int .i64 ((l ++ [c]).getD q 0:Nat))
 by_cases h:q<l.length
 ·rw [if_pos h]; show one (Value.int .i64 (l.getD q 0:Nat))=_;simp [List.getD,List.getElem?_append_left h]
 ·have:q=l.length:=by omega
  subst this;rw [if_neg h]; simp [List.getD])
attribute [local irreducible] Tor.J Tor.PJ Tor.aK Tor.one Tor.slT Tor.bO Tor.bC Tor.bv Tor.exT Tor.cd Tor.eP Tor.aR Tor.aI Tor.slV Tor.VT.le Tor.Ret Tor.bJ Tor.xO
attribute [local irreducible] aL bD
set_option maxHeartbeats 4000000 in
theorem CM (r w cols:Nat) (F:Nat→Nat→Int) (full:Bool) (n:Nat) (hr:r≤1048576) (hw:w≤1048576) (hcw:cols≤w) (hn:1≤n) (hb:(n+1)*2^r≤1099511627776) (hF : ∀ i j,lz n (F i j)) :
  OkM (σ:=Nat × Option Nat × Nat × Option Nat × Nat) Tryz.prog 79 [slT .one r (fun i=>bD w (F i)),one (.int .i64 (cols:Nat)),one (.bool full)] (fun s=>one (.pointer (some ⟨s.1,0,none⟩)))
   (fun s => [eE s.1 s.2.1 r s.2.2.1 (elN r full F cols).last (elN r full F cols).odd (one (slV s.2.2.2.1 (elN r full F cols).piv.length s.2.2.2.2)),aI s.2.1 32 .one s.2.2.1 r (fun i=>bD w ((elN r full F cols).R i)),aI s.2.2.2.1 3 .one s.2.2.2.2 (elN r full F cols).piv.length (rf (elN r full F cols).piv)]):=by
 refine OkM.enter Tryz.func79 Y Tryz.ntmps79 Y (fun w0 O => ?_)
 have hcl:=wS r (fun i=>bD w (F i)) hr
 refine ae (ai (st (ah Y) Y (Run.nil (aa (ig (ae (ai (st (ab Y) Y ?_))))))))
 refine gl (hcl) Y ⟨VT.le_refl _,trivial⟩ Y Y (fun s12 => ?_)
 refine st (am (jn _ Z Z) Y ⟨VT.le_refl _,trivial⟩) Y ?_
 refine stB Y Y Y (BuildK.cons Y Y Y (BuildK.cons Y Y Y (BuildK.nil (stB Y Y Y (BuildK.cons Y Y Y (BuildK.nil ?_))))))
 refine aS Y Y (ltN Y) (fun b16 => ?_)
 refine st (ah Y) Y (Run.nil (aa (ae (jU (aa (ae (ae (ai (st (ah Y) Y ?_)))))))))
 refine Run.nil (aa (au ?_))
 obtain ⟨sv,cap⟩:=s12
 refine Cg (nU 3 .one (rf [])) (cn (Γ' := [(1,_),(2,_),(6,_),(7,_),(8,_)]) DQ (SubM.refl _) ?_)
 refine bB (σ:=Nat × ElS × Option Nat × Nat) (Γk := [(1,_),(2,_),(6,_),(7,_)]) DQ (fun s => [(8,one (.int .i64 (s.1:Nat)))]) (fun s M0=>(((M0.set 2 (aI sv 32 .one cap r (fun i=>bD w (s.2.1.R i)))).set 1 (eE b16 sv r cap s.2.1.last s.2.1.odd (one (slV s.2.2.1 s.2.1.piv.length s.2.2.2)))).set 0 (aI s.2.2.1 3 .one s.2.2.2 s.2.1.piv.length (rf s.2.1.piv)))) (fun s=>s.1≤cols∧ElI n r full F s.1 s.2.1) (fun s=>cols - s.1) ((0,⟨F,1,false, []⟩,none,0)) (⟨Nat.zero_le _,rfl,ElOk.start hn hF⟩) DR (.keep DU (.keep (un) (.keep DU (.nil)))) (fun s hs => ?_)
 refine bQ (Γ' := [(8,_),(1,_),(2,_),(6,_),(7,_)]) (M' := [_,_,_]) Y Y ?_
 obtain ⟨c,e,svp,capp⟩:=s
 obtain ⟨hcc,hE,hO⟩:=hs
 dsimp only at hcc hE hO ⊢
 refine nh (i:=2) (F:=sv=none→r=0) Y (fun g h hp he=>iR hp he) (fun hsv => ?_)
 have hpr:=hO.p
 by_cases hc:c<cols
 ·by_cases hp:e.piv.length<r
  ·obtain ⟨bs,rfl⟩:=gv hsv Z
   have hbn:=lX n (e.piv.length+1)
   have hbp:(n+1)*2^(e.piv.length+1)≤(n+1)*2^r:=Nat.mul_le_mul_left _ (Nat.pow_le_pow_right S hp)
   have hbb:2*lW n e.piv.length+1≤1099511627776:=by
    have:lW n (e.piv.length+1)=2*lW n e.piv.length+1:=rfl
    omega
   refine ae (ae (a6 17 aZ X S (st (ab Y) Y (st (ab Y) Y (st (sT Z (a7 Y Y)) Y (st (ab Y) Y (sg1 Y Y (ab Y) Y (sg1 Y Y (bH Y) Y (sg1 Y Y (aj Y) Y ?_)))))))))
   refine sg1 Y Y (ak 1 Y Y Y) Y (sg1 Y Y (cx Y) Y (sg1 Y Y (ab Y) Y (sg1 Y Y (bH Y) Y (sg1 Y Y (aj Y) Y (sg1 Y Y (aj Y) Y (sg1 Y Y (ak 1 Y Y Y) Y (sg1 Y Y (cx Y) Y (sg1 Y Y (sT Z (a7 Y Y)) Y (st (bj Y Y) Y ?_)))))))))
   refine Run.nil (Run.nil (aa (aH Y (az (aa (ae (au (ae (ai ?_)))))))))
   refine st (ab Y) Y (st (bH Y) Y (st (aj Y) Y (st (ak 1 Y Y Y) Y (st (cx Y) Y (st (ah Y) Y (Run.nil (aa (ae (ai ?_)))))))))
   refine st (ab Y) Y (st (ah Y) Y (Run.nil (aa (au (cn (Γ' := [(1,_),(2,_),(6,_),(7,_),(8,_),(9,_),(10,_)]) DQ (SubM.refl _) ?_)))))
   refine bB (σ:=Nat) (Γk := [(1,_),(2,_),(6,_),(7,_),(8,_),(9,_)]) DQ (fun i => [(10,one (.int .i64 (i:Nat)))]) (fun i M0=>M0) (fun i=>e.piv.length≤i∧i≤r ∧ ∀ q,e.piv.length≤q→q<i→e.R q c=0) (fun i=>r - i) (e.piv.length) (⟨Nat.le_refl _,hpr,fun q h1 h2=>absurd h2 Z⟩) DR (.keep DU (.keep DU (.keep DU (.nil)))) (fun i hi => ?_)
   refine bQ (Γ' := [(10,_),(1,_),(2,_),(6,_),(7,_),(8,_),(9,_)]) (M' := [_,_,_]) Y Y ?_
   obtain ⟨hi1,hi2,hi3⟩:=hi
   by_cases hi:i<r
   ·have hz:=eD (e.R i c)
    unfold bD
    by_cases h0:e.R i c=0
    ·have hz1:=hz.2 h0
     refine ae (ae (ai (st (ab Y) Y (st (ab Y) Y (st (bH Y) Y (st (aj Y) Y (st (aj Y) Y (st (ak 1 Y Y Y) Y (st (cx Y) Y ?_)))))))))
     refine st (sT Z (a7 Y Y)) Y (Run.nil (aa (aH Y (az (aa (ae (au (ae (ai ?_)))))))))
     refine st (ab Y) Y (st (bH Y) Y (st (aj Y) Y (st (aj Y) Y (st (ak 1 Y Y Y) Y (st (ab Y) Y (st (ao Y Y Z) Y (st (bh 2 Y Y Z) Y (st (ab Y) Y (st (aC Y Y Z) Y ?_)))))))))
     refine st (aM Y) Y ?_
     refine st (am (db _) Y ⟨VT.le_refl _,trivial⟩) Y ?_
     refine st (sF Z (di Y Y)) Y (Run.nil (aa (aB Y (az (aD (aa (ai (st (ab Y) Y (st (bI _ 1 Y Y Z) Y ?_)))))))))
     refine st (ah Y) Y (Run.nil ?_)
     refine aQ (i+1) (⟨by omega,hi,fun q h1 h2=>by by_cases h3:q=i;exact h3▸h0;exact hi3 q h1 Z⟩) Z DR (.keep DU (.keep DU (.keep DU (.nil))))
    ·have hz1:c8 (e.R i c)≠0:=fun h=>h0 (hz.1 h)
     refine ae (ae (ai (st (ab Y) Y (st (ab Y) Y (st (bH Y) Y (st (aj Y) Y (st (aj Y) Y (st (ak 1 Y Y Y) Y (st (cx Y) Y ?_)))))))))
     refine st (sT Z (a7 Y Y)) Y (Run.nil (aa (aH Y (az (aa (ae (au (ae (ai ?_)))))))))
     refine st (ab Y) Y (st (bH Y) Y (st (aj Y) Y (st (aj Y) Y (st (ak 1 Y Y Y) Y (st (ab Y) Y (st (ao Y Y Z) Y (st (bh 2 Y Y Z) Y (st (ab Y) Y (st (aC Y Y Z) Y ?_)))))))))
     refine st (aM Y) Y ?_
     refine st (am (db _) Y ⟨VT.le_refl _,trivial⟩) Y ?_
     refine st (sT (by assumption) (di Y Y)) Y (Run.nil (aa (aH Y (ae (ai (st (ab Y) Y (st (bH Y) Y (st (aj Y) Y (st (ab Y) Y ?_)))))))))
     refine st (ab Y) Y ?_
     refine gn (Min := [eE b16 (some bs) r cap e.last e.odd (one (slV svp e.piv.length capp)),aI (some bs) 32 .one cap r (fun i=>slT (.agg 2) w fun j=>aL (e.R i j))]) (Kp := [_]) (yX b16 bs r cap e.last e.odd _ (fun i=>slT (.agg 2) w fun j=>aL (e.R i j)) i e.piv.length hi hp) Y ⟨VT.le_refl _,VT.le_refl _,VT.le_refl _,trivial⟩ (List.perm_append_comm (l₁ := [_]) (l₂ := [_,_])) Y Y (fun _ => ?_)
     refine Run.nil (aa (ae (ai (st (ab Y) Y (st (bH Y) Y (st (aj Y) Y (st (ab Y) Y (st (ab Y) Y (st (ab Y) Y ?_)))))))))
     have hst:=Bc b16 bs r cap e.last (xor e.odd (decide (i≠e.piv.length))) (one (slV svp e.piv.length capp)) w (swp i e.piv.length e.R) e.piv.length c full (lW n e.piv.length) hp Z hw hr hO.nz hbb hO.last (ul hO.R)
     unfold bD at hst
     refine Av (dG.refl _) (.keep DU (.keep (be (ψ:=fun q=>slT (.agg 2) w fun j=>aL (swp i e.piv.length e.R q j)) (fun q _=>Ay (fun f:Nat→Int=>slT (.agg 2) w fun j=>aL (f j)) q)) (SubM.refl _))) ?_
     refine gn (Min := [_,_]) (Kp := [_]) hst Y ⟨VT.le_refl _,VT.le_refl _,VT.le_refl _,VT.le_refl _,trivial⟩ (List.Perm.refl _) Y Y (fun _ => ?_)
     refine Run.nil (aa (ae (ai (st (ab Y) Y (st (ab Y) Y (st (bH Y) Y (st (aj Y) Y (st (ak 0 Y Y Y) Y (st (ab Y) Y ?_)))))))))
     refine fS Y Y Y Y ?_
     (refine cS 2 Y Y Y (leN Y) ?_ ?_ Y (ltN Y) (fun sv85 cap85 => ?_);omega;omega)
     refine st (bH Y) Y (st (aj Y) Y (aA 0 Y Y Y Y Y (leN Y) Y (Run.nil (aa (aX (c6 Y (av (av (c6 Y ?_)))))))))
     refine aF (aa (ai (st (ab Y) Y (st (bI _ 1 Y Y Z) Y (st (ah Y) Y (Run.nil (ni (List.perm_append_comm (l₁ := [_,_]) (l₂ := [_])) ?_)))))))
     refine aQ ((c+1,⟨gb e.piv.length c e.last full (swp i e.piv.length e.R),swp i e.piv.length e.R e.piv.length c,xor e.odd (decide (i≠e.piv.length)),e.piv ++ [c]⟩,sv85,cap85)) (⟨hc,(nZ (full:=full) hp hi1 hi hi3 h0).symm.trans (congrArg (elR r full c) hE),hO.round full hp (by rw [gM]; exact h0)⟩) Z DR (.keep (zf) (.keep (wT) (.keep DU (.nil))))
   ·have hi4:i=r:=by omega
    refine ae (ae (ai (st (ab Y) Y (st (ab Y) Y (st (bH Y) Y (st (aj Y) Y (st (aj Y) Y (st (ak 1 Y Y Y) Y (st (cx Y) Y ?_)))))))))
    refine st (sF Z (a7 Y Y)) Y (Run.nil (aa (aB Y (aX (av (av (aF (aD (aa ?_)))))))))
    refine ai (st (ab Y) Y (st (bI _ 1 Y Y Z) Y (st (ah Y) Y (Run.nil ?_))))
    refine aQ ((c+1,e,svp,capp)) (⟨hc,(nY (full:=full) (fun q h1 h2=>hi3 q h1 Z)).symm.trans (congrArg (elR r full c) hE),hO⟩) Z DR (.keep DU (.keep DU (.keep DU (.nil))))
  ·have hen:e=elN r full F cols:=hE.trans (yj (by rw [← hE]; exact hp) cols hcc).symm
   have hpr2:e.piv.length=r:=by omega
   rw [← hen]
   refine ae (ae (a6 17 aZ X S (st (ab Y) Y (st (ab Y) Y (st (sT Z (a7 Y Y)) Y (st (ab Y) Y (sg1 Y Y (ab Y) Y (sg1 Y Y (bH Y) Y (sg1 Y Y (aj Y) Y ?_)))))))))
   refine sg1 Y Y (ak 1 Y Y Y) Y (sg1 Y Y (cx Y) Y (sg1 Y Y (ab Y) Y (sg1 Y Y (bH Y) Y (sg1 Y Y (aj Y) Y (sg1 Y Y (aj Y) Y (sg1 Y Y (ak 1 Y Y Y) Y (sg1 Y Y (cx Y) Y (sg1 Y Y (sF Z (a7 Y Y)) Y (st (bj Y Y) Y ?_)))))))))
   refine Run.nil (Run.nil (aa (aB Y (aX (av (av (aF (aa (ae ?_)))))))))
   refine ai (st (ab Y) Y (st (ah Y) Y (Run.nil (aa (aE (ee (ni (List.perm_append_comm (l₁ := [_]) (l₂ := [_,_])) ?_)))))))
   exact kt (b16,sv,cap,svp,capp) Tryz.results79 (.tmp Y H) (SubM.refl _)
 ·have hcl2:c=cols:=by omega
  subst hcl2
  rw [← hE]
  refine ae (ae (a6 17 aZ X S (st (ab Y) Y (st (ab Y) Y (st (sF Z (a7 Y Y)) Y (st (ab Y) Y (sg0 Y Y Y Y (sg0 Y Y Y Y (sg0 Y Y Y Y ?_)))))))))
  refine sg0 Y Y Y Y (sg0 Y Y Y Y (sg0 Y Y Y Y (sg0 Y Y Y Y (sg0 Y Y Y Y (sg0 Y Y Y Y (sg0 Y Y Y Y (sg0 Y Y Y Y (sg0 Y Y Y Y (st (bF Y Y) Y ?_)))))))))
  refine Run.nil (Run.nil (aa (aB Y (aX (av (av (aF (aa (ae ?_)))))))))
  refine ai (st (ab Y) Y (st (ah Y) Y (Run.nil (aa (aE (ee (ni (List.perm_append_comm (l₁ := [_]) (l₂ := [_,_])) ?_)))))))
  exact kt (b16,sv,cap,svp,capp) Tryz.results79 (.tmp Y H) (SubM.refl _)
theorem zg {r w:Nat} {e:ElS} {b:Nat} {sv svp:Option Nat} {cap capp:Nat} : Ent [eE b sv r cap e.last e.odd (one (slV svp e.piv.length capp)),aI sv 32 .one cap r (fun i=>bD w (e.R i)),aI svp 3 .one capp e.piv.length (rf e.piv)] (one (.pointer (some ⟨b,0,none⟩))) (vD r w e) :=
 Ent.then (Ent.ptrW List.mem_cons_self (qr.cons List.mem_cons_self (Ent.sl (List.mem_cons_of_mem _ List.mem_cons_self)) (qr.cons (List.mem_cons_of_mem _ List.mem_cons_self) (Ent.refl _) (qr.cons (List.mem_cons_of_mem _ (List.mem_cons_of_mem _ List.mem_cons_self)) (Ent.refl _)
  (qr.cons (List.mem_cons_of_mem _ (List.mem_cons_of_mem _ (List.mem_cons_of_mem _ List.mem_cons_self))) (Ent.sl (List.mem_cons_of_mem _ (List.mem_cons_of_mem _ List.mem_cons_self))) qr.nil))))) (ze r w e)
theorem Bd (r w cols:Nat) (F:Nat→Nat→Int) (full:Bool) (n:Nat) (hr:r≤1048576) (hw:w≤1048576) (hcw:cols≤w) (hn:1≤n) (hb:(n+1)*2^r≤1099511627776) (hF : ∀ i j,lz n (F i j)) :
  Ok Tryz.prog 79 [slT .one r (fun i=>bD w (F i)),one (.int .i64 (cols:Nat)),one (.bool full)] (vD r w (elN r full F cols)) :=
 (CM r w cols F full n hr hw hcw hn hb hF).ok fun s=>zg
end Tor
end
section
namespace Tor
open Go Go.RowKit Go.Proofs
theorem kM:bm 0:=Nat.zero_le _
def sU (n r:Nat):Prop:=1≤n∧(n+1)*2^r≤1099511627700
theorem sU.b {n r:Nat} (h:sU n r):(n+1)*2^r≤1099511627776:=Nat.le_trans h.2 S
theorem sU.lz {n r:Nat} (h:sU n r) {e:ElS} (he:ElOk n r e) {x:Int} (hx:lz (lW n e.piv.length) x):lz 1099511627700 x:=hx.mono (by
 have h1:=vC (n:=n) he.p
 have h2:=lX n r
 have h3:=h.2
 omega)
theorem CN {n r:Nat} {F:Nat→Nat→Int} (he:sU n r) (hF : ∀ i j,lz n (F i j)):lz 1099511627700 (Lin.bY r F):=by
 rw [← Lin.vy]
 have hok:=um (r:=r) false he.1 hF r
 have h:=he.lz hok hok.last
 unfold Lin.yV
 split
 ·exact vB _
 ·split
  ·exact zc h
  ·exact h
attribute [local irreducible] Tor.J Tor.PJ Tor.aK Tor.one Tor.slT Tor.bO Tor.bC Tor.bv Tor.exT Tor.cd Tor.eP Tor.aR Tor.aI Tor.slV Tor.VT.le Tor.Ret Tor.bJ Tor.xO
attribute [local irreducible] aL bD
set_option maxHeartbeats 4000000 in
theorem wU (r c:Nat) (F:Nat→Nat→Int):Ok Tryz.prog 78 [bR r c F] (one (.bool (decide (r=c)))):=by
 have hv:=fo r c F
 unfold bR at *
 refine Ok.enter Tryz.func78 Y Tryz.ntmps78 Y (fun w O => ?_)
 by_cases h:r=c
 ·rw [decide_eq_true h]
  refine ae (ai ?_)
  refine aS Y Y (ltN Y) (fun b1 => ?_)
  refine st (ah Y) Y (Run.nil (aa (ae (ai (st (aO 0 Y Y) Y ?_)))))
  refine st (am (hv) Y ⟨VT.le_refl _,trivial⟩) Y ?_
  refine st (ab Y) Y (sg1 Y Y (aj Y) Y (sg1 Y Y (ak 0 Y Y Y) Y (sg1 Y Y (aj Y) Y (sg1 Y Y (ak 0 Y Y Y) Y (sg1 Y Y (sT Z (ci Y Y)) Y (st (bj Y Y) Y (st (ah Y) Y (Run.nil (aa ?_)))))))))
  refine aE ?_
  refine aT Tryz.results78 (.tmp Y H)
 ·rw [decide_eq_false h]
  refine ae (ai ?_)
  refine aS Y Y (ltN Y) (fun b1 => ?_)
  refine st (ah Y) Y (Run.nil (aa (ae (ai (st (aO 0 Y Y) Y ?_)))))
  refine st (am (hv) Y ⟨VT.le_refl _,trivial⟩) Y ?_
  refine st (ab Y) Y (sg1 Y Y (aj Y) Y (sg1 Y Y (ak 0 Y Y Y) Y (sg1 Y Y (aj Y) Y (sg1 Y Y (ak 0 Y Y Y) Y (sg1 Y Y (sF Z (ci Y Y)) Y (st (bj Y Y) Y (st (ah Y) Y (Run.nil (aa ?_)))))))))
  refine aE ?_
  refine aT Tryz.results78 (.tmp Y H)
set_option maxHeartbeats 4000000 in
theorem uo (r:Nat) (F:Nat→Nat→Int) (n:Nat) (hr:r≤1048576) (he:sU n r) (hF : ∀ i j,lz n (F i j)):Ok Tryz.prog 50 [bR r r F] (bv [aL (Lin.bY r F),one (.int .i64 0)]):=by
 have hs:=wU r r F
 rw [decide_eq_true Y] at hs
 have hru:=Bd r r r F false n hr hr (Nat.le_refl _) he.1 he.b hF
 rw [← Lin.vy]
 obtain ⟨A,V,hEL⟩:=Lin.rc r r false F r (Nat.le_refl _)
 have hpr:=hEL.gj.pr
 unfold Lin.yV
 have hok:=um (r:=r) false he.1 hF r
 generalize elN r false F r=e at *
 have hlast:bm e.last:=(he.lz hok hok.last).small S
 have hneg:=va e.last hlast
 have hadd:=j6 e.last 0 hlast kM
 rw [Int.add_zero] at hadd
 unfold bR vD at *
 refine Ok.enter Tryz.func50 Y Tryz.ntmps50 Y (fun w O => ?_)
 by_cases h:e.piv.length<r
 ·rw [if_pos h]
  refine ae (ai ?_)
  refine aS Y Y (ltN Y) (fun b1 => ?_)
  refine aG (T:=37) Y (ltN Y) (fun b2 => ?_)
  refine st (ah Y) Y (Run.nil (aa (ae (ae (ai (st (aO 1 Y Y) Y ?_))))))
  refine st (am (hs) Y ⟨VT.le_refl _,trivial⟩) Y ?_
  refine st (cK Y) Y (Run.nil (aa (aB Y (az (aa (ae (ai (st (aj Y) Y (st (ak 1 Y Y Y) Y ?_)))))))))
  refine st (aj Y) Y (st (ak 1 Y Y Y) Y ?_)
  refine st (am (hru) Y ⟨VT.le_refl _,VT.le_refl _,VT.le_refl _,trivial⟩) Y ?_
  refine st (ah Y) Y (Run.nil (aa (ae (au (ae (a6 9 aZ X S (st (ab Y) Y (st (eo Y) Y (st (ep Y Y) Y ?_)))))))))
  refine st (aM Y) Y (st (aU Y) Y (st (aj Y) Y (st (ak 1 Y Y Y) Y (st (sT Z (a7 Y Y)) Y (st (ah Y) Y (Run.nil (Run.nil (aa (aH Y ?_)))))))))
  refine ae (ai (stB Y Y Y (BuildK.nil (aA 0 Y Y Y Y Y (leN Y) Y (st (ah Y) Y (Run.nil (aa (aE (bN ?_)))))))))
  refine aW ?_
  refine cV Tryz.results50 (.cellB 0 Y Y Y (kb)) (.tmp Y H)
 ·rw [if_neg h]
  cases ho:e.odd
  ·simp only [ho] at *
   refine ae (ai ?_)
   refine aS Y Y (ltN Y) (fun b1 => ?_)
   refine aG (T:=37) Y (ltN Y) (fun b2 => ?_)
   refine st (ah Y) Y (Run.nil (aa (ae (ae (ai (st (aO 1 Y Y) Y ?_))))))
   refine st (am (hs) Y ⟨VT.le_refl _,trivial⟩) Y ?_
   refine st (cK Y) Y (Run.nil (aa (aB Y (az (aa (ae (ai (st (aj Y) Y (st (ak 1 Y Y Y) Y ?_)))))))))
   refine st (aj Y) Y (st (ak 1 Y Y Y) Y ?_)
   refine st (am (hru) Y ⟨VT.le_refl _,VT.le_refl _,VT.le_refl _,trivial⟩) Y ?_
   refine st (ah Y) Y (Run.nil (aa (ae (au (ae (a6 9 aZ X S (st (ab Y) Y (st (eo Y) Y (st (ep Y Y) Y ?_)))))))))
   refine st (aM Y) Y (st (aU Y) Y (st (aj Y) Y (st (ak 1 Y Y Y) Y (st (sF Z (a7 Y Y)) Y (st (ah Y) Y (Run.nil (Run.nil (aa (aB Y ?_)))))))))
   refine ae (ai (st (ab Y) Y (st (eo Y) Y (st (ep Y Y) Y (st (ep Y Y) Y (st (aM Y) Y (st (ah Y) Y (Run.nil (aa ?_)))))))))
   refine aB Y (az (aD (aa (ae (ai (st (ab Y) Y (st (eo Y) Y (st (ep Y Y) Y (st (ep Y Y) Y ?_)))))))))
   refine st (aM Y) Y (stB Y Y Y (BuildK.nil ?_))
   refine st (am (hadd) Y ⟨VT.le_refl _,(kb),trivial⟩) Y ?_
   refine aA 0 Y Y Y Y Y (leN Y) Y (st (ah Y) Y (Run.nil (aa (aE ?_))))
   refine cV Tryz.results50 (.cellB 0 Y Y Y H) (.tmp Y H)
  ·simp only [ho] at *
   refine ae (ai ?_)
   refine aS Y Y (ltN Y) (fun b1 => ?_)
   refine aG (T:=37) Y (ltN Y) (fun b2 => ?_)
   refine st (ah Y) Y (Run.nil (aa (ae (ae (ai (st (aO 1 Y Y) Y ?_))))))
   refine st (am (hs) Y ⟨VT.le_refl _,trivial⟩) Y ?_
   refine st (cK Y) Y (Run.nil (aa (aB Y (az (aa (ae (ai (st (aj Y) Y (st (ak 1 Y Y Y) Y ?_)))))))))
   refine st (aj Y) Y (st (ak 1 Y Y Y) Y ?_)
   refine st (am (hru) Y ⟨VT.le_refl _,VT.le_refl _,VT.le_refl _,trivial⟩) Y ?_
   refine st (ah Y) Y (Run.nil (aa (ae (au (ae (a6 9 aZ X S (st (ab Y) Y (st (eo Y) Y (st (ep Y Y) Y ?_)))))))))
   refine st (aM Y) Y (st (aU Y) Y (st (aj Y) Y (st (ak 1 Y Y Y) Y (st (sF Z (a7 Y Y)) Y (st (ah Y) Y (Run.nil (Run.nil (aa (aB Y ?_)))))))))
   refine ae (ai (st (ab Y) Y (st (eo Y) Y (st (ep Y Y) Y (st (ep Y Y) Y (st (aM Y) Y (st (ah Y) Y (Run.nil (aa ?_)))))))))
   refine aH Y (ae (ai (st (ab Y) Y (st (eo Y) Y (st (ep Y Y) Y (st (ep Y Y) Y (st (aM Y) Y ?_)))))))
   refine st (am (hneg) Y ⟨VT.le_refl _,trivial⟩) Y ?_
   refine aA 0 Y Y Y Y Y (leN Y) Y (st (ah Y) Y (Run.nil (aa (aE (bN (aW ?_))))))
   refine cV Tryz.results50 (.cellB 0 Y Y Y H) (.tmp Y H)
end Tor
end
section
namespace Tor
end Tor
namespace Tor.Lin
theorem zh (n m:Nat) (f:Nat→Rat):sm (n+m) f=sm n f+sm m (fun k=>f (n+k)):=by
 induction m with
 | zero => show sm n f = sm n f + 0; grind
 | succ m ih => rw [← Nat.add_assoc, sm, sm, ih]; grind
variable {r c:Nat} {F:Nat→Nat→Int} {b:Nat→Int} {e:ElS} {A:Nat→Nat→Int} {V:Nat→Nat→Rat}
end Tor.Lin
end
section
namespace Tor
open Go Go.RowKit Go.Proofs
def cof (n:Nat) (F:Nat→Nat→Int) (i j:Nat):Int:=Lin.Ax (i+j)*Lin.bY (n - 1) (fun a b=>F (Lin.skip i a) (Lin.skip j b))
attribute [local irreducible] Tor.J Tor.PJ Tor.aK Tor.one Tor.slT Tor.bO Tor.bC Tor.bv Tor.exT Tor.cd Tor.eP Tor.aR Tor.aI Tor.slV Tor.VT.le Tor.Ret Tor.bJ Tor.xO
attribute [local irreducible] aL bD
end Tor
end
section
namespace Tor
open Go Go.RowKit Go.Proofs
def fp (n:Nat) (F:Nat→Nat→Int):Nat→Nat→Int:=fun i k=>if k<n then F i k else (if i=k - n then 1 else 0)
def nf (n:Nat) (F:Nat→Nat→Int) (e:ElS):Nat→Nat→Int:=fun i j=>if e.piv.length<n - 1 then 0 else if e.piv.length<n then cof n F j i else if e.odd then -(e.R i (n+j)) else e.R i (n+j)
attribute [local irreducible] Tor.J Tor.PJ Tor.aK Tor.one Tor.slT Tor.bO Tor.bC Tor.bv Tor.exT Tor.cd Tor.eP Tor.aR Tor.aI Tor.slV Tor.VT.le Tor.Ret Tor.bJ Tor.xO
attribute [local irreducible] aL bD Tor.dY
end Tor
end
section
namespace Tor
open Go Go.RowKit Go.Proofs
def oB (r c:Nat) (l:List Int):VT:=bC 3 [(0, .one,one (.int .u8 r)),(1, .one,one (.int .u8 c)),(2, .one,fI .i8 l)]
theorem Du (n:Nat):(n:Int).tmod 5=((n % 5:Nat):Int):=by
 rw [Int.tmod_eq_emod_of_nonneg Z]; omega
attribute [local irreducible] Tor.J Tor.PJ Tor.aK Tor.one Tor.slT Tor.bO Tor.bC Tor.bv Tor.exT Tor.cd Tor.eP Tor.aR Tor.aI Tor.slV Tor.VT.le Tor.Ret Tor.bJ
attribute [local irreducible] aL Tor.dY
end Tor
end
section
namespace Tor
open Go Go.RowKit Go.Proofs
theorem wV {sv:Option Nat} {T:TypeId} {cap i:Nat} {h:Nat→Int} {x:Int} (hx:x=h i):Own.le (aI sv T (.agg 2) cap (i+1) (fun q=>if q<i then aL (h q) else aL x)) (aI sv T (.agg 2) cap (i+1) (fun q=>aL (h q))):=be fun q hq=>by
 by_cases c:q<i
 ·rw [if_pos c]
 ·rw [if_neg c,hx,show q=i by omega]
attribute [local irreducible] Tor.J Tor.PJ Tor.aK Tor.one Tor.slT Tor.bO Tor.bC Tor.bv Tor.exT Tor.cd Tor.eP Tor.aR Tor.aI Tor.slV Tor.VT.le Tor.Ret Tor.bJ
attribute [local irreducible] aL Tor.dY
end Tor
end
section
namespace Tor.Lin
theorem mz (x:Rat):0≤x*x:=by
 rcases Rat.le_total (a:=0) (b:=x) with h | h
 ·exact Rat.mul_nonneg h h
 ·have:=Rat.mul_nonneg (a := -x) (b := -x) (by grind) (by grind)
  grind
theorem zi {a b c d:Rat} (h:0≤a) (h1:a≤b) (h2:0≤c) (h3:c≤d):a*c≤b*d:=by
 have e1:=Rat.mul_le_mul_of_nonneg_left (c:=c) h1 h2
 have e2:=Rat.mul_le_mul_of_nonneg_left (c:=b) h3 (Rat.le_trans h h1)
 grind
theorem mA {n:Nat} {f:Nat→Rat} (h : ∀ i,i<n→0≤f i):0≤sm n f:=by
 induction n with
 | zero => exact Rat.le_refl
 | succ n ih =>
  have h1:=ih (fun i hi=>h i Z)
  have h2:=h n Z
  rw [sm]; grind
theorem sV {n:Nat} {f:Nat→Rat} (h : ∀ i,i<n→0≤f i) (h0:sm n f=0) : ∀ i,i<n→f i=0:=by
 induction n with
 | zero => intro i hi; omega
 | succ n ih =>
  have h1:=mA (fun i hi=>h i (show i<n+1 by omega)) (n:=n)
  have h2:=h n Z
  rw [sm] at h0
  intro i hi
  by_cases e:i=n
  ·subst e;grind
  ·exact ih (fun i hi=>h i Z) (by grind) i Z
theorem wW {n m:Nat} {f:Nat→Rat} (h:m≤n) (h0 : ∀ j,m≤j→j<n→f j=0):sm n f=sm m f:=by
  induction n with
  | zero => have : m = 0 := by omega
            rw [this]
  | succ n ih =>
    by_cases e:m=n+1
    · rw [e]
    · rw [sm,ih Z (fun j h1 h2=>h0 j h1 Z),h0 n Z Z,Rat.add_zero]
def dot (m:Nat) (u v:Nat→Rat):Rat:=sm m (fun k=>u k*v k)
theorem jN (m:Nat) (u v:Nat→Rat):dot m u v=dot m v u:=bg fun k _=>Rat.mul_comm _ _
theorem sW (m:Nat) (u:Nat→Rat):0≤dot m u u:=mA fun k _=>mz _
theorem zj {m:Nat} {u:Nat→Rat} (h:dot m u u=0) : ∀ k,k<m→u k=0:=fun k hk=>by
 have:=sV (fun i _=>mz (u i)) h k hk
 grind
def gsT (m:Nat) (A:Nat→Nat→Rat):Nat→Nat→Nat→Rat
 | 0 => fun _ _ => 0
 | i + 1 => fun j => if j = i then (fun k => A i k - sm i (fun t => dot m (A i) (gsT m A i t) / dot m (gsT m A i t) (gsT m A i t) * gsT m A i t k)) else gsT m A i j
def gsB (m:Nat) (A:Nat→Nat→Rat) (i:Nat):Nat→Rat:=gsT m A (i+1) i
def gsM (m:Nat) (A:Nat→Nat→Rat) (i t:Nat):Rat:=dot m (A i) (gsB m A t) / dot m (gsB m A t) (gsB m A t)
theorem zk {m:Nat} {A:Nat→Nat→Rat} : ∀ i j,j<i→gsT m A i j=gsB m A j
 | 0, j, h => absurd h (Nat.not_lt_zero _)
 | i + 1, j, h => by
  by_cases e:j=i
  ·rw [e]; rfl
  ·show (if j=i then _ else gsT m A i j)=_
   rw [if_neg e]; exact zk i j Z
theorem rg (m:Nat) (A:Nat→Nat→Rat) (i k:Nat):gsB m A i k=A i k - sm i (fun t=>gsM m A i t*gsB m A t k):=by
 show (if i=i then (fun k=>A i k - sm i (fun t=>dot m (A i) (gsT m A i t) / dot m (gsT m A i t) (gsT m A i t)*gsT m A i t k)) else gsT m A i i) k=_
 rw [if_pos Y]
 show A i k - _=_
 congr 1
 exact bg fun t ht=>by rw [zk i t ht]; rfl
theorem oC {m n:Nat} {u v w:Nat→Rat} {f:Nat→Rat} {b:Nat→Nat→Rat} (h : ∀ k,k<m→w k=v k - sm n (fun t=>f t*b t k)):dot m u w=dot m u v - sm n (fun t=>f t*dot m u (b t)):=by
 unfold dot
 rw [bg (g:=fun k=>u k*v k - sm n (fun t=>f t*(u k*b t k))) (fun k hk=>by
  rw [h k hk]
  have:sm n (fun t=>f t*(u k*b t k))=sm n (fun t=>f t*b t k)*u k:=by
   rw [← io]; exact bg fun t _=>by grind
  rw [this]; grind),mn,qO]
 congr 1
 exact bg fun t _=>by
  rw [Rat.mul_comm, ← io]; exact bg fun k _=>by grind
theorem vE (m:Nat) (A:Nat→Nat→Rat) (i t:Nat):gsM m A i t*dot m (gsB m A t) (gsB m A t)=dot m (A i) (gsB m A t):=by
 by_cases h:dot m (gsB m A t) (gsB m A t)=0
 ·have h0:=zj h
  have e:dot m (A i) (gsB m A t)=0:=ip fun k hk=>by rw [h0 k hk]; exact Rat.mul_zero _
  rw [h,e]; exact Rat.mul_zero _
 ·unfold gsM;exact Rat.div_mul_cancel h
theorem vF (m:Nat) (A:Nat→Nat→Rat) : ∀ i j,j<i→dot m (gsB m A i) (gsB m A j)=0:=by
 intro i
 induction i using Nat.strongRecOn with
 | _ i ih =>
  intro j hj
  rw [jN,oC (v:=A i) (f:=fun t=>gsM m A i t) (b:=gsB m A) (n:=i) (fun k _=>rg m A i k)]
  rw [gK hj (fun t ht hne=>by
   rcases Nat.lt_trichotomy t j with h | h | h
   ·rw [ih j hj t h]; exact Rat.mul_zero _
   ·exact absurd h hne
   ·rw [jN,ih t ht j h]; exact Rat.mul_zero _),vE,jN]
  grind
theorem CO (m:Nat) (A:Nat→Nat→Rat) (i k:Nat):A i k=gsB m A i k+sm i (fun t=>gsM m A i t*gsB m A t k):=by
 rw [rg]; grind
theorem Be (m:Nat) (A:Nat→Nat→Rat) (i:Nat):dot m (A i) (A i)=dot m (gsB m A i) (gsB m A i)+sm i (fun t=>gsM m A i t*gsM m A i t*dot m (gsB m A t) (gsB m A t)):=by
 have e1:=oC (m:=m) (u:=gsB m A i) (v:=A i) (w:=gsB m A i) (n:=i) (f:=fun t=>gsM m A i t) (b:=gsB m A) (fun k _=>rg m A i k)
 rw [ip (n:=i) (fun t ht=>by rw [vF m A i t ht]; exact Rat.mul_zero _)] at e1
 have e2:=oC (m:=m) (u:=A i) (v:=A i) (w:=gsB m A i) (n:=i) (f:=fun t=>gsM m A i t) (b:=gsB m A) (fun k _=>rg m A i k)
 have e3:dot m (gsB m A i) (A i)=dot m (A i) (gsB m A i):=jN _ _ _
 have e4:sm i (fun t=>gsM m A i t*dot m (A i) (gsB m A t))=sm i (fun t=>gsM m A i t*gsM m A i t*dot m (gsB m A t) (gsB m A t)):=bg fun t _=>by rw [← vE]; grind
 rw [e4] at e2
 grind
theorem Dv (m:Nat) (A:Nat→Nat→Rat) (i:Nat):dot m (gsB m A i) (gsB m A i)≤dot m (A i) (A i):=by
 have h:=Be m A i
 have h2:0≤sm i (fun t=>gsM m A i t*gsM m A i t*dot m (gsB m A t) (gsB m A t)):=mA fun t _=>Rat.mul_nonneg (mz _) (sW _ _)
 grind
def pr:Nat→(Nat→Rat)→Rat
 | 0, _ => 1
 | n + 1, f => pr n f * f n
theorem oD {n:Nat} {f g:Nat→Rat} (h : ∀ i,i<n→f i=g i):pr n f=pr n g:=by
 induction n with
 | zero => rfl
 | succ n ih => rw [pr, pr, ih (fun i hi => h i Z), h n Z]
theorem zm (n:Nat) (f:Nat→Rat):pr (n+1) f=f 0*pr n (fun i=>f (i+1)):=by
 induction n with
 | zero => show 1 * f 0 = f 0 * 1; grind
 | succ n ih => rw [pr, ih, pr]; grind
theorem wX {n:Nat} {f:Nat→Rat} (h : ∀ i,i<n→0≤f i):0≤pr n f:=by
 induction n with
 | zero => show (0 : Rat) ≤ 1; decide
 | succ n ih => exact Rat.mul_nonneg (ih fun i hi => h i Z) (h n Z)
theorem Bf {n:Nat} {f g:Nat→Rat} (h0 : ∀ i,i<n→0≤f i) (h : ∀ i,i<n→f i≤g i):pr n f≤pr n g:=by
 induction n with
 | zero => exact Rat.le_refl
 | succ n ih => exact zi (wX fun i hi => h0 i Z) (ih (fun i hi => h0 i Z) fun i hi => h i Z) (h0 n Z) (h n Z)
theorem rh : ∀ {n:Nat} {F:Nat→Nat→Rat},(∀ i j,i<j→j<n→F i j=0)→det n F=pr n (fun i=>F i i)
 | 0, _, _ => rfl
 | n + 1, F, h => by
  rw [det,gK (Nat.succ_pos n) (fun j hj hne=>by rw [h 0 j Z hj]; grind),rh (n:=n) (fun i j hij hj=>h _ _ (by unfold skip;split <;> omega) (by unfold skip;split <;> omega)),zm]
  have:sgn 0=1:=rfl
  rw [this,Rat.one_mul]
  congr 1
theorem CP (n:Nat) (A:Nat→Nat→Rat):det n A*det n A=pr n (fun i=>dot n (gsB n A i) (gsB n A i)):=by
 have e1:det n A=det n (nW n (fun i t=>if t<i then gsM n A i t else if t=i then 1 else 0) (gsB n A)):=bG fun i j hi hj=>by
  show A i j=sm n (fun t=>(if t<i then gsM n A i t else if t=i then 1 else 0)*gsB n A t j)
  rw [wW (show i+1≤n by omega) (fun t h1 h2=>by rw [if_neg Z,if_neg Z]; exact Rat.zero_mul _),sm,if_neg (Nat.lt_irrefl _),if_pos Y,CO n A i j]
  rw [bg (f:=fun t=>(if t<i then gsM n A i t else if t=i then 1 else 0)*gsB n A t j) (g:=fun t=>gsM n A i t*gsB n A t j) (fun t ht=>by rw [if_pos ht])]
  grind
 have e2:det n (fun i t=>if t<i then gsM n A i t else if t=i then (1:Rat) else 0)=1:=by
  rw [rh (fun i j hij hj=>by rw [if_neg Z,if_neg Z])]
  rw [oD (g:=fun _=>1) (fun i _=>by rw [if_neg (Nat.lt_irrefl _),if_pos Y])]
  clear e1
  induction n with
  | zero => rfl
  | succ n ih => rw [pr, ih, Rat.one_mul]
 rw [qN,e2,Rat.one_mul] at e1
 rw [e1]
 have e3:det n (gsB n A)*det n (gsB n A)=det n (nW n (gsB n A) (fun i j=>gsB n A j i)):=by
  rw [qN]
  congr 1
  exact (tR n fL (gsB n A)).symm
 rw [e3,rh (fun i j hij hj=>by
  show sm n (fun k=>gsB n A i k*gsB n A j k)=0
  have:=vF n A j i hij
  rw [jN] at this;exact this)]
 exact oD fun i _=>rfl
theorem zn (n:Nat) (A:Nat→Nat→Rat):det n A*det n A≤pr n (fun i=>dot n (A i) (A i)):=by
 rw [CP]
 exact Bf (fun i _=>sW _ _) (fun i _=>Dv _ _ _)
end Tor.Lin
end
section
namespace Tor
def iG (j:Nat) (g:Nat→Int):Nat→Int:=fun q=>if q=j then g (j+1) else if q=j+1 then g j else g q
def pg:Nat→(Nat→Int)→Nat→Int
 | 0, g => g
 | j + 1, g => if g j < g (j + 1) then pg j (iG j g) else g
def dF:Nat→(Nat→Int)→Nat→Int
 | 0, g => g
 | i + 1, g => pg i (dF i g)
theorem mU {m:Nat} : ∀ {j:Nat} {g:Nat→Int},j≤m→(∀ a b,a<b→b≤m→a≠j→b≠j→g b≤g a)→(∀ b,j<b→b≤m→g b≤g j) → ∀ a b,a<b→b≤m→pg j g b≤pg j g a
 | 0, g, hj, h1, h2 => fun a b hab hb => by
  show g b≤g a
  by_cases e:a=0
  ·rw [e]; exact h2 b Z hb
  ·exact h1 a b hab hb e Z
 | j + 1, g, hj, h1, h2 => by
  show ∀ a b,a<b→b≤m→(if g j<g (j+1) then pg j (iG j g) else g) b≤(if g j<g (j+1) then pg j (iG j g) else g) a
  by_cases c:g j<g (j+1)
  ·rw [if_pos c]
   refine mU Z (fun a b hab hb ha hb' => ?_) (fun b h3 hb => ?_)
   ·unfold iG
    rw [if_neg ha,if_neg hb']
    by_cases e1:a=j+1
    ·rw [if_pos e1,if_neg Z]; exact h1 j b Z hb Z Z
    ·rw [if_neg e1]
     by_cases e2:b=j+1
     ·rw [if_pos e2]; exact h1 a j Z Z e1 Z
     ·rw [if_neg e2]; exact h1 a b hab hb e1 e2
   ·unfold iG
    rw [if_neg (show ¬ b=j by omega),if_pos Y]
    by_cases e2:b=j+1
    ·rw [if_pos e2]; omega
    ·rw [if_neg e2]; exact h2 b Z hb
  ·rw [if_neg c]
   intro a b hab hb
   by_cases e1:a=j+1
   ·rw [e1]; exact h2 b Z hb
   ·by_cases e2:b=j+1
    ·rw [e2]
     by_cases e3:a=j
     ·rw [e3]; omega
     ·have:=h1 a j Z Z e1 Z
      omega
    ·exact h1 a b hab hb e1 e2
theorem lY (g:Nat→Int) : ∀ n, ∀ a b,a<b→b<n→dF n g b≤dF n g a
 | 0, a, b, h1, h2 => absurd h2 (Nat.not_lt_zero _)
 | n + 1, a, b, h1, h2 => mU (m := n) (j := n) (Nat.le_refl n) (fun a b hab hb ha hb' => lY g n a b hab Z) (fun b h3 h4 => absurd h3 Z) a b h1 Z
def lst (n:Nat) (g:Nat→Int):List Int:=(List.range n).map g
theorem fu (n:Nat) (g:Nat→Int):lst (n+1) g=lst n g ++ [g n]:=by unfold lst;rw [List.range_succ,List.map_append]; rfl
theorem wY {n:Nat} {g h:Nat→Int} (e : ∀ i,i<n→g i=h i):lst n g=lst n h:=List.map_congr_left fun i hi=>e i (List.mem_range.1 hi)
theorem p8 {j:Nat} (g:Nat→Int) : ∀ {n:Nat},j+1<n→(lst n (iG j g)).Perm (lst n g)
 | 0, h => absurd h (Nat.not_lt_zero _)
 | n + 1, h => by
  by_cases e:n=j+1
  ·subst e
   rw [fu,fu,fu,fu,wY (g:=iG j g) (h:=g) (fun i hi=>by unfold iG;rw [if_neg Z,if_neg Z])]
   have e1:iG j g j=g (j+1):=by unfold iG;rw [if_pos Y]
   have e2:iG j g (j+1)=g j:=by unfold iG;rw [if_neg Z,if_pos Y]
   rw [e1,e2,List.append_assoc,List.append_assoc]
   exact List.Perm.append_left _ (List.Perm.swap _ _ _)
  ·rw [fu,fu]
   have e1:iG j g n=g n:=by unfold iG;rw [if_neg Z,if_neg Z]
   rw [e1]
   exact (p8 g Z).append_right _
theorem p9 {n:Nat} : ∀ {j:Nat} {g:Nat→Int},j<n→(lst n (pg j g)).Perm (lst n g)
 | 0, g, _ => List.Perm.refl _
 | j + 1, g, h => by
  show (lst n (if g j<g (j+1) then pg j (iG j g) else g)).Perm _
  split
  ·exact (p9 Z).trans (p8 g h)
  ·exact List.Perm.refl _
theorem eW {n:Nat} (g:Nat→Int) : ∀ {i:Nat},i≤n→(lst n (dF i g)).Perm (lst n g)
 | 0, _ => List.Perm.refl _
 | i + 1, h => (p9 Z).trans (eW g Z)
def prZ:Nat→(Nat→Int)→Int
 | 0, _ => 1
 | n + 1, g => prZ n g * g n
def prL (l:List Int):Int:=l.foldr (fun x y=>x*y) 1
theorem Bg (l:List Int) (x:Int):prL (l ++ [x])=prL l*x:=by
 induction l with
 | nil => show x * 1 = 1 * x; rw [Int.mul_one, Int.one_mul]
 | cons y l ih => show y * prL (l ++ [x]) = y * prL l * x; rw [ih, Int.mul_assoc]
theorem nr (n:Nat) (g:Nat→Int):prZ n g=prL (lst n g):=by
 induction n with
 | zero => rfl
 | succ n ih => rw [fu, Bg, ← ih]; rfl
theorem sX {l m:List Int} (h:l.Perm m):prL l=prL m:=by
 induction h with
 | nil => rfl
 | cons x h ih => show x * prL _ = x * prL _; rw [ih]
 | swap x y l => show y * (x * prL l) = x * (y * prL l); rw [← Int.mul_assoc, ← Int.mul_assoc, Int.mul_comm y x]
 | trans h1 h2 ih1 ih2 => exact ih1.trans ih2
theorem sY (n:Nat) (g:Nat→Int):prZ n (dF n g)=prZ n g:=by
 rw [nr,nr]; exact sX (eW g (Nat.le_refl n))
end Tor
end
section
namespace Tor
open Go Go.RowKit Go.Proofs
def eK (c:Nat) (f:Nat→Int):Nat:=(bA c (fun k=>f k*f k)).natAbs
theorem kN (x:Int):0≤x*x:=by
 rw [← Int.natAbs_mul_self (a:=x)]; exact Int.natCast_nonneg _
theorem ri (c:Nat) (f:Nat→Int):0≤bA c (fun k=>f k*f k):=by
 induction c with
 | zero => exact Int.le_refl _
 | succ c ih =>
  show 0≤bA c (fun k=>f k*f k)+f c*f c
  have:=kN (f c)
  omega
theorem vG (c:Nat) (f:Nat→Int):((eK c f:Nat):Int)=bA c (fun k=>f k*f k):=Int.natAbs_of_nonneg (ri c f)
def isq:Nat→Nat
 | 0 => 0
 | a + 1 => if (isq a + 1) * (isq a + 1) ≤ a + 1 then isq a + 1 else isq a
theorem jO : ∀ a,isq a*isq a≤a∧a<(isq a+1)*(isq a+1)
 | 0 => ⟨by decide, by decide⟩
 | a + 1 => by
  obtain ⟨h1,h2⟩:=jO a
  show (if (isq a+1)*(isq a+1)≤a+1 then isq a+1 else isq a)*(if (isq a+1)*(isq a+1)≤a+1 then isq a+1 else isq a)≤a+1∧a+1<((if (isq a+1)*(isq a+1)≤a+1 then isq a+1 else isq a)+1)*((if (isq a+1)*(isq a+1)≤a+1 then isq a+1 else isq a)+1)
  split
  ·rename_i h
   have:(isq a+1)*(isq a+1)<(isq a+1+1)*(isq a+1+1):=Nat.mul_lt_mul'' Z Z
   exact ⟨h,by omega⟩
  ·exact ⟨by omega,by omega⟩
def upN (a:Nat):Nat:=if isq a*isq a<a then isq a+1 else isq a
theorem CQ (a:Nat):a≤upN a*upN a:=by
 have:=jO a
 unfold upN;split <;> omega
theorem CR {a:Nat} (h:0<upN a):(upN a - 1)*(upN a - 1)<a:=by
 have h1:=jO a
 unfold upN at *
 split
 ·rename_i h2;rw [Nat.add_sub_cancel]; exact h2
 ·rename_i h2
  rw [if_neg h2] at h
  have:(isq a - 1)*(isq a - 1)<isq a*isq a:=Nat.mul_lt_mul'' Z Z
  omega
theorem CS (a:Nat):isq a≤a:=by
 have h:=(jO a).1
 rcases Nat.eq_zero_or_pos (isq a) with h0 | h0
 ·omega
 ·exact Nat.le_trans (Nat.le_mul_of_pos_right _ h0) h
theorem zq {x:Int} (h:x.natAbs≤2^810):bm x:=cY h (Nat.pow_lt_pow_right (a:=2) (m:=810) (n:=2048) S S)
theorem zr {a:Nat} (h:a<2^800):a≤2^810:=Nat.le_of_lt (Nat.lt_of_lt_of_le h (Nat.pow_le_pow_right (n:=2) (i:=800) (j:=810) S S))
def prN:Nat→(Nat→Nat)→Nat
 | 0, _ => 1
 | n + 1, g => prN n g * g n
theorem lZ (n:Nat) (g:Nat→Nat):((prN n g:Nat):Int)=prZ n (fun i=>(g i:Int)):=by
 induction n with
 | zero => rfl
 | succ n ih => rw [prN, prZ, Int.natCast_mul, ih]
theorem rj {B n:Nat} {g:Nat→Nat} (h : ∀ i,i<n→g i≤B) : ∀ k,k≤n→prN k g≤B^k
 | 0, _ => Nat.le_refl _
 | k + 1, hk => by rw [prN, Nat.pow_succ]; exact Nat.mul_le_mul (rj h k Z) (h k Z)
theorem zt {B n:Nat} {g:Nat→Nat} (hB:1≤B) (hn:B^n<2^800) (h : ∀ i,i<n→g i≤B) {k:Nat} (hk:k≤n):prN k g<2^800 :=
 Nat.lt_of_le_of_lt (Nat.le_trans (rj h k hk) (Nat.pow_le_pow_right hB hk)) hn
theorem DF {B n:Nat} (hB:1≤B) (hn:B^n<2^800) (h:0<n):B<2^800:=by
 have:=Nat.pow_le_pow_right hB (show 1≤n from h)
 rw [Nat.pow_one] at this
 exact Nat.lt_of_le_of_lt this hn
theorem wZ {x:Int} {n:Nat} (h:x=(n:Int)):VT.le (aL x) (aL (n:Int)):=h▸VT.le_refl _
attribute [local irreducible] Tor.J Tor.PJ Tor.aK Tor.one Tor.slT Tor.bO Tor.bC Tor.bv Tor.exT Tor.cd Tor.eP Tor.aR Tor.aI Tor.slV Tor.VT.le Tor.Ret Tor.bJ
attribute [local irreducible] aL
end Tor
end
