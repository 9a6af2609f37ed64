/-
  Theorems that the proofs of laws of this seat rest on.
  No condition.
-/
import Derived.Test.YtfaglimgjfhdfaaGreatZN7
import Derived.Conc.Beside
import Derived.Conc.WgGenN3
set_option maxHeartbeats 20000000
set_option linter.unusedVariables false
set_option linter.unusedSimpArgs false
set_option linter.unusedSectionVars false
section
namespace Tor
open Go Go.RowKit Go.Proofs
variable [Tor.Co.Kc]
abbrev ni (w:Nat) (f:Nat→Nat):VT:=slT .one w (fun j=>one (.int .u64 (f j:Nat)))
abbrev A6 (p n w:Nat) (W:Nat→Nat→Nat):VT:=bE 3 [(0, .one,one (.int .u64 (p:Nat))),(1, .one,one (.int .i64 (w:Nat))),(2, .one,slT .one n (fun i=>ni w (W i)))]
theorem sH {sv:Option Nat} {T:TypeId} {cap c j p k:Nat} {f g:Nat→Nat} : Own.le (aH sv T .one cap c (upd (fun q=>one (.int .u64 ((if q<j then (f q+k*g q % p) % p else f q:Nat)))) j (one (.int .u64 ((f j+k*g j % p) % p:Nat))))) (aH sv T .one cap c (fun q=>one (.int .u64 ((if q<j+1 then (f q+k*g q % p) % p else f q:Nat))))):=bV fun q _=>by
 unfold upd
 by_cases h:q=j
 ·subst h;rw [if_pos Z,if_pos (Nat.lt_succ_self q)]
 ·rw [if_neg h]
  dsimp only
  by_cases h2:q<j
  ·rw [if_pos h2,if_pos X]
  ·rw [if_neg h2,if_neg X]
attribute [local irreducible] J PJ aC one slT bL bE bw exT cj eP aT aH slV VT.le Ret bQ dz ed
theorem sI (p x:Nat) (hx:x<p):Ok Tryz.prog 143 [one (.int .u64 (x:Nat)),bL .one (one (.int .u64 (p:Nat)))] (one (.bool false)):=by
 refine Ok.enter Tryz.func143 Z Tryz.ntmps143 Z (fun w O => ?_)
 refine ae (ai (Cd Z (Cf (aa (ae (ai (Cc Z (Cb (aY Z) (Cb (sF X (eR Z Z)) ?_)))))))))
 refine Cd Z (Cf (aa (aG ?_)))
 refine aV Tryz.results143 (.tmp Z A)
theorem vr (p c:Nat) (f:Nat→Nat) (hf : ∀ j,j<c→f j<p) (hc:c≤1048576):Ok Tryz.prog 153 [ni c f,jB 143 [bL .one (one (.int .u64 (p:Nat)))]] (one (.int .i64 (-1))):=by
 have hC:=fun i (hi:i<c)=>(fE.clo (sI p (f i) (hf i hi)):fE Tryz.prog (jB 143 [bL .one (one (.int .u64 (p:Nat)))]) [one (.int .u64 (f i:Nat))] (one (.bool false)))
 generalize jB 143 [bL .one (one (.int .u64 (p:Nat)))]=cl at *
 refine Ok.enter Tryz.func153 Z Tryz.ntmps153 Z (fun w O => ?_)
 refine ae (ai (Cd Z (Cf (aa (ae (ae (ai (Cc Z (Cb (a9 Z) ?_)))))))))
 refine Cc Z (Cf (aa (aw (cv (Γ' := [(0,_),(1,_),(4,_),(7,_),(8,_)]) BW (SubM.refl _) ?_))))
 refine bO (σ:=Nat) (Γk := [(0,_),(1,_),(7,_)]) BW (fun i => [(8,one (.int .i64 (i:Nat)))]) (fun i M0=>M0) (fun i=>i≤c) (fun i=>c - i) (0) (Nat.zero_le _) BX (.nil) (fun i hi => ?_)
 refine cg (Γ' := [(8,_),(0,_),(1,_),(7,_)]) (M' := []) Z Z ?_
 by_cases hi':i<c
 ·have h1:=hC i hi'
  refine ae (ai (Cb (sT X (bD Z Z)) (Cf (aa (ae (aM Z (ay (aa (ae ?_)))))))))
  refine aw (ae (ai (Cc Z (Cd Z (Cf (aa (ae (ai (Cc Z ?_)))))))))
  refine Cc Z (Cc Z (Cb (aI Z Z X) (Cb (aY Z) ?_)))
  refine Cb (lZ h1 Z Z ⟨A,Cg⟩) ?_
  refine Cf (aa (aD Z (ay (aK (aa (ai (Cb (bU _ 1 Z Z X) (Cc Z (Cf ?_)))))))))
  refine aX (i+1) X X BX (.nil)
 ·refine ae (ai (Cb (sF X (bD Z Z)) (Cf (aa (ae (aD Z (a8 (ax (ax ?_)))))))))
  refine aL (aa (ae (ai (Cd Z (Cf (aa (aG ?_)))))))
  refine aV Tryz.results153 (.tmp Z A)
theorem pB (p c:Nat) (f:Nat→Nat) (hf : ∀ j,j<c→f j<p) (hc:c≤1048576):Ok Tryz.prog 142 [ni c f,jB 143 [bL .one (one (.int .u64 (p:Nat)))]] (one (.bool false)):=by
 have hi:=vr p c f hf hc
 refine Ok.enter Tryz.func142 Z Tryz.ntmps142 Z (fun w O => ?_)
 refine ae (ai (Cd Z (Cf (aa (ae (ai (Cc Z (Cc Z ?_))))))))
 refine Cb (ao (hi) Z ⟨A,A,Cg⟩) ?_
 refine Cb (sF X (eR Z Z)) (Cd Z (Cf (aa (aG ?_))))
 refine aV Tryz.results142 (.tmp Z A)
theorem sJ (p c:Nat) (f:Nat→Nat) (hf : ∀ j,j<c→f j<p) (hc:c≤1048576):Ok Tryz.prog 114 [one (.int .u64 (p:Nat)),ni c f] (one (.bool true)):=by
 have hi:=pB p c f hf hc
 refine Ok.enter Tryz.func114 Z Tryz.ntmps114 Z (fun w O => ?_)
 refine ae (ai ?_)
 refine jH Z Z (ltN Z) (fun b2 => ?_)
 refine Cd Z (Cf (aa (ae (ai (Cc Z (Cb (jN Z) (wb [aT b2 47 1 [(0, .one,one (.int .u64 (p:Nat)))]] (Kp := []) (Kp' := []) (List.Perm.refl _) (EntM.refl []) (uE.set (t:=6) Z (Ent.clo1 (Ent.ptr List.mem_cons_self List.mem_cons_self))) ?_)))))))
 refine Cb (ao (hi) Z ⟨A,A,Cg⟩) ?_
 refine Cb (c8 Z) (Cd Z (Cf (aa (aG ?_))))
 refine aV Tryz.results114 (.tmp Z A)
theorem vt (p n c:Nat) (W:Nat→Nat→Nat) (hp:bg p=true) (hp':p<2147483648) (hW : ∀ i j,i<n→j<c→W i j<p) (hn:n≤1048576) (hc:c≤1048576):Ok Tryz.prog 71 [A6 p n c W] (one (.bool true)):=by
 have h1:=fo p X
 rw [hp] at h1
 refine Ok.enter Tryz.func71 Z Tryz.ntmps71 Z (fun w O => ?_)
 refine ae (ai ?_)
 refine bJ Z Z (ltN Z) (fun b1 => ?_)
 refine Cd Z (Cf (aa (ae (ae (ai (Cb (aj Z) (Cb (am 0 Z Z Z) ?_)))))))
 refine Cb (ao (h1) Z ⟨A,Cg⟩) ?_
 refine Cb (c8 Z) (Cc Z (Ce (aj Z) (Ce (am 0 Z Z Z) (Ce (sF X (bD Z Z)) (Cb (bT Z Z) (Cf (aa (aD Z (ay ?_)))))))))
 refine aa (ae (ae (ai (Cb (aj Z) (Cb (am 0 Z Z Z) (Cb (a9 Z) (Cc Z (Cf (aa ?_)))))))))
 refine aw (cv (Γ' := [(1,_),(2,_),(15,_),(16,_),(17,_)]) BW (SubM.refl _) ?_)
 refine bO (σ:=Nat) (Γk := [(1,_),(15,_),(16,_)]) BW (fun i => [(17,one (.int .i64 (i:Nat)))]) (fun i M0=>M0) (fun i=>i≤n) (fun i=>n - i) (0) (Nat.zero_le _) BX (.keep Ca (.nil)) (fun i hi => ?_)
 refine cg (Γ' := [(17,_),(1,_),(15,_),(16,_)]) (M' := [_]) Z Z ?_
 by_cases hi':i<n
 ·have h2:=sJ p c (W i) (fun j hj=>hW i j hi' hj) hc
  refine ae (ai (Cb (sT X (bD Z Z)) (Cf (aa (ae (aM Z (ay (aa (ae ?_)))))))))
  refine aw (ae (ai (Cb (aI Z Z X) (Cb (aY Z) (Cd Z (Cf (aa (ae (ai ?_)))))))))
  refine Cc Z (Cb (a9 Z) (Cb (aj Z) (Cb (am 0 Z Z Z) (Cb (sF X (ek Z Z)) (Cc Z (Ce (aj Z) (Ce (am 0 Z Z Z) (Ce (ab Z) ?_))))))))
  refine Ce (ao (h2) Z ⟨A,A,Cg⟩) ?_
  refine Ce (c8 Z) (Cb (bT Z Z) (Cf (aa (aD Z (ay (aK (aa (ai (Cb (bU _ 1 Z Z X) ?_)))))))))
  refine Cc Z (Cf ?_)
  refine aX (i+1) X X BX (.keep Ca (.nil))
 ·refine ae (ai (Cb (sF X (bD Z Z)) (Cf (aa (ae (aD Z (a8 (ax (ax ?_)))))))))
  refine aL (aa (ae (ai (Cd Z (Cf (aa (aG ?_)))))))
  refine aV Tryz.results71 (.tmp Z A)
theorem vu (c:Nat) (f:Nat→Nat) (hc0:0<c) (hc:c≤1048576):OkM (σ:=Nat × Nat) Tryz.prog 115 [ni c f] (fun s=>one (slV (some s.1) c s.2)) (fun s => [aH (some s.1) 47 .one s.2 c (fun j=>one (.int .u64 (f j:Nat)))]):=by
 refine OkM.enter Tryz.func115 Z Tryz.ntmps115 Z (fun w O => ?_)
 refine ae (ai (Cd Z (Cf (aa (ae (ae (ai (Cc Z (Cb (tv Z) ?_)))))))))
 refine Cf (aa ?_)
 refine yv (t:=4) Z (fun b => ?_)
 refine tn (t:=4) Z (fun hb => ?_)
 refine bv Z (fun hc => ?_) (fun hc => ?_)
 ·exact absurd (hb hc) X
 ·refine ay (aa (ae (ai (oJ (n:=0) Z Z Z Z Z ?_))))
  refine PartsK.nil (fun bl => ?_)
  refine Cc Z ?_
  (refine dB 0 Z Z Z (leN Z) ?_ ?_ Z (ltN Z) (fun sv7 cap7 => ?_);omega;omega)
  refine Cd Z (Cf (aa (aG ?_)))
  refine xH (i:=0) (F:=sv7=none→0+c=0) Z (fun g h hp he=>lF hp he) (fun hsv => ?_)
  obtain ⟨bo,rfl⟩:=fA hsv X
  exact mz (bo,cap7) Tryz.results115 (.tmp Z (l8 (Nat.zero_add c))) (.keep (i7 (Nat.zero_add c) (fun q hq=>by rw [if_neg (Nat.not_lt_zero q),Nat.sub_zero])) .nil)
theorem xI (p c b1 b2 cap1 cap2 k:Nat) (f g:Nat→Nat) (hp0:0<p) (hp:p<4294967296) (hk:k<p) (hf : ∀ j,j<c→f j<p) (hg : ∀ j,j<c→g j<p) (hc:c≤1048576) :
  OkI Tryz.prog 76 [one (.int .u64 (p:Nat)),one (slV (some b1) c cap1),one (slV (some b2) c cap2),one (.int .u64 (k:Nat))] [aH (some b1) 47 .one cap1 c (fun j=>one (.int .u64 (f j:Nat))),aH (some b2) 47 .one cap2 c (fun j=>one (.int .u64 (g j:Nat)))]
   (fun _:Unit=>bw []) (fun _ => [aH (some b1) 47 .one cap1 c (fun j=>one (.int .u64 ((f j+k*g j % p) % p:Nat))),aH (some b2) 47 .one cap2 c (fun j=>one (.int .u64 (g j:Nat)))]):=by
 refine OkI.enter Tryz.func76 Z Tryz.ntmps76 Z (fun w O => ?_)
 by_cases h0:k=0
 ·subst h0
  refine ae (ae (ai (Cc Z (Cb (sT X (cQ Z Z)) (Cf (aa (aM Z (aG (aJ ?_)))))))))
  exact qk (σ:=Unit) (ψ:=fun _=>bw []) () Tryz.results76 A (.keep (bV fun q hq=>by rw [Nat.zero_mul,Nat.zero_mod,Nat.add_zero,Nat.mod_eq_of_lt (hf q hq)]) (SubM.refl _))
 ·refine ae (ae (ai (Cc Z (Cb (sF X (cQ Z Z)) (Cf (aa (aD Z (ay (aa ?_)))))))))
  refine ae (ai (Cc Z (Cb (iP Z) (Cc Z (Cf (aa (aw (cv (Γ' := [(0,_),(1,_),(3,_),(12,_),(13,_),(14,_)]) BW (SubM.refl _) ?_))))))))
  refine bO (σ:=Nat) (Γk := [(0,_),(1,_),(3,_),(12,_),(13,_)]) BW (fun j => [(14,one (.int .i64 (j:Nat)))]) (fun j M0=>(M0.set 0 (aH (some b1) 47 .one cap1 c (fun q=>one (.int .u64 ((if q<j then (f q+k*g q % p) % p else f q:Nat))))))) (fun j=>j≤c) (fun j=>c - j) (0) (Nat.zero_le _) BX (.keep Ca (.keep Ca (.nil))) (fun j hj => ?_)
  refine cg (Γ' := [(14,_),(0,_),(1,_),(3,_),(12,_),(13,_)]) (M' := [_,_]) Z Z ?_
  by_cases hj:j<c
  ·have h1:=hf j hj
   have h2:=hg j hj
   have h3:k*g j % p<p:=Nat.mod_lt _ hp0
   have hm:=gb p k (g j) hp0 hp X X
   have ha:=zr p (f j) (k*g j % p) hp0 hp X X
   refine ae (ai (Cb (sT X (bD Z Z)) (Cf (aa (ae (aM Z (ay (aa (ae ?_)))))))))
   refine aw (ae (ai (Cc Z (Cb (ar Z Z X) (Cb (bM 1 Z Z X) (Cd Z (Cd Z (Cf (aa ?_)))))))))
   refine bG 12 bH Y U (Cc Z (Cc Z (Cc Z (Cc Z (Cc Z (Cb (ar Z Z X) (Cb (bM 0 Z Z X) (Cc Z (Cc Z ?_)))))))))
   refine Cc Z ?_
   refine Cb (ao (hm) Z ⟨A,A,A,Cg⟩) ?_
   refine Cb (ao (ha) Z ⟨A,(av (by rw [if_neg (Nat.lt_irrefl j)])),A,Cg⟩) ?_
   refine Cf (Cb (ar Z Z X) ?_)
   (refine au 0 Z Z Z ?_ Z ?_;omega)
   refine Cf (aK (aa (ai (Cb (bU _ 1 Z Z X) (Cc Z (Cf ?_))))))
   refine aX (j+1) X X BX (.keep (sH) (.keep Ca (.nil)))
  ·refine ae (ai (Cb (sF X (bD Z Z)) (Cf (aa (ae (aD Z (a8 (ax (ax ?_)))))))))
   refine aL (oV ?_)
   exact qk (σ:=Unit) (ψ:=fun _=>bw []) () Tryz.results76 A (.keep (bV fun q hq=>by rw [if_pos X]) (SubM.refl _))
end Tor
end
section
namespace Tor
open Go Go.RowKit Go.Proofs
variable [Tor.Co.Kc]
abbrev sK (W:Nat→Nat→Nat):Nat→Nat→VT:=fun i j=>one (.int .u64 (W i j:Nat))
abbrev pC (bz n:Nat) (c:Nat) (B C:Nat→Nat):Own:=aH (some bz) 58 .one n n (fun q=>one (slV (some (B q)) c (C q)))
abbrev lW (c n:Nat) (B C:Nat→Nat) (W:Nat→Nat→Nat) (S:Nat→Bool):Own:=rwO 47 .one c n B C (sK W) S
theorem vv {bz n c i b cap:Nat} {B C:Nat→Nat} {φ:Nat→VT} (hφ:φ=fun q=>if q<i then one (slV (some (B q)) c (C q)) else one (.slice none 0 0)):Own.le (aH (some bz) 58 .one n n (upd φ i (one (slV (some b) c cap)))) (aH (some bz) 58 .one n n (fun q=>if q<i+1 then one (slV (some (if q=i then b else B q)) c (if q=i then cap else C q)) else one (.slice none 0 0))):=bV fun q _=>by
 subst hφ
 unfold upd
 by_cases h:q=i
 ·subst h;rw [if_pos Z,if_pos (Nat.lt_succ_self q),if_pos Z,if_pos Z]
 ·rw [if_neg h]
  dsimp only
  by_cases h2:q<i
  ·rw [if_pos h2,if_pos X,if_neg h,if_neg h]
  ·rw [if_neg h2,if_neg X]
theorem vy {n c i b cap:Nat} {B C:Nat→Nat} {W:Nat→Nat→Nat} : Own.le (rwO 47 .one c n (fun q=>if q=i then b else B q) (fun q=>if q=i then cap else C q) (fun q=>if q=i then (fun j=>one (.int .u64 (W i j:Nat))) else sK W q) (fun q=>if q=i then false else decide (i≤q))) (lW c n (fun q=>if q=i then b else B q) (fun q=>if q=i then cap else C q) W (fun q=>decide (i+1≤q))):=j6 (fun q _=>by
  by_cases h:q=i
  ·rw [if_pos h,decide_eq_false X]
  ·rw [if_neg h]; exact decide_eq_decide.2 X) (fun q _ _=>⟨rfl,rfl⟩) (fun q j _ _ _=>by
  by_cases h:q=i
  ·rw [if_pos h,h]; exact VT.le_refl _
  ·rw [if_neg h]; exact VT.le_refl _)
abbrev BC:Type:=(Nat→Nat) × (Nat→Nat) × Nat
theorem xJ {a b a' b':Own} (h1:Own.le a a') (h2:Own.le b b'):ConvM [a,b] [b',a']:=by
 refine ⟨?_,fun g h H o ho => ?_⟩
 ·show (a.bl ++ (b.bl ++ [])).Perm (b'.bl ++ (a'.bl ++ []))
  rw [← h1.1, ← h2.1,List.append_nil,List.append_nil]; exact List.perm_append_comm
 ·rcases List.mem_cons.1 ho with rfl | ho
  ·exact h2.2 _ _ (H _ (List.mem_cons_of_mem _ List.mem_cons_self))
  ·rcases List.mem_singleton.1 ho with rfl
   exact h1.2 _ _ (H _ List.mem_cons_self)
attribute [local irreducible] J PJ aC one slT bL bE bw exT cj eP aT aH slV VT.le Ret bQ dz ed
attribute [local irreducible] rwO
theorem ra (n c:Nat) (W:Nat→Nat→Nat) (hc0:0<n→0<c) (hn:n≤1048576) (hc:c≤1048576):OkM (σ:=BC) Tryz.prog 72 [slT .one n (fun i=>ni c (W i))] (fun s=>one (slV (some s.2.2) n n)) (fun s => [pC s.2.2 n c s.1 s.2.1,lW c n s.1 s.2.1 W (fun _=>false)]):=by
 refine OkM.enter Tryz.func72 Z Tryz.ntmps72 Z (fun w O => ?_)
 refine ae (ai (Cd Z (Cf (aa (ae (ai (Cc Z (Cb (a9 Z) ?_))))))))
 refine cA n n Z Z Z Z (Nat.le_refl _) Z Z X Z Z (fun bz => ?_)
 refine Cd Z (Cf (aa (ae (ae (ai (Cc Z (Cb (a9 Z) (Cc Z (Cf ?_)))))))))
 refine aa (aw ?_)
 refine iW (xF (T:=47) (L := .one) (c:=c) (n:=n) (B:=fun _=>0) (C:=fun _=>0) (φ:=sK W) (S:=fun q=>decide (0≤q)) (fun i _=>decide_eq_true (Nat.zero_le i))) ?_
 refine cv (Γ' := [(2,_),(3,_),(9,_),(10,_),(11,_)]) BW (SubM.refl _) ?_
 refine bO (σ:=Nat × (Nat→Nat) × (Nat→Nat)) (Γk := [(2,_),(3,_),(9,_),(10,_)]) BW (fun s => [(11,one (.int .i64 (s.1:Nat)))]) (fun s M0=>((M0.set 1 (aH (some bz) 58 .one n n (fun q=>if q<s.1 then one (slV (some (s.2.1 q)) c (s.2.2 q)) else one (.slice none 0 0)))).set 0 (lW c n s.2.1 s.2.2 W (fun q=>decide (s.1≤q))))) (fun s=>s.1≤n) (fun s=>n - s.1) ((0,fun _=>0,fun _=>0)) (Nat.zero_le _) BX (.keep Ca (.keep Ca (.nil))) (fun s hs => ?_)
 refine cg (Γ' := [(11,_),(2,_),(3,_),(9,_),(10,_)]) (M' := [_,_]) Z Z ?_
 obtain ⟨i,B,C⟩:=s
 dsimp only at hs ⊢
 by_cases hi:i<n
 ·have h1:=vu c (W i) (hc0 X) hc
  refine ae (ai (Cb (sT X (bD Z Z)) (Cf (aa (ae (aM Z (ay (aa (ae ?_)))))))))
  refine aw (ae (ai (Cc Z (Cb (aI Z Z X) (Cb (aY Z) (Cd Z (Cd Z (Cf (aa ?_)))))))))
  refine ai (Cc Z (Cc Z (Cc Z ?_)))
  refine gM (h1) Z ⟨A,Cg⟩ Z Z (fun s19 => ?_)
  refine Cb (ar Z Z X) ?_
  (refine au 2 Z Z Z ?_ Z ?_;omega)
  refine Cf (aK (aa (ai (Cb (bU _ 1 Z Z X) (Cc Z (Cf (fx (kY (i:=i) hi (decide_eq_true (Nat.le_refl i))) ?_)))))))
  refine aX ((i+1,(fun q=>if q=i then s19.1 else B q),fun q=>if q=i then s19.2 else C q)) X X BX (.keep (vy) (.keep (vv Z) (.nil)))
 ·have he:i=n:=by omega
  subst he
  refine ae (ai (Cb (sF X (bD Z Z)) (Cf (aa (ae (aD Z (a8 (ax (ax ?_)))))))))
  refine aL (aa (ae (ai (Cc Z (Cd Z (Cf (aa (aG ?_))))))))
  refine fx (xJ (a':=lW c i B C W (fun _=>false)) (b':=pC bz i c B C) (j6 (fun q hq=>decide_eq_false X) (fun q _ _=>⟨rfl,rfl⟩) (fun q j _ _ _=>VT.le_refl _)) (bV fun q hq=>by rw [if_pos hq])) ?_
  exact mz ((B,C,bz):BC) Tryz.results72 (.tmp Z A) (SubM.refl _)
def sL (W:Nat→Nat→Nat) (n k c i:Nat):Prop:=k≤i∧i<n∧W i c≠0 ∧ ∀ q,k≤q→q<i→W q c=0
theorem vz (bz n c k e i:Nat) (B C:Nat→Nat) (W:Nat→Nat→Nat) (he:e<c) (hn:n≤1048576) (hf:sL W n k e i) :
  OkI Tryz.prog 73 [one (slV (some bz) n n),one (.int .i64 (k:Nat)),one (.int .i64 (e:Nat))] [pC bz n c B C,lW c n B C W (fun _=>false)]
   (fun _:Unit=>one (.int .i64 (i:Nat))) (fun _ => [pC bz n c B C,lW c n B C W (fun _=>false)]):=by
 obtain ⟨f1,f2,f3,f4⟩:=hf
 refine OkI.enter Tryz.func73 Z Tryz.ntmps73 Z (fun w O => ?_)
 refine ae (ai (Cd Z (Cf (aa (ii (ae (ai (Cd Z (Cf ?_)))))))))
 refine aa (ae (lY (aa (ae (ae (ai (Cc Z (Cd Z (Cf ?_)))))))))
 refine aa (aw (cv (Γ' := [(0,_),(2,_),(6,_),(7,_),(8,_)]) BW (SubM.refl _) ?_))
 refine bO (σ:=Nat) (Γk := [(0,_),(2,_),(6,_)]) BW (fun j => [(8,one (.int .i64 (j:Nat)))]) (fun j M0=>M0) (fun j=>k≤j∧j≤i) (fun j=>n - j) (k) (⟨Nat.le_refl _,f1⟩) BX (.keep Ca (.keep Ca (.nil))) (fun j hj => ?_)
 refine cg (Γ' := [(8,_),(0,_),(2,_),(6,_)]) (M' := [_,_]) Z Z ?_
 obtain ⟨hj1,hj2⟩:=hj
 have hjn:j<n:=by omega
 by_cases hji:j=i
 ·subst hji
  have hz:(W j e:Int)≠0:=by omega
  refine ae (ae (ai (Cc Z (Cc Z (Cb (iP Z) (Cb (sT X (bD Z Z)) (Cf (aa (aM Z ?_)))))))))
  refine ay (aa (ae (aw (ae (ai (Cc Z (Cc Z (Cb (ar Z Z X) (Cb (bM 0 Z Z X) ?_)))))))))
  refine Cc Z (Cb (ar Z Z X) (Cb (jg 1 Z Z X Z X) (Cf (aa (aw (ae (ai (Cb (sF (by assumption) (cQ Z Z)) (Cd Z ?_)))))))))
  refine Cf (aa (aD Z (ae (ai (Cc Z (Cd Z (Cf (aa (a8 ?_)))))))))
  refine dG Z (dG Z (ax (ax (aL (aa (ae (ai (Cc Z (Cd Z ?_)))))))))
  refine Cf (aa (aG (el ?_)))
  exact tG (σ:=Unit) () Tryz.results73 (.tmp Z A) (SubM.refl _)
 ·have hz:(W j e:Int)=0:=by have:=f4 j hj1 X;omega
  refine ae (ae (ai (Cc Z (Cc Z (Cb (iP Z) (Cb (sT X (bD Z Z)) (Cf (aa (aM Z ?_)))))))))
  refine ay (aa (ae (aw (ae (ai (Cc Z (Cc Z (Cb (ar Z Z X) (Cb (bM 0 Z Z X) ?_)))))))))
  refine Cc Z (Cb (ar Z Z X) (Cb (jg 1 Z Z X Z X) (Cf (aa (aw (ae (ai (Cb (sT (by assumption) (cQ Z Z)) (Cd Z ?_)))))))))
  refine Cf (aa (aM Z (ay (aK (aK (aa (ai (Cc Z (Cb (bU _ 1 Z Z X) ?_)))))))))
  refine Cd Z (Cf ?_)
  refine aX (j+1) X X BX (.keep Ca (.keep Ca (.nil)))
end Tor
end
section
namespace Tor
variable [Tor.Co.Kc]
theorem gH (x p:Nat):(p:Int)∣((x % p:Nat):Int) - (x:Int):=⟨-((x / p:Nat):Int),by
 have h:=Nat.div_add_mod x p
 have:(x:Int)=(p:Int)*((x / p:Nat):Int)+((x % p:Nat):Int):=by rw [← Int.natCast_mul, ← Int.natCast_add,h]
 rw [this,Int.mul_neg]; omega⟩
theorem jh {p a b c:Int} (h1:p∣a - b) (h2:p∣b - c):p∣a - c:=by
 have:=Int.dvd_add h1 h2
 rwa [show a - b+(b - c)=a - c by omega] at this
theorem pD {p a b:Int} (h:p∣a - b):p∣b - a:=by
 have:=Int.dvd_neg.2 h
 rwa [show -(a - b)=b - a by omega] at this
theorem nj {p a b:Int} (c:Int) (h:p∣a - b):p∣a*c - b*c:=by rw [← Int.sub_mul]; exact Int.dvd_mul_of_dvd_left h
end Tor
end
section
namespace Tor
open Go Go.RowKit Go.Proofs
variable [Tor.Co.Kc]
def A7 (p:Nat):Prop := ∀ x,x<p→x≠0→(x^(p - 2) % p)*x % p=1
theorem vA {sv:Option Nat} {T:TypeId} {cap c j:Nat} {G H:Nat→Nat} : Own.le (aH sv T .one cap c (upd (fun q=>one (.int .u64 ((if q<j then G q else H q:Nat)))) j (one (.int .u64 (G j:Nat))))) (aH sv T .one cap c (fun q=>one (.int .u64 ((if q<j+1 then G q else H q:Nat))))):=bV fun q _=>by
 unfold upd
 by_cases h:q=j
 ·subst h;rw [if_pos Z,if_pos (Nat.lt_succ_self q)]
 ·rw [if_neg h]
  dsimp only
  by_cases h2:q<j
  ·rw [if_pos h2,if_pos X]
  ·rw [if_neg h2,if_neg X]
theorem xK (a b c:Own) (l:Mem):(a :: b :: c :: l).Perm ([c,b] ++ (a :: l)) :=
 ((List.Perm.swap c b l).cons a).trans ((List.Perm.swap c a (b :: l)).trans ((List.Perm.swap b a l).cons c))
theorem xL (a b c:Own) (l:Mem):(a :: b :: c :: l).Perm (c :: b :: a :: l) :=
 ((List.Perm.swap c b l).cons a).trans ((List.Perm.swap c a (b :: l)).trans ((List.Perm.swap b a l).cons c))
theorem zt {bz n c i k:Nat} {B C:Nat→Nat} : Own.le (aH (some bz) 58 .one n n (upd (upd (fun q=>one (slV (some (B q)) c (C q))) k (one (slV (some (B i)) c (C i)))) i (one (slV (some (B k)) c (C k))))) (pC bz n c (swp i k B) (swp i k C)):=bV fun q _=>by
 unfold upd swp
 by_cases h1:q=i
 ·rw [if_pos h1,if_pos h1,if_pos h1]
 ·rw [if_neg h1,if_neg h1,if_neg h1]
  by_cases h2:q=k
  ·rw [if_pos h2,if_pos h2,if_pos h2]
  ·rw [if_neg h2,if_neg h2,if_neg h2]
theorem xM {n c i k:Nat} {B C:Nat→Nat} {W:Nat→Nat→Nat} : Own.le (rwO 47 .one c n B C (swp i k (sK W)) (fun _=>false)) (lW c n B C (swp i k W) (fun _=>false)):=j6 (fun _ _=>rfl) (fun _ _ _=>⟨rfl,rfl⟩) fun q j _ _ _=>by
 show VT.le (swp i k (sK W) q j) (one (.int .u64 (swp i k W q j:Nat)))
 unfold swp
 split
 ·exact VT.le_refl _
 ·split <;> exact VT.le_refl _
attribute [local irreducible] J PJ aC one slT bL bE bw exT cj eP aT aH slV VT.le Ret bQ dz ed
attribute [local irreducible] rwO
end Tor
end
section
namespace Tor
open Go Go.RowKit
variable [Tor.Co.Kc]
section
variable {P:Program} {E:Env} {ops:Array Oper}
abbrev lG (d:Nat→Nat) (BU:Nat→Value) (l:List Nat):Ctx:=l.map fun j=>(d j,one (BU j))
theorem om {d:Nat→Nat} {BU:Nat→Value} {Γ:Ctx} {t:Nat} {φ:VT} : ∀ {l:List Nat},bt (lG d BU l ++ Γ) t=some φ→(∃ j∈l,d j=t∧φ=one (BU j))∨bt Γ t=some φ
 | [], h => .inr h
 | j :: l, h => by
  have h:bt ((d j,one (BU j)) :: (lG d BU l ++ Γ)) t=some φ:=h
  rw [aW] at h
  split at h
  ·rename_i e;cases h;exact .inl ⟨j,List.mem_cons_self,e,rfl⟩
  ·rcases om h with ⟨k,h1,h2⟩ | h2
   ·exact .inl ⟨k,List.mem_cons_of_mem _ h1,h2⟩
   ·exact .inr h2
theorem ug {D:List Deferred} {Γ:Ctx} {M:Mem} {a:Act} {w:World} {d:Nat→Nat} {BU:Nat→Value} {l:List Nat} (hS:St E D Γ M a w) (h : ∀ j∈l,a.tmps.getD (d j) undef=BU j):St E D (lG d BU l ++ Γ) M a w :=
 ⟨hS.base,hS.sz,hS.df,fun t φ ht=>by
  rcases om ht with ⟨j,h1,rfl,rfl⟩ | h2
  ·exact h j h1
  ·exact hS.tm t φ h2⟩
def xN (E:Env) (D:List Deferred) (Γ:Ctx) (M:Mem) (row:Nat→Own) (n m:Nat) (d:Nat→Nat) (BU:Nat→Value) (W:Nat→Value) (l:Array Bool) (a:Act) (w:World):Prop :=
 ∃ M',(l.getD m false=false∧M'=M∨l.getD m false=true ∧ ∃ b,M'=row b :: M∧a.tmps.getD (d m) undef=W b)∧St E D Γ M' a w ∧ ∀ j,j<n→j≠m→l.getD j false=true→a.tmps.getD (d j) undef=BU j
theorem A8 {T e:TypeId} {z:Value} {by':Nat} {L:Lay} [hS:SliceOf P T e] [hL:LayOf P e L] [hZ:ZeroOf P e z by'] [hF:Flat (one z) L] {D:List Deferred} {Γ:Ctx} {M:Mem} {id:Nat} {Q:Exit→Act→World→Prop} (n m c:Nat) (d:Nat→Nat) (BU:Nat→Value) (pre:Nat→List Nat) (Γ0:Ctx) {x y:Operand} {ty:TypeId} {pos:String} {af:Array Edge}
  (hm:P.follows .mixedOrders=true) (hok:dX n ops=true) (hmn:m<n)
  (hd:((List.range n).all fun i=>(List.range n).all fun j => !Nat.beq (d i) (d j) || Nat.beq i j)=true)
  (hpre:((List.range n).all fun i=>(pre i).all fun j => !Nat.beq j m && Nat.blt j n && eJ ops j i)=true)
  (h0:((List.range n).all fun j=>(bt Γ0 (d j)).isNone)=true) (hs0:dO Γ Γ0)
  (hA : ∀ i,i<n→i≠m → ∃ o,ops[i]? = some o ∧ ∀ M',(M'=M ∨ ∃ b,M'=aH (some b) e L c c (fun _=>one z) :: M)→StepG P E (lG d BU (pre i) ++ Γ0) M' ops o ((d i,one (BU i)) :: (lG d BU (pre i) ++ Γ0)))
  (hmk:ops[m]? = some ⟨some (d m), .makeSlice T x y,ty,pos,af,none⟩) (hx:aB (lG d BU (pre m) ++ Γ0) x=some (one (.int .i64 (c:Nat)))) (hy:aB (lG d BU (pre m) ++ Γ0) y=some (one (.int .i64 (c:Nat))))
  (hb0:Nat.ble 1 by'=true) (hz0:Nat.ble 1 L.sz=true) (hc:by'*c≤2^48) (hdm:Nat.ble (d m+1) E.N=true)
  (hT : ∀ b,Run P E ops false n D ((d m,one (slV (some b) c c)) :: (lG d BU ((List.range n).filter fun j => !Nat.beq j m) ++ Γ0)) (aH (some b) e L c c (fun _=>one z) :: M) (ops.toList.drop n) (fun D' Γ' M'=>PJ E D' Γ' M' .normal Q)):J P E D Γ M (.region id ops true) Q:=by
 intro a w hSt
 have hn:n≤ops.size:=by simp only [dX,Bool.and_eq_true] at hok;exact of_decide_eq_true hok.1
 have hd' : ∀ i j,i<n→j<n→d i=d j→i=j:=fun i j hi hj e=>by
  have h1:=List.all_eq_true.1 (List.all_eq_true.1 hd i (List.mem_range.2 hi)) j (List.mem_range.2 hj)
  rw [e] at h1
  simpa using h1
 have hpre' : ∀ i j,i<n→j∈pre i→j≠m∧j<n∧eJ ops j i=true:=fun i j hi hj=>by
  have h1:=List.all_eq_true.1 (List.all_eq_true.1 hpre i (List.mem_range.2 hi)) j hj
  simp only [Bool.and_eq_true,Bool.not_eq_true'] at h1
  exact ⟨fun e=>(by rw [e,Nat.beq_refl] at h1;exact absurd h1.1.1 U),Nat.le_of_ble_eq_true h1.1.2,h1.2⟩
 have h0' : ∀ j,j<n→bt Γ0 (d j)=none:=fun j hj=>by
  have h1:=List.all_eq_true.1 h0 j (List.mem_range.2 hj)
  simpa using h1
 refine dM hm fun w₁ hw₁ => ?_
 have k0:Ext w { w₁ with drawn:=w₁.drawn+1 } := hw₁.trans ⟨rfl,rfl,rfl,Nat.le_refl _,fun _ _=>rfl⟩
 have hl0 : ∀ j,(Array.replicate ops.size false).getD j false=false:=fun j=>by
  simp [Array.getD_eq_getD_getElem?,Array.getElem?_replicate]; split <;> rfl
 have hS1:St E D Γ M a { w₁ with drawn:=w₁.drawn+1 } := ⟨hSt.base.ext k0,hSt.sz,hSt.df,fun t φ ht=>φ.mono (Base.hv_ext k0) (hSt.tm t φ ht)⟩
 refine gY (n:=n) hok (fun l a w=>((∃ j,j<n∧l.getD j false=false)∧(∀ j,n≤j→l.getD j false=false)∧xN E D Γ0 M (fun b=>aH (some b) e L c c (fun _=>one z)) n m d BU (fun b=>slV (some b) c c) l a w) ∨
  ∃ k,n≤k∧k≤ops.size∧(∀ j,j<ops.size→(l.getD j false=true↔j<k))∧Co.wpOpsX P ops (fun a w => ∀ w₁,Ext w w₁→Q .normal a w₁) (List.range' k (ops.size - k)) a w) ?_ ?_ (fun l a w w' h kk=>h.imp (fun ⟨g1,g2,M',g3,g4,g5⟩=>⟨g1,g2,M',g3,g4.ext kk,g5⟩) fun ⟨k,g1,g2,g3,g4⟩=>⟨k,g1,g2,g3,by
   generalize List.range' k (ops.size - k)=r at g4
   cases r with
   | nil => exact fun w₁ h₁ => g4 w₁ (kk.trans h₁)
   | cons i r => exact fun w₁ h₁ => g4 w₁ (kk.trans h₁)⟩) ops.size _ a _ ⟨by simp, fun j hj => ?_⟩ ?_ (.inl ⟨⟨m, hmn, hl0 m⟩, fun j _ => hl0 j, M, .inl ⟨hl0 m, rfl⟩, hS1.sub hs0 (SubM.refl _), fun j _ _ hj => ?_⟩)
 ·rintro l a w (⟨⟨j,hj,hlj⟩,_⟩ | ⟨k,h1,h2,h3,h4⟩) hall
  ·rw [hall j X] at hlj;cases hlj
  ·have hk:k=ops.size:=by
    rcases Nat.lt_or_ge k ops.size with h | h
    ·exact absurd ((h3 k h).1 (hall k h)) (Nat.lt_irrefl k)
    ·omega
   subst hk
   have h5 : ∀ w₁,Ext w w₁→Q .normal a w₁:=by simpa [Co.wpOpsX] using h4
   exact h5 w (Ext.refl w)
 ·rintro l a w i (⟨⟨j0,hj0,hlj0⟩,hlate,M',hM',hS',hV⟩ | ⟨k,h1,h2,h3,h4⟩) hl hi1 hi2 hi
  ·have hin:i<n:=by
    rcases Nat.lt_or_ge i n with h | h
    ·exact h
    ·rcases cu hok (i:=j0) (j:=i) X hi1 with hp | ⟨h',_⟩
     ·have:=bS hi hp;rw [hlj0] at this;cases this
     ·omega
   have hls:=hl.size
   have hself:(l.setIfInBounds i true).getD i false=true:=by rw [aZ X,if_pos Z]
   have hsame : ∀ j,j≠i→(l.setIfInBounds i true).getD j false=l.getD j false:=fun j hj=>by rw [aZ X,if_neg (fun e=>hj e.symm)]
   have hSp:St E D (lG d BU (pre i) ++ Γ0) M' a w:=ug hS' fun j hj=>by
    obtain ⟨g1,g2,g3⟩:=hpre' i j hin hj
    exact hV j g2 g1 (bS hi g3)
   -- what holds behind it
   have fin : ∀ a' w',xN E D Γ0 M (fun b=>aH (some b) e L c c (fun _=>one z)) n m d BU (fun b=>slV (some b) c c) (l.setIfInBounds i true) a' w'→(((∃ j,j<n∧(l.setIfInBounds i true).getD j false=false)∧(∀ j,n≤j→(l.setIfInBounds i true).getD j false=false)∧xN E D Γ0 M (fun b=>aH (some b) e L c c (fun _=>one z)) n m d BU (fun b=>slV (some b) c c) (l.setIfInBounds i true) a' w') ∨
     ∃ k,n≤k∧k≤ops.size∧(∀ j,j<ops.size→((l.setIfInBounds i true).getD j false=true↔j<k))∧Co.wpOpsX P ops (fun a w => ∀ w₁,Ext w w₁→Q .normal a w₁) (List.range' k (ops.size - k)) a' w'):=fun a' w' hH=>by
    by_cases hmore : ∃ j,j<n∧(l.setIfInBounds i true).getD j false=false
    ·exact .inl ⟨hmore,fun j hj=>by rw [hsame j X]; exact hlate j hj,hH⟩
    ·have hall : ∀ j,j<n→(l.setIfInBounds i true).getD j false=true:=fun j hj=>by
      rw [← Bool.not_eq_false]; intro h;exact hmore ⟨j,hj,h⟩
     refine .inr ⟨n,Nat.le_refl _,hn,fun j hj=>⟨fun h => ?_,hall j⟩,?_⟩
     ·rcases Nat.lt_or_ge j n with h' | h'
      ·exact h'
      ·rw [hsame j X,hlate j h'] at h;cases h
     ·obtain ⟨M2,hM2,hS2,hV2⟩:=hH
      rcases hM2 with ⟨h1,_⟩ | ⟨_,b,rfl,hb⟩
      ·rw [hall m hmn] at h1;cases h1
      ·have hS3:=ug (l:=(List.range n).filter fun j => !Nat.beq j m) hS2 fun j hj=>by
        obtain ⟨g1,g2⟩:=List.mem_filter.1 hj
        exact hV2 j (List.mem_range.1 g1) (fun e=>by subst e;simp at g2) (hall j (List.mem_range.1 g1))
       have hS4:St E D ((d m,one (slV (some b) c c)) :: (lG d BU ((List.range n).filter fun j => !Nat.beq j m) ++ Γ0)) (aH (some b) e L c c (fun _=>one z) :: M) a' w':=⟨hS3.base,hS3.sz,hS3.df,fun t φ ht=>by
        rw [aW] at ht
        split at ht
        ·rename_i e;cases ht;subst e;exact hb
        ·exact hS3.tm t φ ht⟩
       have:=(hT b).seq (fun a w => ∀ w₁,Ext w w₁→Q .normal a w₁) [] (fun j _=>by simp [List.getElem?_drop]) (fun D' Γ' M' a w hK hS=>by simpa [Co.wpOpsX] using fun w₁ h₁=>hK a w₁ (hS.ext h₁)) a' w' hS4
       simpa using this
   by_cases him:i=m
   ·subst him
    rcases hM' with ⟨_,rfl⟩ | ⟨hc1,_⟩
    ·have hx':a.eval x = .int .i64 c:=cq hSp hx
     have hy':a.eval y = .int .i64 c:=cq hSp hy
     have hb1:=Nat.le_of_ble_eq_true hb0
     have hz1:=Nat.le_of_ble_eq_true hz0
     obtain ⟨f1,f2,f3⟩:=hF.ok z (fun _=>none) Z
     have hc48:c≤2^48:=by
      have:c≤by'*c:=Nat.le_mul_of_pos_left c hb1
      omega
     have hr:(execOp a.eval ⟨some (d i), .makeSlice T x y,ty,pos,af,none⟩).run P w = .ok (.value (slV (some w.heap.size) c c)) (w.alloc (.cells (dt z.cells (c*L.sz)) e)):=by
      simp only [execOp,hx',hy',Sem.run_bind,gQ hb1 (Nat.le_refl c) hc,Result.andThen_ok,Sem.run_pure]
     have hS2:St E D ((d i,one (slV (some w.heap.size) c c)) :: (lG d BU (pre i) ++ Γ0)) (aH (some w.heap.size) e L c c (fun _=>one z) :: M') (a.put (some (d i)) (slV (some w.heap.size) c c)) (w.alloc (.cells (dt z.cells (c*L.sz)) e)):=by
      refine hSp.alloc (o:=aH (some w.heap.size) e L c c (fun _=>one z)) Z ⟨Nat.le_refl _,by omega,(fun h=>by cases h),fun b hb => ?_⟩ (Nat.le_of_ble_eq_true hdm) Z
      cases hb
      exact ⟨_,ci w _ _ _,eO _ _,fun q hq=>⟨z,jL f1 f3 X hz1,rfl⟩⟩
     simp only [Co.wpOpX,hmk,cO (o:=⟨some (d i), .makeSlice T x y,ty,pos,af,none⟩) Z,if_true]
     refine ⟨fun h=>(by cases h),?_⟩
     rw [hr]
     refine fin _ _ ⟨_, .inr ⟨hself,w.heap.size,rfl,?_⟩,?_,fun j hj hne hlj => ?_⟩
     ·exact be (by rw [hS'.sz]; exact Nat.le_of_ble_eq_true hdm)
     ·refine hS2.sub (fun t φ ht=>⟨φ,?_,A⟩) (SubM.refl _)
      have htd:d i≠t:=fun e=>by subst e;rw [h0' i hin] at ht;cases ht
      rw [aW,if_neg htd]
      have : ∀ l:List Nat,(∀ j∈l,j<n)→bt (lG d BU l ++ Γ0) t=some φ:=fun l=>by
       induction l with
       | nil => exact fun _ => ht
       | cons j l ih =>
        intro hl
        show bt ((d j,one (BU j)) :: (lG d BU l ++ Γ0)) t=some φ
        rw [aW,if_neg (fun e=>by subst e;rw [h0' j (hl j List.mem_cons_self)] at ht;cases ht)]
        exact ih fun j hj=>hl j (List.mem_cons_of_mem _ hj)
      exact this _ fun j hj=>(hpre' i j hin hj).2.1
     ·rw [hsame j hne] at hlj
      show (a.put (some (d i)) _).tmps.getD (d j) undef=_
      rw [aP (fun e=>hne (hd' i j hin hj e).symm)]
      exact hV j hj hne hlj
    ·rw [hc1] at hi2;cases hi2
   ·obtain ⟨o,ho,hst⟩:=hA i hin him
    obtain ⟨d', ψ',hdd,hN,heq,hrun⟩:=(hst M' (by rcases hM' with ⟨_,h⟩ | ⟨_,b,h,_⟩;exact .inl h;exact .inr ⟨b,h⟩)).run ho
    cases heq
    refine hrun a w hSp.base (hSp.names _) _ fun v w' k hv'=>fin _ _ ?_
    have hv':v=BU i:=hv'
    subst hv'
    refine ⟨M',?_,?_,fun j hj hne hlj => ?_⟩
    ·rw [hsame m (fun e=>him e.symm),aP (fun e=>him (hd' i m hin hmn e))]; exact hM'
    ·refine (hS'.put k hN (ψ:=one (BU i)) Z).sub (fun t φ ht=>⟨φ,?_,A⟩) (SubM.refl _)
     rw [aW,if_neg (fun e=>by subst e;rw [h0' i hin] at ht;cases ht)]
     exact ht
    ·by_cases hji:j=i
     ·subst hji;exact be (by rw [hS'.sz]; exact hN)
     ·rw [hsame j hji] at hlj
      rw [aP (fun e=>hji (hd' i j hin hj e).symm)]
      exact hV j hj hne hlj
  ·have hik:i=k:=by
    rcases Nat.lt_trichotomy i k with h | h | h
    ·rw [(h3 i hi1).2 h] at hi2;cases hi2
    ·exact h
    ·rcases cu hok h hi1 with hp | ⟨h',_⟩
     ·have:=(h3 k X).1 (bS hi hp);omega
     ·omega
   subst hik
   rw [show ops.size - i=(ops.size - (i+1))+1 by omega,List.range'_succ] at h4
   refine Co.wpOpX_mono (fun a' w' h' => .inr ⟨i+1,by omega,hi1,fun j hj => ?_,h'⟩) (h4 w (Ext.refl w))
   have hls:=hl.size
   rw [aZ X]
   by_cases e:i=j
   ·subst e;simp
   ·rw [if_neg e,h3 j hj]; omega
 ·rw [hl0] at hj;cases hj
 ·unfold left;refine Nat.le_trans (List.length_filter_le _ _) (by simp)
 ·rw [hl0] at hj;cases hj
end
end Tor
end
section
namespace Tor
open Go Go.RowKit Go.Proofs
variable [Tor.Co.Kc]
def kZ (p:Nat) (G:Nat→Nat→Int):Nat→Nat→Nat:=fun i j=>(G i j % (p:Int)).toNat
theorem zu {p:Nat} {G:Nat→Nat→Int} (hp:0<p) (i j:Nat):kZ p G i j<p:=by
 unfold kZ
 have:=Int.emod_nonneg (G i j) (show (p:Int)≠0 by omega)
 have:=Int.emod_lt_of_pos (G i j) (show 0<(p:Int) by omega)
 omega
theorem zv (a b:Own) (l:Mem):(a :: b :: l).Perm ([b] ++ (a :: l)):=List.Perm.swap b a l
theorem xO {Ms:Mem} {b2 br n c i j p:Nat} {G:Nat→Nat→Int} {T:TypeId} (hm:aH (some br) T .one c c (fun q=>one (.int .u64 ((if q<j then kZ p G i q else 0:Nat))))∈Ms) (hj:j=c) :
  p8 Ms (aH (some b2) 58 .one n n (upd (fun q=>if q<i then ni c (kZ p G q) else bQ) i (one (slV (some br) c c)))) (aH (some b2) 58 .one n n (fun q=>if q<i+1 then ni c (kZ p G q) else bQ)):=p8.sl fun q hq=>by
 unfold upd
 by_cases h:q=i
 ·subst h
  rw [if_pos Z,if_pos (Nat.lt_succ_self q)]
  exact Ent.slE hm fun k hk=>Ent.le (by rw [if_pos X]; exact VT.le_refl _)
 ·rw [if_neg h]
  dsimp only
  by_cases h2:q<i
  ·rw [if_pos h2,if_pos X]; exact Ent.refl _
  ·rw [if_neg h2,if_neg X]; exact Ent.refl _
attribute [local irreducible] J PJ aC one slT bL bE bw exT cj eP aT aH slV VT.le Ret bQ dz ed
attribute [local irreducible] aU
theorem rb (p n c:Nat) (G:Nat→Nat→Int) (hp:bg p=true) (hp0:0<p) (hp':p<2147483648) (hn:n≤1048576) (hc:c≤1048576) (hG : ∀ i j,cf (G i j)):Ok Tryz.prog 51 [one (.int .u64 (p:Nat)),cr n c G] (A6 p n c (kZ p G)):=by
 have h1:=fo p X
 rw [hp] at h1
 unfold cr
 refine Ok.enter Tryz.func51 Z Tryz.ntmps51 Z (fun w O => ?_)
 refine ae (ai ?_)
 refine bJ Z Z (ltN Z) (fun b3 => ?_)
 refine bZ (T:=95) Z Z Z (fun b4 => ?_)
 refine Cf (aa (ae (ae (ai (Cc Z ?_)))))
 refine Cb (ao (h1) Z ⟨A,Cg⟩) ?_
 refine Cb (c8 Z) (Cc Z (Ce (aj Z) (Ce (am 1 Z Z Z) (Ce (sF X (bD Z Z)) (Cb (bT Z Z) (Cf (aa (aD Z (ay ?_)))))))))
 refine aa (ae ?_)
 refine Ar bH Y Y (fun a1 w1 hS1 => ?_)
 refine ux (fun B=>ab Z) Z Z ?_
 refine ux (fun B=>aj Z) Z Z ?_
 refine ux (fun B=>am 1 Z Z Z) Z Z ?_
 refine ux (fun B=>aj Z) Z Z ?_
 refine ux (fun B=>am 1 Z Z Z) Z Z ?_
 refine ux (fun B=>a9 Z) Z Z ?_
 refine ux (fun B=>oM w1.heap.size n Z Z Z Z Z Z Z ?_) Z Z ?_
 ·omega
 refine uB Z Z Z (BuildK.cons Z Z Z (BuildK.cons Z Z Z (BuildK.cons Z Z Z (BuildK.nil (ua Z (us Z ?_))))))
 refine RunU.nil (fun γ a2 w2 hS2 hx hk2 => ?_)
 obtain ⟨b2,hS3⟩:=rW (t:=5) (b:=γ 5) (T:=95) (m:=3) (k:=2) (n:=n) (cs1 := [(0, .one,one (.int .u64 (p:Nat))),(1, .one,one (.int .i64 (c:Nat)))])
  (Γk := [(0,one (.int .u64 (p:Nat))),(3,one (.pointer (some ⟨b3,0,none⟩))),(4,one (.pointer (some ⟨b4,0,none⟩)))])
  hS1 Z hS2 hx hk2 (.cons Z Y (.cons Z Y (.cons Z Y .nil))) Z Z (fun q hq=>by
   rcases List.mem_cons.1 hq with rfl | hq
   ·exact ⟨_,rfl,rfl⟩
   rcases List.mem_cons.1 hq with rfl | hq
   ·exact ⟨_,rfl,rfl⟩
   cases hq)
 generalize γ 5=b5 at hS3
 refine As ?_ hS3
 clear hS3 hS2 hx hk2 hS1
 refine aa (ae (ae (ai (Cb (aj Z) (Cb (am 3 Z Z Z) (Cb (a9 Z) (Cc Z (Cf (aa ?_)))))))))
 refine aw (cv (Γ' := [(0,_),(3,_),(4,_),(5,_),(28,_),(29,_),(30,_)]) BW (SubM.refl _) ?_)
 refine bO (σ:=Nat) (Γk := [(0,_),(3,_),(4,_),(5,_),(28,_),(29,_)]) BW (fun i => [(30,one (.int .i64 (i:Nat)))]) (fun i M0=>(M0.set 1 (aH (some b2) 58 .one n n (fun q=>if q<i then ni c (kZ p G q) else bQ)))) (fun i=>i≤n) (fun i=>n - i) (0) (Nat.zero_le _) BX (.keep Ca (.keep (kn fun q hq=>by rw [if_neg (Nat.not_lt_zero q)]; exact o5 _) (.keep Ca (.keep Ca (.nil))))) (fun i hi => ?_)
 refine cg (Γ' := [(30,_),(0,_),(3,_),(4,_),(5,_),(28,_),(29,_)]) (M' := [_,_,_,_]) Z Z ?_
 by_cases hi2:i<n
 ·refine ae (ai (Cb (sT X (bD Z Z)) (Cf (aa (ae (aM Z (ay (aa (ae ?_)))))))))
  refine aw (ae (ai (Cc Z (Cb (aI Z Z X) (Cb (aY Z) (Cd Z (Cd Z (Cf (aa ?_)))))))))
  refine ae (ae (ai (Cc Z (Cb (a9 Z) (Cb (aj Z) (Cb (am 3 Z Z Z) (Cb (sF X (ek Z Z)) (Cf (aa ?_)))))))))
  refine aD Z (ay (aa (ae ?_)))
  refine A8 6 5 c (fun j=>41+j) (fun j=>match j with | 0 => .pointer (some ⟨b5,0+2,none⟩) | 1=>slV (some b2) n n | 2 => .int .i64 (i:Nat) | 3 => .pointer (some ⟨b3,0+1,none⟩) | _ => .int .i64 (c:Nat)) (fun j=>match j with | 1 => [0] | 4 => [3] | 5 => [4] | _ => [])
   [(0,one (.int .u64 (p:Nat))),(3,one (.pointer (some ⟨b3,0,none⟩))),(4,one (.pointer (some ⟨b4,0,none⟩))),(5,one (.pointer (some ⟨b5,0,none⟩))),(6,one (.int .i64 (i:Nat))),(7,ei c (G i)),(28,slT .one n (fun i=>ei c (G i))),(29,one (.int .i64 (n:Nat))),(30,one (.int .i64 (i:Nat)))]
   bH Y U U V Z BZ
   (fun j hj hne => ?_) Z Z Z Z Z X Z (fun br => ?_)
  ·match j,hj,hne with
   | 0, _, _ => exact ⟨_, rfl, fun M' hM' => by rcases hM' with rfl | ⟨b, rfl⟩ <;> exact .plain (aj Z) Z Z (Nat.le_of_ble_eq_true Z)⟩
   | 1, _, _ => exact ⟨_, rfl, fun M' hM' => by
     rcases hM' with rfl | ⟨b,rfl⟩
     ·exact .plain (am 0 Z Z Z) Z Z (Nat.le_of_ble_eq_true Z)
     ·exact .plain (am 1 Z Z Z) Z Z (Nat.le_of_ble_eq_true Z)⟩
   | 2, _, _ => exact ⟨_, rfl, fun M' hM' => by rcases hM' with rfl | ⟨b, rfl⟩ <;> exact .plain (ab Z) Z Z (Nat.le_of_ble_eq_true Z)⟩
   | 3, _, _ => exact ⟨_, rfl, fun M' hM' => by rcases hM' with rfl | ⟨b, rfl⟩ <;> exact .plain (aj Z) Z Z (Nat.le_of_ble_eq_true Z)⟩
   | 4, _, _ => exact ⟨_, rfl, fun M' hM' => by
     rcases hM' with rfl | ⟨b,rfl⟩
     ·exact .plain (am 3 Z Z Z) Z Z (Nat.le_of_ble_eq_true Z)
     ·exact .plain (am 4 Z Z Z) Z Z (Nat.le_of_ble_eq_true Z)⟩
   | 5, _, h => exact absurd Z h
  refine Cb (ar Z Z X) ?_
  (refine au 2 Z Z Z ?_ Z ?_;omega)
  refine Cf (aa (ae (ai (Cc Z (Cb (a9 Z) (Cc Z (Cf (aa (aw ?_)))))))))
  refine cv (Γ' := [(0,_),(3,_),(4,_),(5,_),(6,_),(28,_),(29,_),(30,_),(48,_),(49,_),(50,_)]) BW (SubM.refl _) ?_
  refine bO (σ:=Nat) (Γk := [(0,_),(3,_),(4,_),(5,_),(6,_),(28,_),(29,_),(30,_),(48,_),(49,_)]) BW (fun j => [(50,one (.int .i64 (j:Nat)))]) (fun j M0=>(M0.set 0 (aH (some br) 47 .one c c (fun q=>one (.int .u64 ((if q<j then kZ p G i q else 0:Nat))))))) (fun j=>j≤c) (fun j=>c - j) (0) (Nat.zero_le _) BX (.keep Ca (.keep Ca (.keep Ca (.keep Ca (.keep Ca (.nil)))))) (fun j hj => ?_)
  refine cg (Γ' := [(50,_),(0,_),(3,_),(4,_),(5,_),(6,_),(28,_),(29,_),(30,_),(48,_),(49,_)]) (M' := [_,_,_,_,_]) Z Z ?_
  by_cases hjc:j<c
  ·have hre:=jY p (G i j) hp0 X (hG i j)
   refine ae (ai (Cb (sT X (bD Z Z)) (Cf (aa (ae (aM Z (ay (aa (ae ?_)))))))))
   refine aw (ae (ai (Cc Z (Cb (aI Z Z X) (Cb (aY Z) ?_)))))
   refine aN (T:=28) Z (ltN Z) (fun b9 => ?_)
   refine Cd Z (az 0 Z Z Z Z Z (leN Z) Z (Cf (aa (tr 16 9 bH Y U (Cb (aj Z) (Cb (am 2 Z Z Z) (Cc Z (Cb (ar Z Z X) (Cb (aC.le' (bM 3 Z Z hi2) (jI (by unfold upd;rw [if_pos Z]))) ?_)))))))))
   refine Cc Z (Cc Z (Cb (am 0 Z Z Z) ?_))
   refine Cb (ao (hre) Z ⟨A,A,Cg⟩) ?_
   refine Cf (Cb (ar Z Z X) ?_)
   (refine au 1 Z Z Z ?_ Z ?_;omega)
   refine Cf (aK (aa (ai (Cb (bU _ 1 Z Z X) (Cc Z (Cf ?_))))))
   refine aX (j+1) X X BX (.drop (.keep (vA (G:=kZ p G i) (H:=fun _=>0)) (.keep Ca (.keep Ca (.keep Ca (.keep Ca (.nil)))))))
  ·refine ae (ai (Cb (sF X (bD Z Z)) (Cf (aa (ae (aD Z (a8 (ax (ax ?_)))))))))
   refine aL (aK (aa (ai (Cb (bU _ 1 Z Z X) (Cc Z (Cf ?_))))))
   refine fW [_] (List.Perm.refl _) (.keep (p8.refl _) (.keep (xO (j:=j) List.mem_cons_self X) (EntM.refl _))) (uE.refl _) ?_
   refine aX (i+1) X X BX (.keep Ca (.keep Ca (.keep Ca (.keep Ca (.nil)))))
 ·have hin:i=n:=by omega
  subst hin
  refine ae (ai (Cb (sF X (bD Z Z)) (Cf (aa (ae (aD Z (a8 (ax (ax ?_)))))))))
  refine aL (aa (ae (ai (Cb (bI 0 Z Z) (bX 2 Z Z Z Z (Cf (aa (aG ?_))))))))
  refine fW [_] (zv _ _ _) (.keep (p8.refl _) (.keep (p8.box (cs' := [(0, .one,one (.int .u64 (p:Nat))),(1, .one,one (.int .i64 (c:Nat))),(2, .one,slT .one i (fun q=>ni c (kZ p G q)))]) (.cons (by simp) (Ent.refl _) (.cons (by simp) (Ent.refl _) (.cons List.mem_cons_self (Ent.slE List.mem_cons_self (fun q hq=>Ent.le (by rw [if_pos hq]; exact VT.le_refl _))) .nil)))) (.keep (p8.refl _) .nil))) (uE.refl _) ?_
  refine aV Tryz.results51 (.cellW 1 Z Z A)
end Tor
end
section
namespace Tor
open Go Go.RowKit Go.Proofs
variable [Tor.Co.Kc]
theorem zw {p:Int} {n:Nat} {f g:Nat→Int} (h : ∀ i,i<n→p∣f i - g i):p∣Lin.smZ n f - Lin.smZ n g:=by
 induction n with
 | zero => exact ⟨0, by simp [Lin.smZ]⟩
 | succ n ih =>
  have:=Int.dvd_add (ih fun i hi=>h i X) (h n X)
  rw [Lin.smZ,Lin.smZ]
  rwa [show Lin.smZ n f+f n - (Lin.smZ n g+g n)=Lin.smZ n f - Lin.smZ n g+(f n - g n) by omega]
theorem pE {p a b c d:Int} (h1:p∣a - b) (h2:p∣c - d):p∣a*c - b*d:=by
 obtain ⟨x,hx⟩:=h1
 obtain ⟨y,hy⟩:=h2
 exact ⟨x*c+b*y,by grind⟩
theorem la {p:Int} : ∀ {n:Nat} {F G:Nat→Nat→Int},(∀ i j,i<n→j<n→p∣F i j - G i j)→p∣Lin.bY n F - Lin.bY n G
 | 0, _, _, _ => ⟨0, by simp [Lin.bY]⟩
 | n + 1, F, G, h => by
  rw [Lin.bY,Lin.bY]
  refine zw fun j hj=>pE (pE ⟨0,by simp⟩ (h 0 j X hj)) (la fun i k hi hk=>h _ _ X (by unfold Lin.skip;split <;> omega))
theorem zx {n p q:Nat} (hne:p≠q) (hp:p<n) (hq:q<n) (c:Int) (F:Nat→Nat→Int):Lin.bY n (fun i j=>if i=p then F i j+c*F q j else F i j)=Lin.bY n F:=by
 have h:((Lin.bY n (fun i j=>if i=p then F i j+c*F q j else F i j):Int):Rat)=((Lin.bY n F:Int):Rat):=by
  rw [Lin.dE,Lin.dE, ← Lin.vh Lin.pu hne hp hq (c:Rat) (fun i j=>(F i j:Rat))]
  refine Lin.cx fun i j _ _ => ?_
  split
  ·rw [Rat.intCast_add,Rat.intCast_mul]
  ·rfl
 exact_mod_cast h
theorem pF {n p q:Nat} (hne:p≠q) (hp:p<n) (hq:q<n) (F:Nat→Nat→Int):Lin.bY n (swp p q F) = - Lin.bY n F:=by
 have h:((Lin.bY n (swp p q F):Int):Rat)=((- Lin.bY n F:Int):Rat):=by
  rw [Rat.intCast_neg,Lin.dE,Lin.dE, ← Lin.xd Lin.pu hne hp hq]
  exact Lin.cx fun i j _ _=>by
   unfold swp Lin.tw
   split
   ·rfl
   ·split <;> rfl
 exact_mod_cast h
theorem nk {n:Nat} {F:Nat→Nat→Int} (h : ∀ i,i<n→F (i+1) 0=0):Lin.bY (n+1) F=F 0 0*Lin.bY n (fun i j=>F (i+1) (j+1)):=by
 have h:((Lin.bY (n+1) F:Int):Rat)=((F 0 0*Lin.bY n (fun i j=>F (i+1) (j+1)):Int):Rat):=by
  rw [Rat.intCast_mul,Lin.dE,Lin.dE]
  exact Lin.vi fun i hi=>by rw [h i hi]; rfl
 exact_mod_cast h
theorem vB {n:Nat} {F:Nat→Nat→Int} (h : ∀ i,i<n+1→F i 0=0):Lin.bY (n+1) F=0:=by
 rw [nk fun i hi=>h (i+1) X,h 0 X,Int.zero_mul]
theorem oo (m:Nat) (G:Nat→Nat→Int) (c:Nat→Int) : ∀ t,t≤m→Lin.bY (m+1) (fun i j=>if 0<i∧i≤t then G i j+c i*G 0 j else G i j)=Lin.bY (m+1) G
 | 0, _ => Lin.fp fun i j _ _ => by rw [if_neg X]
 | t + 1, ht => by
  rw [← oo m G c t X, ← zx (n:=m+1) (p:=t+1) (q:=0) X X X (c (t+1)) (fun i j=>if 0<i∧i≤t then G i j+c i*G 0 j else G i j)]
  refine Lin.fp fun i j _ _ => ?_
  by_cases e:i=t+1
  ·subst e
   rw [if_pos X,if_pos Z,if_neg X,if_neg X]
  ·rw [if_neg e]
   by_cases h2:0<i∧i≤t
   ·rw [if_pos X,if_pos h2]
   ·rw [if_neg X,if_neg h2]
def iM (k:Nat) (W:Nat→Nat→Nat):Nat→Nat→Int:=fun i j=>(W (k+i) (k+j):Int)
def j7 (p n:Nat) (F:Nat→Nat→Int) (k:Nat) (W:Nat→Nat→Nat) (d:Nat):Prop:=(p:Int)∣Lin.bY n F - (d:Int)*Lin.bY (n - k) (iM k W)
def iB (p inv k:Nat) (W:Nat→Nat→Nat):Nat→Nat→Nat:=fun h j=>if k<h then (W h j+(0+p - inv*W h k % p) % p*W k j % p) % p else W h j
variable {p n k d inv:Nat} {F:Nat→Nat→Int} {W:Nat→Nat→Nat}
theorem j7.start (h : ∀ i j,i<n→j<n→(p:Int)∣F i j - (W i j:Int)):j7 p n F 0 W 1:=by
 unfold j7
 rw [Int.natCast_one,Int.one_mul,Nat.sub_zero]
 exact la fun i j hi hj=>by unfold iM;rw [Nat.zero_add,Nat.zero_add]; exact h i j hi hj
theorem j7.done (h:j7 p n F n W d):(p:Int)∣Lin.bY n F - (d:Int):=by
 unfold j7 at h
 rwa [Nat.sub_self,Lin.bY,Int.mul_one] at h
theorem j7.zero (h:j7 p n F k W d) (hk:k<n) (hz : ∀ i,k≤i→i<n→W i k=0):(p:Int)∣Lin.bY n F:=by
 unfold j7 at h
 obtain ⟨m,hm⟩ : ∃ m,n - k=m+1:=⟨n - k - 1,by omega⟩
 rw [hm,vB fun i hi=>by unfold iM;rw [Nat.add_zero,hz _ X X]; rfl,Int.mul_zero,Int.sub_zero] at h
 exact h
theorem rc (hd:d<p):(p:Int)∣(((0+p - d) % p:Nat):Int) - (-(d:Int)):=by
 have h:=gH (0+p - d) p
 refine jh h ⟨1,?_⟩
 omega
theorem j7.swap {i:Nat} (h:j7 p n F k W d) (hd:d<p) (hi:i<n) (hki:k<i):j7 p n F k (swp k i W) ((0+p - d) % p):=by
 unfold j7 at h ⊢
 have e:Lin.bY (n - k) (iM k (swp k i W)) = - Lin.bY (n - k) (iM k W):=by
  rw [← pF (n:=n - k) (p:=0) (q:=i - k) X X X]
  refine Lin.fp fun a b _ _ => ?_
  unfold iM swp
  by_cases h1:a=0
  ·subst h1
   rw [if_pos X,if_pos Z]
   show (W i (k+b):Int)=(W (k+(i - k)) (k+b):Int)
   rw [show k+(i - k)=i by omega]
  ·rw [if_neg X,if_neg h1]
   by_cases h2:a=i - k
   ·rw [if_pos X,if_pos h2]; rfl
   ·rw [if_neg X,if_neg h2]
 rw [e]
 have h2:=nj (- Lin.bY (n - k) (iM k W)) (pD (rc hd))
 refine jh h ?_
 rwa [Int.neg_mul_neg] at h2
theorem j7.step (h:j7 p n F k W d) (hk:k<n) (hinv:inv*W k k % p=1 % p) (hp:0<p):j7 p n F (k+1) (iB p inv k W) (d*W k k % p):=by
 unfold j7 at h ⊢
 obtain ⟨m,hm⟩ : ∃ m,n - k=m+1:=⟨n - k - 1,by omega⟩
 have hm':n - (k+1)=m:=by omega
 rw [hm] at h
 rw [hm']
 let c:Nat→Int:=fun i => -((inv*W (k+i) k:Nat):Int)
 rw [← oo m (iM k W) c m (Nat.le_refl _)] at h
 let H:Nat→Nat→Int:=fun i j=>if i=0 then (W k (k+j):Int) else if j=0 then 0 else (iB p inv k W (k+i) (k+j):Int)
 have hH:(p:Int)∣Lin.bY (m+1) (fun i j=>if 0<i∧i≤m then iM k W i j+c i*iM k W 0 j else iM k W i j) - Lin.bY (m+1) H:=by
  refine la fun i j hi hj => ?_
  show (p:Int)∣_ - (if i=0 then _ else if j=0 then _ else _)
  by_cases hi0:i=0
  ·subst hi0
   rw [if_neg X,if_pos Z]
   exact ⟨0,by unfold iM;simp⟩
  ·rw [if_pos X,if_neg hi0]
   have e1:(p:Int)∣(iB p inv k W (k+i) (k+j):Int) - (iM k W i j+c i*iM k W 0 j):=by
    unfold iB
    rw [if_pos X]
    refine jh (gH _ p) ?_
    have h1:=gH ((0+p - inv*W (k+i) k % p) % p*W k (k+j)) p
    have h2:(p:Int)∣(((0+p - inv*W (k+i) k % p) % p:Nat):Int) - c i:=jh (rc (Nat.mod_lt _ hp)) (by
     obtain ⟨x,hx⟩:=gH (inv*W (k+i) k) p
     exact ⟨-x,by show -(((inv*W (k+i) k % p:Nat)):Int) - (-((inv*W (k+i) k:Nat):Int))=_;rw [Int.mul_neg, ← hx]; omega⟩)
    have h3:=jh (b:=((((0+p - inv*W (k+i) k % p) % p:Nat):Int)*(W k (k+j):Int))) (by rw [← Int.natCast_mul]; exact h1) (nj (W k (k+j):Int) h2)
    unfold iM
    rw [Int.natCast_add,Nat.add_zero]
    rwa [show ((W (k+i) (k+j):Nat):Int)+(((0+p - inv*W (k+i) k % p) % p*W k (k+j) % p:Nat):Int) - ((W (k+i) (k+j):Int)+c i*(W k (k+j):Int))=(((0+p - inv*W (k+i) k % p) % p*W k (k+j) % p:Nat):Int) - c i*(W k (k+j):Int) by omega]
   by_cases hj0:j=0
   ·subst hj0
    rw [if_pos Z,Int.sub_zero]
    show (p:Int)∣(W (k+i) (k+0):Int) + -((inv*W (k+i) k:Nat):Int)*(W (k+0) (k+0):Int)
    rw [Nat.add_zero,Int.natCast_mul]
    have h4:(p:Int)∣((inv*W k k:Nat):Int) - 1:=jh (pD (gH (inv*W k k) p)) (by rw [hinv]; exact gH 1 p)
    obtain ⟨x,hx⟩:=h4
    rw [Int.natCast_mul] at hx
    exact ⟨-x*(W (k+i) k:Int),by grind⟩
   ·rw [if_neg hj0]; exact pD e1
 have hF:Lin.bY (m+1) H=(W k k:Int)*Lin.bY m (iM (k+1) (iB p inv k W)):=by
  rw [nk fun i _=>by show (if i+1=0 then _ else if (0:Nat)=0 then _ else _)=(0:Int);rw [if_neg X,if_pos Z]]
  congr 1
  refine Lin.fp fun i j _ _ => ?_
  show (if i+1=0 then _ else if j+1=0 then _ else _)=_
  rw [if_neg X,if_neg X]
  unfold iM
  rw [show k+(i+1)=k+1+i by omega,show k+(j+1)=k+1+j by omega]
 rw [hF] at hH
 refine jh (jh h (pE (a:=(d:Int)) (b:=(d:Int)) ⟨0,by simp⟩ hH)) ?_
 have h5:=nj (Lin.bY m (iM (k+1) (iB p inv k W))) (pD (gH (d*W k k) p))
 rw [Int.natCast_mul] at h5
 rwa [Int.mul_assoc] at h5
end Tor
end
section
namespace Tor
open Go Go.RowKit Go.Proofs
variable [Tor.Co.Kc]
theorem xP {α:Type} {a b:Nat} {W:Nat→α} : swp a b W=swp b a W:=funext fun i=>by
 unfold swp
 by_cases h1:i=a
 ·by_cases h2:i=b
  ·rw [if_pos h1,if_pos h2, ← h1, ← h2]
  ·rw [if_pos h1,if_neg h2,if_pos h1]
 ·by_cases h2:i=b
  ·rw [if_neg h1,if_pos h2,if_pos h2]
  ·rw [if_neg h1,if_neg h2,if_neg h2,if_neg h1]
section
variable {P:Program} {E:Env} {Γ:Ctx} {M:Mem} {dd:Option Tmp} {ty:TypeId} {pos:String} {af:Array Edge} {gd:Option (Nat × Bool)}
theorem xQ {T e:TypeId} {L:Lay} [hS:SliceOf P T e] [hL:LayOf P e L] {x lo:Operand} {b n l:Nat} {kl:IntKind} (hx:aB Γ x=some (one (slV (some b) n n))) (hlo:aB Γ lo=some (one (.int kl (l:Int))))
  (h1:l≤n):aC P E Γ M ⟨dd, .slice T x (some lo) none none,ty,pos,af,gd⟩ (one (ws b (if n=l then 0 else l) L.sz (n - l) (n - l))) :=
 aC.ofRun fun a w hb hf=>by
  have hx':a.eval x = .slice (some ⟨b,0,none⟩) n n:=hf x _ (by simp [Op.operands]) hx
  have hl':a.eval lo = .int kl l:=hf lo _ (by simp [Op.operands]) hlo
  refine ⟨_,?_,rfl⟩
  have e3:=cK (P:=P) (k:=kl) (iv:=(l:Int)) (y:=n) (code := .sliceB) X X w
  have hbd:(Instr.sliceBounds true n n (some (.int kl l)) none none).run P w = .ok (l,n,n) w:=by
   simp [Instr.sliceBounds,Sem.run_bind,e3]
  by_cases hne:n=l
  ·subst hne
   simp [execOp,hx',hl',Instr.sliceAt,Sem.run_bind,aO hS.und,Result.andThen_ok,Instr.slice,hbd,cn (L:=L),Sem.run_pure]
  ·simp [execOp,hx',hl',Instr.sliceAt,Sem.run_bind,aO hS.und,Result.andThen_ok,Instr.slice,hbd,cn (L:=L),Sem.run_pure,hne,cX]
end
theorem BD {c n h k p v:Nat} {B C:Nat→Nat} {W:Nat→Nat→Nat} (hlt:k<h):Own.le (rwO 47 .one c n (fun q=>if q=h then B h else B q) (fun q=>if q=h then C h else C q) (fun q=>if q=h then (fun j=>one (.int .u64 ((W h j+(0+p - v*W h k % p) % p*W k j % p) % p:Nat))) else (fun j=>one (.int .u64 ((if q<h then iB p v k W q j else W q j:Nat))))) (fun q=>if q=h then false else (if q=h then true else (if q=k then true else false)))) (rwO 47 .one c n B C (fun a q=>one (.int .u64 ((if a<h+1 then iB p v k W a q else W a q:Nat)))) (fun q=>if q=k then true else false)) :=
 j6 (fun q _=>by
  by_cases e:q=h
  ·rw [if_pos e,if_neg X]
  ·rw [if_neg e,if_neg e]) (fun q _ _=>by
  by_cases e:q=h
  ·rw [if_pos e,if_pos e,e]; exact ⟨rfl,rfl⟩
  ·rw [if_neg e,if_neg e]; exact ⟨rfl,rfl⟩) fun q j _ _ _=>by
  by_cases e:q=h
  ·subst e;rw [if_pos Z,if_pos (Nat.lt_succ_self q)]; unfold iB;rw [if_pos hlt]; exact VT.le_refl _
  ·rw [if_neg e]
   by_cases h2:q<h
   ·rw [if_pos h2,if_pos X]; exact VT.le_refl _
   ·rw [if_neg h2,if_neg X]; exact VT.le_refl _
theorem A9 {c n h k p v:Nat} {B C:Nat→Nat} {W:Nat→Nat→Nat} (hn:n≤h):Own.le (rwO 47 .one c n (fun q=>if q=k then B k else B q) (fun q=>if q=k then C k else C q) (fun q=>if q=k then (fun j=>one (.int .u64 (W k j:Nat))) else (fun j=>one (.int .u64 ((if q<h then iB p v k W q j else W q j:Nat))))) (fun q=>if q=k then false else (if q=k then true else false))) (lW c n B C (iB p v k W) (fun _=>false)) :=
 j6 (fun q _=>by
  by_cases e:q=k
  ·rw [if_pos e]
  ·rw [if_neg e,if_neg e]) (fun q _ _=>by
  by_cases e:q=k
  ·rw [if_pos e,if_pos e,e]; exact ⟨rfl,rfl⟩
  ·rw [if_neg e,if_neg e]; exact ⟨rfl,rfl⟩) fun q j hq _ _=>by
  by_cases e:q=k
  ·subst e;rw [if_pos Z]; unfold sK iB;rw [if_neg (Nat.lt_irrefl q)]; exact VT.le_refl _
  ·rw [if_neg e,if_pos X]; exact VT.le_refl _
theorem xR {p v k a q:Nat} {W:Nat→Nat→Nat} (h:a<k+1):iB p v k W a q=W a q:=by
 unfold iB;rw [if_neg X]
theorem zy {c n k p v:Nat} {B C:Nat→Nat} {W:Nat→Nat→Nat} {S:Nat→Bool} : Own.le (rwO 47 .one c n B C (sK W) S) (rwO 47 .one c n B C (fun a q=>one (.int .u64 ((if a<k+1+0 then iB p v k W a q else W a q:Nat)))) S) :=
 j6 (fun _ _=>rfl) (fun _ _ _=>⟨rfl,rfl⟩) fun a q _ _ _=>av (by
  by_cases h:a<k+1+0
  ·rw [if_pos h,xR X]
  ·rw [if_neg h])
theorem Ba {p v k n a b:Nat} {W:Nat→Nat→Nat} (hp:0<p) (h : ∀ i j,i<n→j<n→W i j<p) (ha:a<n) (hb:b<n):iB p v k W a b<p:=by
 unfold iB
 split
 ·exact Nat.mod_lt _ hp
 ·exact h a b ha hb
theorem xS {W:Nat→Nat→Nat} {n k e:Nat} (h : ¬ ∀ q,k≤q→q<n→W q e=0) : ∃ i,sL W n k e i:=by
 have key : ∀ q,k≤q→q<n→W q e≠0 → ∃ i,sL W n k e i:=by
  intro q
  induction q using Nat.strongRecOn with
  | _ q ih =>
   intro h1 h2 h3
   by_cases hx : ∃ q',k≤q'∧q'<q∧W q' e≠0
   ·obtain ⟨q',a,b,c⟩:=hx
    exact ih q' b a X c
   ·exact ⟨q,h1,h2,h3,fun q' a b=>Classical.byContradiction fun c=>hx ⟨q',a,b,c⟩⟩
 exact Classical.byContradiction fun hn=>h fun q h1 h2=>Classical.byContradiction fun h3=>hn (key q h1 h2 h3)
attribute [local irreducible] J PJ aC one slT bL bE bw exT cj eP aT aH slV VT.le Ret bQ dz ed
attribute [local irreducible] rwO
theorem sM (bz n c k e:Nat) (B C:Nat→Nat) (W:Nat→Nat→Nat) (he:e<c) (hn:n≤1048576) (hk:k≤n) (hz0 : ∀ q,k≤q→q<n→W q e=0) :
  OkI Tryz.prog 73 [one (slV (some bz) n n),one (.int .i64 (k:Nat)),one (.int .i64 (e:Nat))] [pC bz n c B C,lW c n B C W (fun _=>false)]
   (fun _:Unit=>one (.int .i64 (-1))) (fun _ => [pC bz n c B C,lW c n B C W (fun _=>false)]):=by
 refine OkI.enter Tryz.func73 Z Tryz.ntmps73 Z (fun w O => ?_)
 refine ae (ai (Cd Z (Cf (aa (ii (ae (ai (Cd Z (Cf ?_)))))))))
 refine aa (ae (lY (aa (ae (ae (ai (Cc Z (Cd Z (Cf ?_)))))))))
 refine aa (aw (cv (Γ' := [(0,_),(2,_),(6,_),(7,_),(8,_)]) BW (SubM.refl _) ?_))
 refine bO (σ:=Nat) (Γk := [(0,_),(2,_),(6,_)]) BW (fun j => [(8,one (.int .i64 (j:Nat))),(7,one (.int .i64 (-1)))]) (fun j M0=>M0) (fun j=>k≤j∧j≤n) (fun j=>n - j) (k) (⟨Nat.le_refl _,hk⟩) BX (.keep Ca (.keep Ca (.nil))) (fun j hj => ?_)
 refine cg (Γ' := [(8,_),(7,_),(0,_),(2,_),(6,_)]) (M' := [_,_]) Z Z ?_
 obtain ⟨hj1,hj2⟩:=hj
 by_cases hjn:j<n
 ·have hz:(W j e:Int)=0:=by have:=hz0 j hj1 hjn;omega
  refine ae (ae (ai (Cc Z (Cc Z (Cb (iP Z) (Cb (sT X (bD Z Z)) (Cf (aa (aM Z ?_)))))))))
  refine ay (aa (ae (aw (ae (ai (Cc Z (Cc Z (Cb (ar Z Z X) (Cb (bM 0 Z Z X) ?_)))))))))
  refine Cc Z (Cb (ar Z Z X) (Cb (jg 1 Z Z X Z X) (Cf (aa (aw (ae (ai (Cb (sT (by assumption) (cQ Z Z)) (Cd Z ?_)))))))))
  refine Cf (aa (aM Z (ay (aK (aK (aa (ai (Cc Z (Cb (bU _ 1 Z Z X) ?_)))))))))
  refine Cd Z (Cf ?_)
  refine aX (j+1) X X BX (.keep Ca (.keep Ca (.nil)))
 ·have:j=n:=by omega
  subst this
  refine ae (ae (ai (Cc Z (Cc Z (Cb (iP Z) (Cb (sF X (bD Z Z)) (Cf (aa (aD Z ?_)))))))))
  refine a8 (ax (ax (aL (aa (ae (ai (Cc Z (Cd Z (Cf ?_)))))))))
  refine aa (aG (el ?_))
  exact tG (σ:=Unit) () Tryz.results73 (.tmp Z A) (SubM.refl _)
def sN (p n:Nat) (W:Nat→Nat→Nat):Nat:=(Lin.bY n (fun i j=>(W i j:Int)) % (p:Int)).toNat
theorem xT (p n:Nat) (W:Nat→Nat→Nat) (hpr:bg p=true) (hp2:2≤p) (hp:p<2147483648) (hinv:A7 p) (hW : ∀ i j,i<n→j<n→W i j<p) (hn:n≤1024):Ok Tryz.prog 50 [A6 p n n W] (bw [one (.int .u64 (sN p n W:Nat)),one (.int .i64 0)]):=by
 have hv:=vt p n n W hpr hp hW X X
 have hco:=ra n n W (fun h=>h) X X
 refine Ok.enter Tryz.func50 Z Tryz.ntmps50 Z (fun w O => ?_)
 refine ae (ai ?_)
 refine bJ Z Z (ltN Z) (fun b1 => ?_)
 refine Cd Z (Cd Z (Cf (aa (ae (ae (ai (Cb (bI 0 Z Z) ?_)))))))
 refine Cb (ao (hv) Z ⟨A,Cg⟩) ?_
 refine Cb (c8 Z) (Cc Z (Ce (aj Z) (Ce (am 0 Z Z Z) (Ce (a9 Z) (Ce (aj Z) (Ce (am 0 Z Z Z) (Ce (sF X (ek Z Z)) (Cb (bT Z Z) (Cf ?_)))))))))
 refine aa (aD Z (ay (aa (ae (ai (Cb (aj Z) (Cb (am 0 Z Z Z) ?_)))))))
 refine gM (hco) Z ⟨A,Cg⟩ Z Z (fun s26 => ?_)
 refine Cd Z (Cd Z (Cf (aa (ae (ae (ai (Cc Z (Cb (iP Z) (Cc Z ?_)))))))))
 refine Cf (aa (aw ?_))
 obtain ⟨B0,C0,bz⟩:=s26
 dsimp only
 refine cv (Γ' := [(1,_),(2,_),(3,_),(4,_),(5,_),(28,_),(29,_)]) BW (SubM.refl _) ?_
 refine bO (σ:=Nat × Nat × (Nat→Nat) × (Nat→Nat) × (Nat→Nat→Nat)) (Γk := [(1,_),(4,_),(28,_)]) BW (fun s => [(29,one (.int .i64 (s.1:Nat))),(5,one (.int .u64 (s.2.1:Nat)))]) (fun s M0=>((M0.set 0 (pC bz n n s.2.2.1 s.2.2.2.1)).set 1 (lW n n s.2.2.1 s.2.2.2.1 s.2.2.2.2 (fun _=>false)))) (fun s=>s.1≤n∧s.2.1<p∧j7 p n (fun i j=>(W i j:Int)) s.1 s.2.2.2.2 s.2.1 ∧ ∀ i j,i<n→j<n→s.2.2.2.2 i j<p) (fun s=>n - s.1) ((0,1,B0,C0,W)) (⟨Nat.zero_le _,(by show 1<p;omega),j7.start (fun i j _ _=>⟨0,by simp⟩),hW⟩) BX (.keep Ca (.keep Ca (.keep Ca (.nil)))) (fun s hs => ?_)
 refine cg (Γ' := [(29,_),(5,_),(1,_),(4,_),(28,_)]) (M' := [_,_,_]) Z Z ?_
 obtain ⟨k,d,B,C,W'⟩:=s
 obtain ⟨hk,hd,hI,hlt⟩:=hs
 dsimp only at hk hd hI hlt ⊢
 by_cases hkn:k<n
 ·by_cases hz : ∀ q,k≤q→q<n→W' q k=0
  ·have hR:sN p n W=0:=by
    unfold sN
    rw [Int.emod_eq_zero_of_dvd (hI.zero hkn hz)]; rfl
   rw [hR]
   have hse:=sM bz n n k k B C W' X X X hz
   refine ae (ai (Cb (sT X (bD Z Z)) (Cf (aa (ae (aM Z (ay (aa (ae ?_)))))))))
   refine aw (ae (ai (Cc Z (Cd Z (Cf (aa (ae (ai (Cc Z ?_)))))))))
   refine Cc Z (Cc Z ?_)
   refine ir (Min := [_,_]) (Kp := [_]) hse Z ⟨A,A,A,Cg⟩ (List.Perm.refl _) Z Z (fun _ => ?_)
   refine Cd Z (Cf (aa (ae (ae (ai (Cc Z (Cb (sT X (bD Z Z)) (Cf (aa ?_)))))))))
   refine aM Z (ae (ai (Cd Z (Cd Z (Cf (aa (aG (aJ (bp ?_)))))))))
   refine aJ (aJ (bp (aJ ?_)))
   refine db Tryz.results50 (.tmp Z A) (.tmp Z A)
  ·obtain ⟨i,hf⟩:=xS hz
   obtain ⟨f1,f2,f3,f4⟩:=hf
   have hse:=vz bz n n k k i B C W' X X ⟨f1,f2,f3,f4⟩
   refine ae (ai (Cb (sT X (bD Z Z)) (Cf (aa (ae (aM Z (ay (aa (ae ?_)))))))))
   refine aw (ae (ai (Cc Z (Cd Z (Cf (aa (ae (ai (Cc Z ?_)))))))))
   refine Cc Z (Cc Z ?_)
   refine ir (Min := [_,_]) (Kp := [_]) hse Z ⟨A,A,A,Cg⟩ (List.Perm.refl _) Z Z (fun _ => ?_)
   refine Cd Z (Cf (aa (ae (ae (ai (Cc Z (Cb (sF X (bD Z Z)) (Cf (aa ?_)))))))))
   refine aD Z (ay (aa (ae (ae (ai (Cc Z (Cc Z (Cb (ek Z Z) (Cf ?_)))))))))
   refine aa ?_
   refine yB (σ:=Nat × (Nat→Nat) × (Nat→Nat) × (Nat→Nat→Nat)) (Γk := [(1,_),(4,_),(6,_),(28,_),(29,_)]) BY (fun s => [(5,one (.int .u64 (s.1:Nat)))])
    (fun s _ => [pC bz n n s.2.1 s.2.2.1,lW n n s.2.1 s.2.2.1 s.2.2.2 (fun _=>false),aT b1 95 3 [(0, .one,one (.int .u64 (p:Nat))),(1, .one,one (.int .i64 (n:Nat))),(2, .one,slT .one n (fun i=>ni n (W i)))]])
    (fun s=>s.1<p∧j7 p n (fun i j=>(W i j:Int)) k s.2.2.2 s.1∧(∀ i j,i<n→j<n→s.2.2.2 i j<p)∧s.2.2.2 k k≠0) ?_ (fun s hs => ?_)
   ·by_cases hik:i=k
    ·subst hik
     refine l6 Z X (ay ?_)
     refine cE (d,B,C,W') ⟨hd,hI,hlt,f3⟩ BY (SubM.refl _)
    ·have hki:k<i:=by omega
     have hsu:=pc p 0 d X X X X
     refine l5 Z X (ae ?_)
     apply r8 (Γ1 := [(1,_),(4,_),(5,_),(6,_),(7,_),(28,_),(29,_)]) (M1 := [_,_,_]) 12 7 [2,3] [] bH Y U
     ·refine Cc Z (Cc Z (Cc Z (Cc Z (Cc Z (Cc Z (Cb (ar Z Z X) (Cb (bM 0 Z Z X) (Cc Z (Cc Z ?_)))))))))
      refine Cb (ar Z Z X) (Cb (bM 0 Z Z X) (Cf ?_))
      refine Ay (Γa := [(1,_),(4,_),(5,_),(6,_),(7,_),(28,_),(29,_),(41,_),(42,_),(48,_),(52,_)]) (Γb := [(1,_),(4,_),(5,_),(6,_),(7,_),(28,_),(29,_),(41,_),(42,_),(48,_),(52,_),(44,_)]) (Γc := [(1,_),(4,_),(5,_),(6,_),(7,_),(28,_),(29,_),(41,_),(42,_),(48,_),(52,_),(43,_)]) (Γd := [(1,_),(4,_),(5,_),(6,_),(7,_),(28,_),(29,_),(41,_),(42,_),(48,_),(52,_),(43,_),(44,_)]) (rem := [12,13,14,15]) Z BY Z BY Z BY Z BY Z ?_ ?_ ?_ ?_
      ·refine dw (r1 := [3,12,13,14,15]) (r2 := [2,12,13,14,15]) (r3 := [2,3,13,14,15]) (i:=2) (j:=3) (k:=12) Y Z Z Z Z Z Z ?_ ?_ ?_ iZ.nil
       refine Cc Z (Cf ?_)
       refine ⟨rfl,?_⟩
       refine bm (rem' := [12,13,14,15]) (rem'' := [3,13,14,15]) (i:=3) (j:=12) Y Z Z Z Z ?_ ?_ iZ.nil
       refine Cc Z (Cf ?_)
       refine ⟨rfl,?_⟩
       refine ak (rem' := [13,14,15]) (i:=12) Y Z Z ?_ iZ.nil
       refine Cb (ar Z Z X) (Cf ?_)
       refine ⟨rfl,?_⟩
       refine ak (rem' := [14,15]) (i:=13) Y Z Z ?_ iZ.nil
       (refine au 0 Z Z Z ?_ Z ?_;omega)
       refine Cf ?_
       refine ⟨rfl,?_⟩
       refine ak (rem' := [15]) (i:=14) Y Z Z ?_ iZ.nil
       refine Cb (ar Z Z X) (Cf ?_)
       refine ⟨rfl,?_⟩
       refine ak (rem' := []) (i:=15) Y Z Z ?_ iZ.nil
       (refine au 0 Z Z Z ?_ Z ?_;omega)
       refine Cf ?_
       refine ⟨rfl,?_⟩
       refine aE BZ (SubM.refl _) iZ.nil
       refine Cb (ar Z Z X) (Cf ?_)
       refine ⟨rfl,?_⟩
       refine bm (rem' := [13,14,15]) (rem'' := [3,14,15]) (i:=3) (j:=13) Y Z Z Z Z ?_ ?_ iZ.nil
       refine Cc Z (Cf ?_)
       refine ⟨rfl,?_⟩
       refine ak (rem' := [14,15]) (i:=13) Y Z Z ?_ iZ.nil
       (refine au 0 Z Z Z ?_ Z ?_;omega)
       refine Cf ?_
       refine ⟨rfl,?_⟩
       refine ak (rem' := [15]) (i:=14) Y Z Z ?_ iZ.nil
       refine Cb (ar Z Z X) (Cf ?_)
       refine ⟨rfl,?_⟩
       refine ak (rem' := []) (i:=15) Y Z Z ?_ iZ.nil
       (refine au 0 Z Z Z ?_ Z ?_;omega)
       refine Cf ?_
       refine ⟨rfl,?_⟩
       refine aE BZ (SubM.refl _) iZ.nil
       (refine au 0 Z Z Z ?_ Z ?_;omega)
       refine Cf ?_
       refine ⟨rfl,?_⟩
       refine ak (rem' := [14,15]) (i:=3) Y Z Z ?_ iZ.nil
       refine Cc Z (Cf ?_)
       refine ⟨rfl,?_⟩
       refine ak (rem' := [15]) (i:=14) Y Z Z ?_ iZ.nil
       refine Cb (ar Z Z X) (Cf ?_)
       refine ⟨rfl,?_⟩
       refine ak (rem' := []) (i:=15) Y Z Z ?_ iZ.nil
       (refine au 0 Z Z Z ?_ Z ?_;omega)
       refine Cf ?_
       refine ⟨rfl,?_⟩
       refine aE BZ (SubM.refl _) iZ.nil
       refine Cc Z (Cf ?_)
       refine ⟨rfl,?_⟩
       refine bm (rem' := [12,13,14,15]) (rem'' := [2,13,14,15]) (i:=2) (j:=12) Y Z Z Z Z ?_ ?_ iZ.nil
       refine Cc Z (Cf ?_)
       refine ⟨rfl,?_⟩
       refine ak (rem' := [13,14,15]) (i:=12) Y Z Z ?_ iZ.nil
       refine Cb (ar Z Z X) (Cf ?_)
       refine ⟨rfl,?_⟩
       refine ak (rem' := [14,15]) (i:=13) Y Z Z ?_ iZ.nil
       (refine au 0 Z Z Z ?_ Z ?_;omega)
       refine Cf ?_
       refine ⟨rfl,?_⟩
       refine ak (rem' := [15]) (i:=14) Y Z Z ?_ iZ.nil
       refine Cb (ar Z Z X) (Cf ?_)
       refine ⟨rfl,?_⟩
       refine ak (rem' := []) (i:=15) Y Z Z ?_ iZ.nil
       (refine au 0 Z Z Z ?_ Z ?_;omega)
       refine Cf ?_
       refine ⟨rfl,?_⟩
       refine aE BZ (SubM.refl _) iZ.nil
       refine Cb (ar Z Z X) (Cf ?_)
       refine ⟨rfl,?_⟩
       refine bm (rem' := [13,14,15]) (rem'' := [2,14,15]) (i:=2) (j:=13) Y Z Z Z Z ?_ ?_ iZ.nil
       refine Cc Z (Cf ?_)
       refine ⟨rfl,?_⟩
       refine ak (rem' := [14,15]) (i:=13) Y Z Z ?_ iZ.nil
       (refine au 0 Z Z Z ?_ Z ?_;omega)
       refine Cf ?_
       refine ⟨rfl,?_⟩
       refine ak (rem' := [15]) (i:=14) Y Z Z ?_ iZ.nil
       refine Cb (ar Z Z X) (Cf ?_)
       refine ⟨rfl,?_⟩
       refine ak (rem' := []) (i:=15) Y Z Z ?_ iZ.nil
       (refine au 0 Z Z Z ?_ Z ?_;omega)
       refine Cf ?_
       refine ⟨rfl,?_⟩
       refine aE BZ (SubM.refl _) iZ.nil
       (refine au 0 Z Z Z ?_ Z ?_;omega)
       refine Cf ?_
       refine ⟨rfl,?_⟩
       refine ak (rem' := [14,15]) (i:=2) Y Z Z ?_ iZ.nil
       refine Cc Z (Cf ?_)
       refine ⟨rfl,?_⟩
       refine ak (rem' := [15]) (i:=14) Y Z Z ?_ iZ.nil
       refine Cb (ar Z Z X) (Cf ?_)
       refine ⟨rfl,?_⟩
       refine ak (rem' := []) (i:=15) Y Z Z ?_ iZ.nil
       (refine au 0 Z Z Z ?_ Z ?_;omega)
       refine Cf ?_
       refine ⟨rfl,?_⟩
       refine aE BZ (SubM.refl _) iZ.nil
       refine Cb (ar Z Z X) (Cf ?_)
       refine ⟨rfl,?_⟩
       refine dw (r1 := [3,13,14,15]) (r2 := [2,13,14,15]) (r3 := [2,3,14,15]) (i:=2) (j:=3) (k:=13) Y Z Z Z Z Z Z ?_ ?_ ?_ iZ.nil
       refine Cc Z (Cf ?_)
       refine ⟨rfl,?_⟩
       refine bm (rem' := [13,14,15]) (rem'' := [3,14,15]) (i:=3) (j:=13) Y Z Z Z Z ?_ ?_ iZ.nil
       refine Cc Z (Cf ?_)
       refine ⟨rfl,?_⟩
       refine ak (rem' := [14,15]) (i:=13) Y Z Z ?_ iZ.nil
       (refine au 0 Z Z Z ?_ Z ?_;omega)
       refine Cf ?_
       refine ⟨rfl,?_⟩
       refine ak (rem' := [15]) (i:=14) Y Z Z ?_ iZ.nil
       refine Cb (ar Z Z X) (Cf ?_)
       refine ⟨rfl,?_⟩
       refine ak (rem' := []) (i:=15) Y Z Z ?_ iZ.nil
       (refine au 0 Z Z Z ?_ Z ?_;omega)
       refine Cf ?_
       refine ⟨rfl,?_⟩
       refine aE BZ (SubM.refl _) iZ.nil
       (refine au 0 Z Z Z ?_ Z ?_;omega)
       refine Cf ?_
       refine ⟨rfl,?_⟩
       refine ak (rem' := [14,15]) (i:=3) Y Z Z ?_ iZ.nil
       refine Cc Z (Cf ?_)
       refine ⟨rfl,?_⟩
       refine ak (rem' := [15]) (i:=14) Y Z Z ?_ iZ.nil
       refine Cb (ar Z Z X) (Cf ?_)
       refine ⟨rfl,?_⟩
       refine ak (rem' := []) (i:=15) Y Z Z ?_ iZ.nil
       (refine au 0 Z Z Z ?_ Z ?_;omega)
       refine Cf ?_
       refine ⟨rfl,?_⟩
       refine aE BZ (SubM.refl _) iZ.nil
       refine Cc Z (Cf ?_)
       refine ⟨rfl,?_⟩
       refine bm (rem' := [13,14,15]) (rem'' := [2,14,15]) (i:=2) (j:=13) Y Z Z Z Z ?_ ?_ iZ.nil
       refine Cc Z (Cf ?_)
       refine ⟨rfl,?_⟩
       refine ak (rem' := [14,15]) (i:=13) Y Z Z ?_ iZ.nil
       (refine au 0 Z Z Z ?_ Z ?_;omega)
       refine Cf ?_
       refine ⟨rfl,?_⟩
       refine ak (rem' := [15]) (i:=14) Y Z Z ?_ iZ.nil
       refine Cb (ar Z Z X) (Cf ?_)
       refine ⟨rfl,?_⟩
       refine ak (rem' := []) (i:=15) Y Z Z ?_ iZ.nil
       (refine au 0 Z Z Z ?_ Z ?_;omega)
       refine Cf ?_
       refine ⟨rfl,?_⟩
       refine aE BZ (SubM.refl _) iZ.nil
       (refine au 0 Z Z Z ?_ Z ?_;omega)
       refine Cf ?_
       refine ⟨rfl,?_⟩
       refine ak (rem' := [14,15]) (i:=2) Y Z Z ?_ iZ.nil
       refine Cc Z (Cf ?_)
       refine ⟨rfl,?_⟩
       refine ak (rem' := [15]) (i:=14) Y Z Z ?_ iZ.nil
       refine Cb (ar Z Z X) (Cf ?_)
       refine ⟨rfl,?_⟩
       refine ak (rem' := []) (i:=15) Y Z Z ?_ iZ.nil
       (refine au 0 Z Z Z ?_ Z ?_;omega)
       refine Cf ?_
       refine ⟨rfl,?_⟩
       refine aE BZ (SubM.refl _) iZ.nil
       (refine au 0 Z Z Z ?_ Z ?_;omega)
       refine Cf ?_
       refine ⟨rfl,?_⟩
       refine bm (rem' := [3,14,15]) (rem'' := [2,14,15]) (i:=2) (j:=3) Y Z Z Z Z ?_ ?_ iZ.nil
       refine Cc Z (Cf ?_)
       refine ⟨rfl,?_⟩
       refine ak (rem' := [14,15]) (i:=3) Y Z Z ?_ iZ.nil
       refine Cc Z (Cf ?_)
       refine ⟨rfl,?_⟩
       refine ak (rem' := [15]) (i:=14) Y Z Z ?_ iZ.nil
       refine Cb (ar Z Z X) (Cf ?_)
       refine ⟨rfl,?_⟩
       refine ak (rem' := []) (i:=15) Y Z Z ?_ iZ.nil
       (refine au 0 Z Z Z ?_ Z ?_;omega)
       refine Cf ?_
       refine ⟨rfl,?_⟩
       refine aE BZ (SubM.refl _) iZ.nil
       refine Cc Z (Cf ?_)
       refine ⟨rfl,?_⟩
       refine ak (rem' := [14,15]) (i:=2) Y Z Z ?_ iZ.nil
       refine Cc Z (Cf ?_)
       refine ⟨rfl,?_⟩
       refine ak (rem' := [15]) (i:=14) Y Z Z ?_ iZ.nil
       refine Cb (ar Z Z X) (Cf ?_)
       refine ⟨rfl,?_⟩
       refine ak (rem' := []) (i:=15) Y Z Z ?_ iZ.nil
       (refine au 0 Z Z Z ?_ Z ?_;omega)
       refine Cf ?_
       refine ⟨rfl,?_⟩
       refine aE BZ (SubM.refl _) iZ.nil
      ·refine bm (rem' := [12,13,14,15]) (rem'' := [2,13,14,15]) (i:=2) (j:=12) Y Z Z Z Z ?_ ?_ iZ.nil
       refine Cc Z (Cf ?_)
       refine ⟨rfl,?_⟩
       refine ak (rem' := [13,14,15]) (i:=12) Y Z Z ?_ iZ.nil
       refine Cb (ar Z Z X) (Cf ?_)
       refine ⟨rfl,?_⟩
       refine ak (rem' := [14,15]) (i:=13) Y Z Z ?_ iZ.nil
       (refine au 0 Z Z Z ?_ Z ?_;omega)
       refine Cf ?_
       refine ⟨rfl,?_⟩
       refine ak (rem' := [15]) (i:=14) Y Z Z ?_ iZ.nil
       refine Cb (ar Z Z X) (Cf ?_)
       refine ⟨rfl,?_⟩
       refine ak (rem' := []) (i:=15) Y Z Z ?_ iZ.nil
       (refine au 0 Z Z Z ?_ Z ?_;omega)
       refine Cf ?_
       refine ⟨rfl,?_⟩
       refine aE BZ (SubM.refl _) iZ.nil
       refine Cb (ar Z Z X) (Cf ?_)
       refine ⟨rfl,?_⟩
       refine bm (rem' := [13,14,15]) (rem'' := [2,14,15]) (i:=2) (j:=13) Y Z Z Z Z ?_ ?_ iZ.nil
       refine Cc Z (Cf ?_)
       refine ⟨rfl,?_⟩
       refine ak (rem' := [14,15]) (i:=13) Y Z Z ?_ iZ.nil
       (refine au 0 Z Z Z ?_ Z ?_;omega)
       refine Cf ?_
       refine ⟨rfl,?_⟩
       refine ak (rem' := [15]) (i:=14) Y Z Z ?_ iZ.nil
       refine Cb (ar Z Z X) (Cf ?_)
       refine ⟨rfl,?_⟩
       refine ak (rem' := []) (i:=15) Y Z Z ?_ iZ.nil
       (refine au 0 Z Z Z ?_ Z ?_;omega)
       refine Cf ?_
       refine ⟨rfl,?_⟩
       refine aE BZ (SubM.refl _) iZ.nil
       (refine au 0 Z Z Z ?_ Z ?_;omega)
       refine Cf ?_
       refine ⟨rfl,?_⟩
       refine ak (rem' := [14,15]) (i:=2) Y Z Z ?_ iZ.nil
       refine Cc Z (Cf ?_)
       refine ⟨rfl,?_⟩
       refine ak (rem' := [15]) (i:=14) Y Z Z ?_ iZ.nil
       refine Cb (ar Z Z X) (Cf ?_)
       refine ⟨rfl,?_⟩
       refine ak (rem' := []) (i:=15) Y Z Z ?_ iZ.nil
       (refine au 0 Z Z Z ?_ Z ?_;omega)
       refine Cf ?_
       refine ⟨rfl,?_⟩
       refine aE BZ (SubM.refl _) iZ.nil
      ·refine bm (rem' := [12,13,14,15]) (rem'' := [3,13,14,15]) (i:=3) (j:=12) Y Z Z Z Z ?_ ?_ iZ.nil
       refine Cc Z (Cf ?_)
       refine ⟨rfl,?_⟩
       refine ak (rem' := [13,14,15]) (i:=12) Y Z Z ?_ iZ.nil
       refine Cb (ar Z Z X) (Cf ?_)
       refine ⟨rfl,?_⟩
       refine ak (rem' := [14,15]) (i:=13) Y Z Z ?_ iZ.nil
       (refine au 0 Z Z Z ?_ Z ?_;omega)
       refine Cf ?_
       refine ⟨rfl,?_⟩
       refine ak (rem' := [15]) (i:=14) Y Z Z ?_ iZ.nil
       refine Cb (ar Z Z X) (Cf ?_)
       refine ⟨rfl,?_⟩
       refine ak (rem' := []) (i:=15) Y Z Z ?_ iZ.nil
       (refine au 0 Z Z Z ?_ Z ?_;omega)
       refine Cf ?_
       refine ⟨rfl,?_⟩
       refine aE BZ (SubM.refl _) iZ.nil
       refine Cb (ar Z Z X) (Cf ?_)
       refine ⟨rfl,?_⟩
       refine bm (rem' := [13,14,15]) (rem'' := [3,14,15]) (i:=3) (j:=13) Y Z Z Z Z ?_ ?_ iZ.nil
       refine Cc Z (Cf ?_)
       refine ⟨rfl,?_⟩
       refine ak (rem' := [14,15]) (i:=13) Y Z Z ?_ iZ.nil
       (refine au 0 Z Z Z ?_ Z ?_;omega)
       refine Cf ?_
       refine ⟨rfl,?_⟩
       refine ak (rem' := [15]) (i:=14) Y Z Z ?_ iZ.nil
       refine Cb (ar Z Z X) (Cf ?_)
       refine ⟨rfl,?_⟩
       refine ak (rem' := []) (i:=15) Y Z Z ?_ iZ.nil
       (refine au 0 Z Z Z ?_ Z ?_;omega)
       refine Cf ?_
       refine ⟨rfl,?_⟩
       refine aE BZ (SubM.refl _) iZ.nil
       (refine au 0 Z Z Z ?_ Z ?_;omega)
       refine Cf ?_
       refine ⟨rfl,?_⟩
       refine ak (rem' := [14,15]) (i:=3) Y Z Z ?_ iZ.nil
       refine Cc Z (Cf ?_)
       refine ⟨rfl,?_⟩
       refine ak (rem' := [15]) (i:=14) Y Z Z ?_ iZ.nil
       refine Cb (ar Z Z X) (Cf ?_)
       refine ⟨rfl,?_⟩
       refine ak (rem' := []) (i:=15) Y Z Z ?_ iZ.nil
       (refine au 0 Z Z Z ?_ Z ?_;omega)
       refine Cf ?_
       refine ⟨rfl,?_⟩
       refine aE BZ (SubM.refl _) iZ.nil
      ·refine ak (rem' := [13,14,15]) (i:=12) Y Z Z ?_ iZ.nil
       refine Cb (ar Z Z X) (Cf ?_)
       refine ⟨rfl,?_⟩
       refine ak (rem' := [14,15]) (i:=13) Y Z Z ?_ iZ.nil
       (refine au 0 Z Z Z ?_ Z ?_;omega)
       refine Cf ?_
       refine ⟨rfl,?_⟩
       refine ak (rem' := [15]) (i:=14) Y Z Z ?_ iZ.nil
       refine Cb (ar Z Z X) (Cf ?_)
       refine ⟨rfl,?_⟩
       refine ak (rem' := []) (i:=15) Y Z Z ?_ iZ.nil
       (refine au 0 Z Z Z ?_ Z ?_;omega)
       refine Cf ?_
       refine ⟨rfl,?_⟩
       refine aE BZ (SubM.refl _) iZ.nil
     ·refine fx (ConvM.le zt) (fx (ConvM.cons (xG f2 hkn)) (fx (ConvM.cons (ConvM.le xM)) (aa (ai (Cb (aj Z) (Cb (am 2 Z Z Z) (Cc Z ?_)))))))
      refine Cb (ao (hsu) Z ⟨A,A,A,Cg⟩) ?_
      refine Cd Z (Cf ?_)
      refine cE ((0+p - d) % p,swp i k B,swp i k C,swp i k W') ⟨Nat.mod_lt _ X,?_,fun a b ha hb => ?_,?_⟩ BY (SubM.refl _)
      ·show j7 p n _ k (swp i k W') ((0+p - d) % p)
       rw [xP]; exact hI.swap hd f2 hki
      ·show swp i k W' a b<p
       unfold swp
       split
       ·exact hlt _ _ X hb
       ·split
        ·exact hlt _ _ f2 hb
        ·exact hlt _ _ ha hb
      ·show swp i k W' k k≠0
       rw [AR]; exact f3
   ·obtain ⟨d,B,C,W'⟩:=s
    obtain ⟨hd,hI,hlt,hnz⟩:=hs
    dsimp only at hd hI hlt hnz ⊢
    clear hse f1 f2 f3 f4 hz
    have hmu:=gb p d (W' k k) X X X (by have:=hlt k k hkn hkn;omega)
    have hin:=tV p (W' k k) hp2 X hnz (hlt k k hkn hkn)
    have hin1:=hinv (W' k k) (hlt k k hkn hkn) hnz
    have hinlt:W' k k^(p - 2) % p<p:=Nat.mod_lt _ X
    generalize W' k k^(p - 2) % p=v at *
    have hst:=hI.step hkn (hin1.trans (Nat.mod_eq_of_lt X).symm) X
    refine aa (ae (bG 11 bH Y U (Cb (aj Z) (Cb (am 2 Z Z Z) (Cc Z (Cc Z (Cc Z (Cb (ar Z Z X) (Cb (bM 0 Z Z X) ?_)))))))))
    refine Cc Z (Cb (ar Z Z X) (Cb (jg 1 Z Z X Z X) ?_))
    refine Cb (ao (hmu) Z ⟨A,A,A,Cg⟩) ?_
    refine Cf (Cd Z (Cf (aa (ae (bG 14 bH Y U (Cb (aj Z) (Cb (am 2 Z Z Z) (Cc Z (Cc Z ?_)))))))))
    refine Cb (ar Z Z X) (Cb (bM 0 Z Z X) (Cc Z (Cb (ar Z Z X) (Cb (jg 1 Z Z X Z X) ?_))))
    refine Cb (ao (hin) Z ⟨A,A,Cg⟩) ?_
    refine Cc Z (Cb (aA Z Z) (Cb (aA Z Z) (Cd Z (Cf (Cd Z (Cf (aa (ae (ai ?_)))))))))
    refine Cc Z (Cc Z (Cb (bU _ 1 Z Z X) (Cb (xQ Z Z X) ?_)))
    obtain ⟨j0,hj0⟩ : ∃ j0,j0=if n=k+1 then 0 else k+1:=⟨_,rfl⟩
    rw [← hj0]
    refine Cb (Ak Z) (Cc Z (Cf (aa (aw (iW (ConvM.cons (kX hkn Z)) (cv (Γ' := [(1,_),(4,_),(5,_),(6,_),(8,_),(28,_),(29,_),(86,_),(87,_),(88,_)]) BW (SubM.refl _) ?_))))))
    refine bO (σ:=Nat) (Γk := [(1,_),(4,_),(5,_),(6,_),(8,_),(28,_),(29,_),(86,_),(87,_)]) BW (fun t => [(88,one (.int .i64 (t:Nat)))]) (fun t M0=>(M0.set 2 (rwO 47 .one n n B C (fun a q=>one (.int .u64 ((if a<k+1+t then iB p v k W' a q else W' a q:Nat)))) (fun q=>if q=k then true else false)))) (fun t=>t≤n - (k+1)) (fun t=>n - (k+1) - t) (0) (Nat.zero_le _) BX (.keep Ca (.keep Ca (.keep (zy) (.keep Ca (.nil))))) (fun t ht => ?_)
    refine cg (Γ' := [(88,_),(1,_),(4,_),(5,_),(6,_),(8,_),(28,_),(29,_),(86,_),(87,_)]) (M' := [_,_,_,_]) Z Z ?_
    by_cases ht2:t<n - (k+1)
    ·have hj1:j0=k+1:=by rw [hj0,if_neg X]
     subst hj1
     have hh2:k+1+t<n:=by omega
     have hhk : ¬ k+1+t=k:=by omega
     refine iW (ConvM.cons (ConvM.cons (kX hh2 (if_neg hhk)))) ?_
     refine iW (ConvM.cons (ConvM.cons (ConvM.le (b:=aH (some (B (k+1+t))) 47 .one (C (k+1+t)) n (fun q=>one (.int .u64 (W' (k+1+t) q:Nat)))) (bV fun q hq=>by rw [if_neg (Nat.lt_irrefl _)])))) ?_
     have h1:=hlt (k+1+t) k hh2 hkn
     have hmu2:=gb p v (W' (k+1+t) k) X X X X
     have hmlt:v*W' (k+1+t) k % p<p:=Nat.mod_lt _ X
     have hsu:=pc p 0 (v*W' (k+1+t) k % p) X X X X
     have had:=xI p n (B (k+1+t)) (B k) (C (k+1+t)) (C k) ((0+p - v*W' (k+1+t) k % p) % p) (W' (k+1+t)) (W' k) X X (Nat.mod_lt _ X) (fun q hq=>hlt _ q hh2 hq) (fun q hq=>hlt k q hkn hq) X
     refine ae (ai (Cb (sT X (bD Z Z)) (Cf (aa (ae (aM Z (ay (aa (ae ?_)))))))))
     refine aw (ae (ai (Cb (dl Z Z X) (Cb (bM 0 Z Z X) (Cd Z (Cf (aa (ae (bG 8 bH Y U ?_)))))))))
     refine Cb (aj Z) (Cb (am 4 Z Z Z) (Cc Z (Cc Z (Cc Z (Cb (ar Z Z X) (Cb (bM 2 Z Z X) ?_))))))
     refine Cb (ao (hmu2) Z ⟨A,A,A,Cg⟩) ?_
     refine Cf (Cd Z (Cf (aa (tr 16 11 bH Y U (Cb (aj Z) (Cb (am 4 Z Z Z) (Cc Z (Cc Z (Cc Z ?_)))))))))
     refine Cb (ar Z Z X) (Cb (bM 0 Z Z X) (Cb (aj Z) (Cb (am 4 Z Z Z) (Cc Z ?_))))
     refine Cb (ao (hsu) Z ⟨A,A,A,Cg⟩) ?_
     refine Cf ?_
     refine ir (Min := [_,_]) (Kp := [_,_,_]) had Z ⟨A,A,A,A,Cg⟩ (xK _ _ _ _) Z Z (fun _ => ?_)
     refine Cf (aK (aa (ai (Cb (bU _ 1 Z Z X) (Cc Z (Cf (fx (.ofPerm (xL _ _ _ _)) (fx (ConvM.cons (ConvM.cons (kY hh2 (if_pos Z)))) ?_))))))))
     refine aX (t+1) X X BX (.keep Ca (.keep Ca (.keep (BD X) (.keep Ca (.nil)))))
    ·have hst2:=hst
     refine ae (ai (Cb (sF X (bD Z Z)) (Cf (aa (ae (aD Z (a8 (ax (ax ?_)))))))))
     refine aL (aK (aa (ai (Cb (bU _ 1 Z Z X) (Cc Z (Cf (fx (ConvM.cons (kY hkn (if_pos Z))) ?_)))))))
     refine aX ((k+1,d*W' k k % p,B,C,iB p v k W')) (⟨hkn,Nat.mod_lt _ X,hst,fun a b ha hb=>Ba X hlt ha hb⟩) X BX (.keep Ca (.keep (A9 X) (.keep Ca (.nil))))
 ·have hkn2:k=n:=by omega
  have hR:sN p n W=d:=by
   subst hkn2
   have h1:=hI.done
   unfold sN
   rw [Int.emod_emod_of_dvd _ (Int.dvd_refl _) |>.symm,Int.emod_eq_emod_iff_emod_sub_eq_zero.2 (Int.emod_eq_zero_of_dvd h1),Int.emod_emod_of_dvd _ (Int.dvd_refl _),Int.emod_eq_of_lt X X]; rfl
  rw [hR]
  refine ae (ai (Cb (sF X (bD Z Z)) (Cf (aa (ae (aD Z (a8 (ax (ax ?_)))))))))
  refine aL (aa (ae (ai (Cc Z (Cd Z (Cd Z (Cf (aa (aG ?_)))))))))
  refine db Tryz.results50 (.tmp Z A) (.tmp Z A)
end Tor
end
section
namespace Tor
open Go Go.RowKit Go.Proofs
variable [Tor.Co.Kc]
def iC (n:Nat) (F:Nat→Nat→Int) (p:Nat):Nat:=(Lin.bY n F % (p:Int)).toNat
theorem uh {n:Nat} {F:Nat→Nat→Int} {p:Nat} (hp:0<p):iC n F p<p:=by
 unfold iC
 have:=Int.emod_nonneg (Lin.bY n F) (show (p:Int)≠0 by omega)
 have:=Int.emod_lt_of_pos (Lin.bY n F) (show 0<(p:Int) by omega)
 omega
theorem xU {p n:Nat} {F:Nat→Nat→Int} (hp:0<p):sN p n (kZ p F)=iC n F p:=by
 unfold sN iC
 have h:(p:Int)∣Lin.bY n (fun i j=>(kZ p F i j:Int)) - Lin.bY n F:=la fun i j _ _=>by
  unfold kZ
  rw [Int.toNat_of_nonneg (Int.emod_nonneg _ X)]
  exact ⟨-(F i j / (p:Int)),by have:=Int.mul_ediv_add_emod (F i j) (p:Int);rw [Int.mul_neg]; omega⟩
 rw [Int.emod_eq_emod_iff_emod_sub_eq_zero.2 (Int.emod_eq_zero_of_dvd h)]
theorem rf {x y:Value} : VT.le (bE 2 [(0, .one,one x),(1, .one,one y)]) (one (.agg #[x,y])):=fun v h ⟨c,hv,hs,_,hc⟩=>by
 obtain ⟨x',h1,h2⟩:=hc (0, .one,one x) List.mem_cons_self
 obtain ⟨y',h3,h4⟩:=hc (1, .one,one y) (List.mem_cons_of_mem _ List.mem_cons_self)
 have h1':c[0]? = some x':=h1
 have h3':c[1]? = some y':=h3
 have e2:x'=x:=h2
 have e4:y'=y:=h4
 subst e2;subst e4
 obtain ⟨l⟩:=c
 match l,hs,h1',h3' with
 | [a, b], _, h1, h3 => simp at h1 h3; rw [h1, h3] at hv; exact hv
attribute [local irreducible] J PJ aC one slT bL bE bw exT cj eP aT aH slV VT.le Ret bQ dz ed
attribute [local irreducible] aU
theorem nl (p n:Nat) (F:Nat→Nat→Int) (hpr:bg p=true) (hp2:2≤p) (hp:p<2147483648) (hinv:A7 p) (hF : ∀ i j,cf (F i j)) (hn:n≤1024) :
  Ok Tryz.prog 21 [cr n n F,one (.int .u64 (p:Nat))] (bw [one (.agg #[.int .u64 (p:Nat), .int .u64 (iC n F p:Nat)]),one (.int .i64 0)]):=by
 have h1:=fo p X
 rw [hpr] at h1
 have h2:=rb p n n F hpr X hp X X hF
 have h3:=xT p n (kZ p F) hpr hp2 hp hinv (fun i j _ _=>zu X i j) hn
 rw [xU X] at h3
 generalize iC n F p=r at *
 unfold cr at *
 refine Ok.enter Tryz.func21 Z Tryz.ntmps21 Z (fun w O => ?_)
 refine ae (ai ?_)
 refine bJ Z Z (ltN Z) (fun b2 => ?_)
 refine bZ (T:=50) Z Z Z (fun b4 => ?_)
 refine Cd Z (Cf (aa (ae (ae (ai (Cb (aj Z) (Cb (am 1 Z Z Z) (Cb (aj Z) (Cb (am 1 Z Z Z) ?_)))))))))
 refine Cb (sF X (ek Z Z)) (Cf (aa (aD Z (ay (aa (ae (ae (ai (Cc Z ?_)))))))))
 refine Cb (ao (h1) Z ⟨A,Cg⟩) ?_
 refine Cb (c8 Z) (Cf (aa (aD Z (ay (aa (ae (ai (Cc Z (Cb (bI 1 Z Z) ?_)))))))))
 refine Cb (ao (h2) Z ⟨A,A,Cg⟩) ?_
 refine Cb (ao (h3) Z ⟨A,Cg⟩) ?_
 refine Cc Z (Cb (aA Z Z) (Cb (aA Z Z) (Cd Z (Cd Z (Cf (aa (ae (ae (ai ?_)))))))))
 refine Cc Z (Cb (sF X (ek Z Z)) (Cf (aa (aD Z (ay (aa (ae (ai (Cc Z ?_)))))))))
 refine Cc Z (stB Z Z Z (BuildK.cons Z Z Z (BuildK.cons Z Z Z (BuildK.nil (bX 0 Z Z Z Z (Cd Z (Cf (aa (aG ?_)))))))))
 refine db Tryz.results21 (.cellW 0 Z Z ?_) (.tmp Z A)
 exact rf
theorem rg (p n:Nat) (F:Nat→Nat→Int) (hpr:bg p=false) (hp:p<18446744073709551616):Ok Tryz.prog 21 [cr n n F,one (.int .u64 (p:Nat))] (bw [one (.agg #[.int .u64 0, .int .u64 0]),one (.int .i64 40)]):=by
 have h1:=fo p X
 rw [hpr] at h1
 unfold cr at *
 refine Ok.enter Tryz.func21 Z Tryz.ntmps21 Z (fun w O => ?_)
 refine ae (ai ?_)
 refine bJ Z Z (ltN Z) (fun b2 => ?_)
 refine bZ (T:=50) Z Z Z (fun b4 => ?_)
 refine Cd Z (Cf (aa (ae (ae (ai (Cb (aj Z) (Cb (am 1 Z Z Z) (Cb (aj Z) (Cb (am 1 Z Z Z) ?_)))))))))
 refine Cb (sF X (ek Z Z)) (Cf (aa (aD Z (ay (aa (ae (ae (ai (Cc Z ?_)))))))))
 refine Cb (ao (h1) Z ⟨A,Cg⟩) ?_
 refine Cb (c8 Z) (Cf (aa (aM Z (ae (ai (stB Z Z Z (BuildK.nil (bX 0 Z Z Z Z (Cd Z ?_)))))))))
 refine Cf (aa (aG (aJ ?_)))
 refine db Tryz.results21 (.cellW 0 Z Z ?_) (.tmp Z A)
 exact rf
end Tor
end
section
namespace Tor
open Lin (Pr)
variable [Tor.Co.Kc]
def vC (m:Nat) (l:List (Nat × Nat)):Nat:=l.foldl (fun m p=>m*p.1) m
theorem rh : ∀ (l:List (Nat × Nat)) (m x:Nat),(x∣m ∨ ∃ q∈l,q.1=x)→x∣vC m l
 | [], _, _, h => by
  rcases h with h | ⟨q,hq,_⟩
  ·exact h
  ·cases hq
 | q :: l, m, x, h => by
  refine rh l (m*q.1) x ?_
  rcases h with h | ⟨r,hr,rfl⟩
  ·exact .inl (Nat.dvd_trans h (Nat.dvd_mul_right _ _))
  ·rcases List.mem_cons.1 hr with rfl | hr
   ·exact .inl (Nat.dvd_mul_left _ _)
   ·exact .inr ⟨r,hr,rfl⟩
theorem ri : ∀ (l:List (Nat × Nat)) (m:Nat),0<m→(∀ q∈l,0<q.1)→0<vC m l
 | [], _, h, _ => h
 | q :: l, m, h, hl => ri l (m * q.1) (Nat.mul_pos h (hl q List.mem_cons_self)) (fun r hr => hl r (List.mem_cons_of_mem _ hr))
theorem oq {l:List (Nat × Nat)} {p:Nat × Nat} (hp:p∈l):p.1∣iJ l:=rh l 1 _ (.inr ⟨p,hp,rfl⟩)
theorem Bb {p m:Nat} (hp2:2≤p) (h:m^(p - 1) % p=1):(m % p)*nA p (m % p) % p=1:=by
 have h0:m % p≠0:=by
  intro h0
  rw [Nat.pow_mod,h0,Nat.zero_pow X,Nat.zero_mod] at h
  cases h
 unfold nA
 rw [if_neg h0,Nat.mul_mod_mod, ← Nat.pow_succ']
 rw [show (p - 2).succ=p - 1 by omega, ← Nat.pow_mod]
 exact h
theorem zA {p v a m:Nat} (hp2:2≤p) (hv:v<p) (h:m^(p - 1) % p=1):(a+m*sc (a,m) (p,v)) % p=v:=by
 unfold sc
 dsimp only
 have h1:=Bb hp2 h
 have ha:=Nat.mod_lt a (show 0<p by omega)
 generalize hx:(v+p - a % p) % p=x
 generalize hi:nA p (m % p)=i at *
 have e1:m*(x*i % p) % p=x % p:=by
  rw [Nat.mul_mod_mod,show m*(x*i)=x*(m*i) by ac_rfl, ← Nat.mul_mod_mod, ← Nat.mod_mul_mod m i,h1,Nat.mul_one]
 rw [Nat.add_mod,e1, ← hx,Nat.mod_mod, ← Nat.add_mod]
 have e2:a % p+(v+p - a % p)=v+p:=by omega
 rw [Nat.add_mod,Nat.add_mod_mod]
 have e3:(a % p+(v+p - a % p)) % p=v:=by rw [e2,Nat.add_mod_right,Nat.mod_eq_of_lt hv]
 exact e3
theorem pG (l:List (Nat × Nat)) : ∀ i,i≤l.length→(cN (l.take i)).2=iJ (l.take i)
 | 0, _ => rfl
 | i + 1, hi => by
  have ih:=pG l i X
  unfold cN iJ at *
  rw [gE _ _ (0,0) hi,gE _ _ (0,0) hi]
  show ((l.take i).foldl gP (0,1)).2*_=_
  rw [ih]
structure Comb (l:List (Nat × Nat)) (x:Int):Prop where
 res : ∀ p∈l,x % (p.1:Int)=(p.2:Int)
 hi:x+x≤(iJ l:Int)
 lo : -(iJ l:Int)<x+x
theorem sO {p b:Nat} (hp:Pr p) (h : ¬ p∣b):b^(p - 1) % p=1:=by
 have h1:=hp.inverse h
 have h2:=hp.1
 rwa [← Nat.pow_succ',show (p - 2).succ=p - 1 by omega] at h1
structure PrimQ (l:List (Nat × Nat)):Prop where
 good : ∀ p∈l,Pr p.1∧p.1<2147483648∧p.2<p.1
 pb : ∀ p∈l,bg p.1=true
 nd:(l.map (·.1)).Nodup
theorem nm : ∀ (l:List (Nat × Nat)) (s:List Nat),dV s l=true↔(∀ p∈l,bg p.1=true∧p.2<p.1∧p.1 ∉ s)∧(l.map (·.1)).Nodup
 | [], s => by simp [dV]
 | p :: l, s => by
  rw [dV,List.map_cons,List.nodup_cons]
  by_cases h1:p.1∈s
  ·rw [if_pos h1]
   exact ⟨(fun h=>by cases h),fun h=>absurd h1 (h.1 p List.mem_cons_self).2.2⟩
  ·rw [if_neg h1]
   by_cases h2:bg p.1=false
   ·rw [if_pos h2]
    exact ⟨(fun h=>by cases h),fun h=>by have:=(h.1 p List.mem_cons_self).1;rw [h2] at this;cases this⟩
   ·rw [if_neg h2]
    by_cases h3:p.1≤p.2
    ·rw [if_pos h3]
     exact ⟨(fun h=>by cases h),fun h=>by have:=(h.1 p List.mem_cons_self).2.1;omega⟩
    ·rw [if_neg h3,nm l (s ++ [p.1])]
     constructor
     ·rintro ⟨h4,h5⟩
      refine ⟨fun q hq => ?_,fun hm => ?_,h5⟩
      ·rcases List.mem_cons.1 hq with rfl | hq
       ·exact ⟨by simpa using h2,by omega,h1⟩
       ·obtain ⟨k1,k2,k3⟩:=h4 q hq
        exact ⟨k1,k2,fun h=>k3 (List.mem_append.2 (.inl h))⟩
      ·obtain ⟨q,hq,e⟩:=List.mem_map.1 hm
       exact (h4 q hq).2.2 (List.mem_append.2 (.inr (by rw [e]; exact List.mem_singleton.2 Z)))
     ·rintro ⟨h4,h5,h6⟩
      refine ⟨fun q hq => ?_,h6⟩
      obtain ⟨k1,k2,k3⟩:=h4 q (List.mem_cons_of_mem _ hq)
      refine ⟨k1,k2,fun h => ?_⟩
      rcases List.mem_append.1 h with h | h
      ·exact k3 h
      ·exact h5 (List.mem_map.2 ⟨q,hq,List.mem_singleton.1 h⟩)
theorem Af {p q:Nat} (hp:Pr p) (hq:Pr q) (h:q≠p) : ¬ p∣q:=fun hd=>by
 rcases hq.2 p hd with e | e
 ·have:=hp.1;omega
 ·exact h e.symm
theorem ot {p:Nat} (hp:Pr p) : ∀ (l:List (Nat × Nat)) (m:Nat),(∀ q∈l,Pr q.1∧q.1≠p) → ¬ p∣m → ¬ p∣vC m l
 | [], _, _, h => h
 | q :: l, m, hl, h => by
  obtain ⟨h1,h2⟩:=hl q List.mem_cons_self
  refine ot hp l (m*q.1) (fun r hr=>hl r (List.mem_cons_of_mem _ hr)) (fun hd => ?_)
  rcases hp.mul hd with h3 | h3
  ·exact h h3
  ·exact Af hp h1 h2 h3
theorem ou : ∀ (l:List (Nat × Nat)) (m x:Nat),m∣x→(∀ q∈l,q.1∣x∧Nat.Coprime m q.1∧Pr q.1)→(l.map (·.1)).Nodup→vC m l∣x
 | [], _, _, h, _, _ => h
 | q :: l, m, x, h, hl, hnd => by
  obtain ⟨h1,h2,h3⟩:=hl q List.mem_cons_self
  rw [List.map_cons,List.nodup_cons] at hnd
  refine ou l (m*q.1) x (h2.mul_dvd_of_dvd_of_dvd h h1) (fun r hr => ?_) hnd.2
  obtain ⟨k1,k2,k3⟩:=hl r (List.mem_cons_of_mem _ hr)
  refine ⟨k1,Nat.Coprime.mul_left k2 ((k3.coprime (Af k3 h3 (fun e=>hnd.1 ?_))).symm),k3⟩
  exact e▸List.mem_map.2 ⟨r,hr,rfl⟩
theorem PrimQ.valid {l:List (Nat × Nat)} (h:PrimQ l):dV [] l=true:=(nm l []).2 ⟨fun p hp=>⟨h.pb p hp,(h.good p hp).2.2,by simp⟩,h.nd⟩
theorem PrimQ.pos {l:List (Nat × Nat)} (h:PrimQ l):0<iJ l:=ri l 1 U (fun q hq=>by have:=(h.good q hq).1.1;omega)
theorem PrimQ.allI {l:List (Nat × Nat)} (h:PrimQ l) {x:Int} (hx : ∀ p∈l,(p.1:Int)∣x):(iJ l:Int)∣x:=by
 rw [Int.ofNat_dvd_left]
 exact ou l 1 _ (Nat.one_dvd _) (fun q hq=>⟨by have:=hx q hq;rwa [Int.ofNat_dvd_left] at this,Nat.coprime_one_left _,(h.good q hq).1⟩) h.nd
theorem PrimQ.take {l:List (Nat × Nat)} (h:PrimQ l) (i:Nat):PrimQ (l.take i) :=
 ⟨fun p hp=>h.good p ((List.take_sublist _ _).subset hp),fun p hp=>h.pb p ((List.take_sublist _ _).subset hp),((List.take_sublist i l).map (·.1)).nodup h.nd⟩
theorem rj {l:List (Nat × Nat)} (h:PrimQ l) : ∀ i,i≤l.length → ∀ j,j<i→(cN (l.take i)).1 % (l.getD j (0,0)).1=(l.getD j (0,0)).2
 | 0, _, j, hj => absurd hj (Nat.not_lt_zero _)
 | i + 1, hi, j, hj => by
  have ih:=rj h i X
  have hs:=pG l i X
  have hst:cN (l.take (i+1))=gP (cN (l.take i)) (l.getD i (0,0)):=by unfold cN;rw [gE _ _ (0,0) hi]
  rw [hst]
  unfold gP
  dsimp only
  obtain ⟨g1,g3,g2⟩:=h.good _ (u7 hi)
  have hp2:=g1.1
  rcases Nat.lt_or_eq_of_le (Nat.lt_succ_iff.1 hj) with hlt | rfl
  ·have hd:(l.getD j (0,0)).1∣(cN (l.take i)).2:=by
    rw [hs]
    refine oq (p:=l.getD j (0,0)) ?_
    refine List.mem_iff_getElem?.2 ⟨j,?_⟩
    rw [List.getElem?_take,if_pos hlt,List.getElem?_eq_getElem X]
    simp [List.getD,show j<l.length by omega]
   obtain ⟨k,hk⟩:=hd
   rw [hk,Nat.mul_assoc,Nat.add_mul_mod_self_left]
   exact ih j hlt
  ·have hpw:(cN (l.take j)).2^((l.getD j (0,0)).1 - 1) % (l.getD j (0,0)).1=1:=by
    rw [hs]
    refine sO g1 (ot g1 _ 1 (fun q hq=>⟨((h.take j).good q hq).1,fun e => ?_⟩) (fun hd=>by have:=Nat.le_of_dvd U hd;omega))
    have hnd:=(sh hi).1 (u9 (i:=j+1) h.nd)
    refine hnd.2 ?_
    rw [← e]
    exact List.mem_map.2 ⟨q,hq,rfl⟩
   exact zA (a:=(cN (l.take j)).1) (m:=(cN (l.take j)).2) (p:=(l.getD j (0,0)).1) (v:=(l.getD j (0,0)).2) hp2 g2 hpw
theorem PrimQ.comb {l:List (Nat × Nat)} (h:PrimQ l):Comb l (mX l):=by
 obtain ⟨k1,k2⟩:=kM (fun p hp=>i9 (h.valid) p hp) l.length (Nat.le_refl _)
 have hs:=pG l l.length (Nat.le_refl _)
 have hr:=rj h l.length (Nat.le_refl _)
 rw [List.take_length] at k1 hs hr
 have hres : ∀ p∈l,((cN l).1:Int) % (p.1:Int)=(p.2:Int):=fun p hp=>by
  obtain ⟨j,hj⟩:=List.mem_iff_getElem?.1 hp
  have hjl:j<l.length:=(List.getElem?_eq_some_iff.1 hj).1
  have:=hr j hjl
  rw [show l.getD j (0,0)=p by rw [List.getD,hj]; rfl] at this
  rw [← Int.natCast_emod,this]
 unfold mX
 by_cases c:(cN l).2<(cN l).1+(cN l).1
 ·rw [if_pos c]
  refine ⟨fun p hp => ?_,by omega,by omega⟩
  obtain ⟨k,hk⟩:=oq hp
  rw [hs,hk,Int.natCast_mul,Int.sub_mul_emod_self_left]
  exact hres p hp
 ·rw [if_neg c]
  exact ⟨hres,by omega,by omega⟩
theorem PrimQ.uniq {l:List (Nat × Nat)} {x y:Int} (h:PrimQ l) (hx:Comb l x) (hy:Comb l y):x=y:=by
 have hd:(iJ l:Int)∣x - y:=h.allI fun p hp=>by
  have h1:=hx.res p hp
  have h2:=hy.res p hp
  exact Int.dvd_of_emod_eq_zero (by rw [Int.sub_emod,h1,h2,Int.sub_self,Int.zero_emod])
 obtain ⟨k,hk⟩:=hd
 have h1:=hx.hi
 have h2:=hx.lo
 have h3:=hy.hi
 have h4:=hy.lo
 have hp:=h.pos
 have hk0:k=0:=by
  rcases Int.lt_trichotomy k 0 with c | c | c
  ·have:=Int.mul_le_mul_of_nonneg_left (show k ≤ -1 by omega) (show (0:Int)≤iJ l by omega)
   omega
  ·exact c
  ·have:=Int.mul_le_mul_of_nonneg_left (show 1≤k by omega) (show (0:Int)≤iJ l by omega)
   omega
 rw [hk0,Int.mul_zero] at hk
 omega
theorem PrimQ.is {l:List (Nat × Nat)} {x:Int} (h:PrimQ l) (hr : ∀ p∈l,x % (p.1:Int)=(p.2:Int)) (hb:2*x.natAbs<iJ l):mX l=x :=
 h.uniq h.comb ⟨hr,by omega,by omega⟩
theorem Pr.invP {p:Nat} (h:Pr p):A7 p:=fun x hx h0=>by
 have hn : ¬ p∣x:=fun hd=>by
  have:=Nat.le_of_dvd (Nat.pos_of_ne_zero h0) hd
  omega
 have:=h.inverse hn
 rw [Nat.mul_comm,Nat.mul_mod,Nat.mod_mod, ← Nat.mul_mod]
 exact this
/-! ### The primes that are needed -/
def lR:List Nat→Nat
 | [] => 1
 | x :: l => x * lR l
theorem ui {p:Nat→Bool} {t:Nat} (ht:p t=true) : ∀ {m:Nat},t<m→t≤iK p m
 | 0, h => absurd h (Nat.not_lt_zero _)
 | m + 1, h => by
  show t≤(if p m then m else iK p m)
  split
  ·omega
  ·rename_i hm
   rcases Nat.lt_or_eq_of_le (Nat.lt_succ_iff.1 h) with h | h
   ·exact ui ht h
   ·subst h;exact absurd ht hm
theorem rm {p:Nat→Bool} : ∀ {m:Nat},iK p m≠0→p (iK p m)=true∧iK p m<m
 | 0, h => absurd Z h
 | m + 1, h => by
  have e:iK p (m+1)=if p m then m else iK p m:=rfl
  rw [e] at h ⊢
  split
  ·rename_i hm;exact ⟨hm,Nat.lt_succ_self m⟩
  ·rename_i hm
   rw [if_neg hm] at h
   obtain ⟨h1,h2⟩:=rm h
   exact ⟨h1,Nat.lt_succ_of_lt h2⟩
structure NdOk (p:Nat→Bool) (L:Nat) (B:Int) (k pr q:Nat) (l:List Nat):Prop where
 len:l.length≤k
 mem : ∀ x∈l,p x=true∧L≤x∧x<2147483648∧x<q
 nd:l.Nodup
 big:B<((pr*lR l:Nat):Int)
theorem Ag {p:Nat→Bool} {L:Nat} {B:Int} (hL:0<L) : ∀ (ts:List Nat) (f pr q:Nat),ts.length<f→(∀ t∈ts,p t=true∧L≤t∧t<2147483648∧t<q)→ts.Pairwise (· > ·)→B<((pr*L^ts.length:Nat):Int) →
  ∃ l,ndL p B f pr q=some l∧NdOk p L B ts.length pr q l
 | ts, 0, pr, q, hf, _, _, _ => absurd hf (Nat.not_lt_zero _)
 | [], f + 1, pr, q, hf, h1, h2, h3 => by
  have h3':B<(pr:Int):=by simpa using h3
  exact ⟨[],by rw [ndL,if_pos h3'],⟨Nat.le_refl _,(fun x hx=>by cases hx),List.nodup_nil,by simpa [lR] using h3'⟩⟩
 | t :: ts, f + 1, pr, q, hf, h1, h2, h3 => by
  by_cases h0:B<(pr:Int)
  ·exact ⟨[],by rw [ndL,if_pos h0],⟨Nat.zero_le _,(fun x hx=>by cases hx),List.nodup_nil,by simpa [lR] using h0⟩⟩
  ·obtain ⟨a1,a2,a3,a4⟩:=h1 t List.mem_cons_self
   have hge:t≤bf p q:=ui a1 X
   have hne:bf p q≠0:=by omega
   obtain ⟨b1,b2⟩:p (bf p q)=true∧bf p q<min q 2147483648:=rm hne
   generalize hy:bf p q=y at *
   obtain ⟨c1,c2⟩:=List.pairwise_cons.1 h2
   obtain ⟨l,e1,e2⟩:=Ag hL ts f (pr*y) y (by simpa using hf) (fun x hx=>by
    obtain ⟨d1,d2,d3,d4⟩:=h1 x (List.mem_cons_of_mem _ hx)
    have:=c1 x hx
    exact ⟨d1,d2,d3,by omega⟩) c2 (Int.lt_of_lt_of_le h3 (by
     have:pr*L^(ts.length+1)≤pr*y*L^ts.length:=by
      rw [Nat.pow_succ,Nat.mul_comm (L^ts.length), ← Nat.mul_assoc]
      exact Nat.mul_le_mul_right _ (Nat.mul_le_mul_left _ X)
     exact_mod_cast this))
   refine ⟨y :: l,by rw [ndL,if_neg h0,hy,if_neg hne,e1]; rfl,⟨by simp only [List.length_cons]; have:=e2.len;omega,fun x hx => ?_,List.nodup_cons.2 ⟨fun hm => ?_,e2.nd⟩,?_⟩⟩
   ·rcases List.mem_cons.1 hx with rfl | hx
    ·exact ⟨b1,by omega,by omega,by omega⟩
    ·obtain ⟨d1,d2,d3,d4⟩:=e2.mem x hx
     exact ⟨d1,d2,d3,by omega⟩
   ·have:=(e2.mem _ hm).2.2.2;omega
   ·have:=e2.big
    rw [Nat.mul_assoc] at this
    exact this
end Tor
end
section
namespace Tor
open Lin (Pr)
variable [Tor.Co.Kc]
def Bc:List Nat := [2147483647,2147483629,2147483587,2147483579,2147483563,2147483549,2147483543,2147483497,2147483489,2147483477]
theorem sP:(Bc.all pf)=true:=by decide +kernel
theorem xV:(Bc.all fun t=>decide (2147479552≤t∧t<2147483648))=true:=by decide +kernel
theorem xW:Bc.Pairwise (· > ·):=by decide
theorem xX:2^301≤2147479552^Bc.length:=by decide +kernel
structure NeedD (n:Nat) (F:Nat→Nat→Int) (b:Nat) (l:List Nat):Prop where
 nd:ndL bg ((b:Int)+(b:Int)) (min 2147483648 2147483648+2) 1 2147483648=some l
 len:l.length≤10
 mem : ∀ x∈l,bg x=true∧Pr x∧x<2147483648
 val:dV [] (l.map fun p=>(p,iC n F p))=true
 comb:mX (l.map fun p=>(p,iC n F p))=Lin.bY n F
theorem rn (f:Nat→Nat) : ∀ (l:List Nat) (m:Nat),vC m (l.map fun p=>(p,f p))=m*lR l
 | [], m => by simp [vC, lR]
 | x :: l, m => by
  have:=rn f l (m*x)
  rw [Nat.mul_assoc] at this
  exact this
theorem xY {n:Nat} {F:Nat→Nat→Int} {l:List Nat} (h : ∀ x∈l,bg x=true∧Pr x∧x<2147483648) (hn:l.Nodup):PrimQ (l.map fun p=>(p,iC n F p)):=by
 refine ⟨fun p hp => ?_,fun p hp => ?_,?_⟩
 ·obtain ⟨x,hx,rfl⟩:=List.mem_map.1 hp
  obtain ⟨_,h2,h3⟩:=h x hx
  exact ⟨h2,h3,uh (by have:=h2.1;omega)⟩
 ·obtain ⟨x,hx,rfl⟩:=List.mem_map.1 hp
  exact (h x hx).1
 ·rw [List.map_map]
  have:((fun x=>x.1) ∘ fun p=>(p,iC n F p))=(id:Nat→Nat):=rfl
  rw [this,List.map_id]; exact hn
theorem zB {n p:Nat} {F:Nat→Nat→Int} (hp:0<p):Lin.bY n F % (p:Int)=(iC n F p:Int):=by
 unfold iC
 rw [Int.toNat_of_nonneg (Int.emod_nonneg _ X)]
theorem zC {n:Nat} {F:Nat→Nat→Int} {b:Nat} (h:(Lin.bY n F).natAbs≤b) (hb:b<2^300) : ∃ l,NeedD n F b l:=by
 have hall:=fun t (ht:t∈Bc)=>(List.all_eq_true.1 sP) t ht
 have hrng:=fun t (ht:t∈Bc)=>of_decide_eq_true ((List.all_eq_true.1 xV) t ht)
 have hbb:(b:Int)+(b:Int)<((1*2147479552^Bc.length:Nat):Int):=by
  have h1:=xX
  have h2:b+b<2^301:=by
   have:(2:Nat)^301=2^300+2^300:=by decide +kernel
   omega
  have h3:b+b<1*2147479552^Bc.length:=by rw [Nat.one_mul]; exact Nat.lt_of_lt_of_le h2 h1
  exact_mod_cast h3
 obtain ⟨l,e1,e2⟩:=Ag (p:=bg) (L:=2147479552) (B:=(b:Int)+(b:Int)) U Bc (min 2147483648 2147483648+2) 1 2147483648 U (fun t ht=>by
  obtain ⟨r1,r2⟩:=hrng t ht
  exact ⟨by rw [qM X]; exact hall t ht,r1,r2,r2⟩) xW hbb
 have hm : ∀ x∈l,bg x=true∧Pr x∧x<2147483648:=fun x hx=>by
  obtain ⟨d1,d2,d3,d4⟩:=e2.mem x hx
  refine ⟨d1,?_,d3⟩
  rw [vg d2 d3,sg] at d1
  exact Lin.Pr.of_trial d1.1 d1.2.2
 have hq:=xY (n:=n) (F:=F) hm e2.nd
 refine ⟨l,e1,Nat.le_trans e2.len U,hm,hq.valid,hq.is (fun p hp => ?_) ?_⟩
 ·obtain ⟨x,hx,rfl⟩:=List.mem_map.1 hp
  exact zB (by have:=(hm x hx).2.1.1;omega)
 ·have h1:=e2.big
  have h2:iJ (l.map fun p=>(p,iC n F p))=1*lR l:=rn (iC n F) l 1
  rw [h2]
  have h3:b+b<1*lR l:=by exact_mod_cast h1
  omega
end Tor
end
section
namespace Tor.Co
open Go Go.Conc
open Go.ConcN (PermW fork_knows RelBy)
open Go.ConcR (stA)
inductive Cls where
 | own (g : Nat)
 | shared (s : Nat)
 | sync
 | dead
def rdb (s top g:Nat):Prop:=g=0∨(s≤g∧g<top)
structure TI (cls:Loc→Cls) (top:Nat) (t:Trace):Prop where
 own : ∀ l g,cls l = .own g→Perm t g l
 shr : ∀ l s g,cls l = .shared s→rdb s top g→PermW t g l
 syn : ∀ (i:Nat) (op:MemOp) (x:Touch),t[i]? = some op→op.act.touch? = some x→cls x.loc = .sync→x.kind ≠ .plain∧(x.kind = .said→op.g=0)
 nr : ∀ said, ¬ Race said t
def OkT (cls:Loc→Cls) (top g:Nat) (x:Touch):Prop :=
 (cls x.loc = .sync∧x.kind ≠ .plain∧(x.kind = .said→g=0))∨(cls x.loc = .own g∧x.kind = .plain)∨(∃ s,cls x.loc = .shared s∧rdb s top g∧x.write=false∧x.kind = .plain)
section
variable {cls cls':Loc→Cls} {top:Nat} {t u:Trace} {g:Nat}
theorem TI.app (h:TI cls top t) (hu : ∀ op∈u,op.g=g ∧ ∀ x,op.act.touch? = some x→OkT cls top g x):TI cls top (t ++ u):=by
 refine ⟨fun l g' hl=>(h.own l g' hl).app fun op hop b hb e => ?_,fun l s g' hl hg=>(h.shr l s g' hl hg).app fun op hop b hb e hw => ?_,fun i op x hi hx hs => ?_,fun said => ?_⟩
 ·obtain ⟨h1,h2⟩:=hu op hop
  rcases h2 b hb with ⟨h3,_⟩ | ⟨h3,_⟩ | ⟨s,h3,_⟩
  ·rw [e,hl] at h3;cases h3
  ·rw [e,hl] at h3;cases h3;exact h1
  ·rw [e,hl] at h3;cases h3
 ·rcases (hu op hop).2 b hb with ⟨h3,_⟩ | ⟨h3,_⟩ | ⟨s',h3,_,h4,_⟩
  ·rw [e,hl] at h3;cases h3
  ·rw [e,hl] at h3;cases h3
  ·rw [hw] at h4;cases h4
 ·rcases getElem?_append_cases hi with ⟨_,hi'⟩ | ⟨_,hiu⟩
  ·exact h.syn i op x hi' hx hs
  ·obtain ⟨h1,h2⟩:=hu op hiu
   rcases h2 x hx with ⟨_,h4,h5⟩ | ⟨h3,_⟩ | ⟨s,h3,_⟩
   ·exact ⟨h4,fun e=>h1.trans (h5 e)⟩
   ·rw [hs] at h3;cases h3
   ·rw [hs] at h3;cases h3
 ·refine noRace_append (h.nr said) (fun op hop=>(hu op hop).1) fun i a ha op hop b hb hc => ?_
  rcases (hu op hop).2 b hb with ⟨h3,h4,h5⟩ | ⟨h3,_⟩ | ⟨s,h3,h4,h5,_⟩
  ·obtain ⟨x,hx,hxa⟩:=touch_of ha
   obtain ⟨h6,h7⟩:=h.syn i x a hx hxa (by rw [hc.1]; exact h3)
   rcases hc.2.2.2 with e | e | ⟨_,e1,e2⟩
   ·exact absurd e h6
   ·exact absurd e h4
   ·have:=knows_own hx
    rwa [h7 e1, ← h5 e2] at this
  ·exact h.own b.loc g h3 i a ha hc.1
  ·exact h.shr b.loc s g h3 h4 i a ha hc.1 (hc.2.2.1.resolve_right (by simp [h5]))
def Untouched (t:Trace) (l:Loc):Prop := ∀ i a,touchAt t i=some a→a.loc≠l
theorem TI.re (h:TI cls top t) (hc : ∀ l,cls' l=cls l∨Untouched t l∨(∃ s,top≤s∧cls l = .own 0∧cls' l = .shared s)∨cls' l = .dead):TI cls' top t:=by
 refine ⟨fun l g hl => ?_,fun l s g hl hg => ?_,fun i op x hi hx hs => ?_,h.nr⟩
 ·rcases hc l with e | e | ⟨s,_,_,e⟩ | e
  ·exact h.own l g (e.symm.trans hl)
  ·exact fun i a ha hla=>absurd hla (e i a ha)
  ·rw [hl] at e;cases e
  ·rw [hl] at e;cases e
 ·rcases hc l with e | e | ⟨s',hs',e1,e⟩ | e
  ·exact h.shr l s g (e.symm.trans hl) hg
  ·exact fun i a ha hla=>absurd hla (e i a ha)
  ·rw [hl] at e;cases e
   have:g=0:=hg.resolve_right X
   subst this
   exact PermW.of (h.own l 0 e1)
  ·rw [hl] at e;cases e
 ·rcases hc x.loc with e | e | ⟨s,_,_,e⟩ | e
  ·exact h.syn i op x hi hx (e.symm.trans hs)
  ·exact absurd Z (e i x (by rw [touchAt_of hi]; exact hx))
  ·rw [hs] at e;cases e
  ·rw [hs] at e;cases e
theorem TI.fork (h:TI cls top t) (h1:0<top) {x y:MemOp} (hx:x.g=0∧x.act = .go top) (hy:y.g=top∧y.act = .start) (h0:Deaf t 0=0) (hk:Deaf t top=0)
  (hs : ∀ l s,cls l = .shared s→s≤top) (hc : ∀ l,cls' l=cls l∨(cls l = .own 0∧cls' l = .own top)):TI cls' (top+1) (t ++ #[x,y]):=by
 have hnt : ∀ op ∈ #[x,y], ∀ b,op.act.touch? = some b→False:=by
  intro op hop b hb
  simp only [List.mem_toArray,List.mem_cons,List.not_mem_nil,or_false] at hop
  rcases hop with rfl | rfl
  ·rw [hx.2] at hb;cases hb
  ·rw [hy.2] at hb;cases hb
 have old : ∀ {i:Nat} {a:Touch},touchAt (t ++ #[x,y]) i=some a→touchAt t i=some a:=by
  intro i a ha
  obtain ⟨z,hz,hza⟩:=touch_of ha
  rcases getElem?_append_cases hz with ⟨_,hz'⟩ | ⟨_,hzu⟩
  ·rw [touchAt_of hz']; exact hza
  ·exact (hnt z hzu a hza).elim
 refine ⟨fun l g hl => ?_,fun l s g hl hg => ?_,fun i op b hi hb hs' => ?_,fun said => ?_⟩
 ·rcases hc l with e | ⟨e1,e2⟩
  ·exact (h.own l g (e.symm.trans hl)).app fun op hop b hb _=>(hnt op hop b hb).elim
  ·rw [hl] at e2;cases e2
   exact fun i a ha e=>fork_knows hx hy h0 hk (h.own l 0 e1 i a (old ha) e)
 ·have hl':cls l = .shared s:=by
   rcases hc l with e | ⟨_,e2⟩
   ·exact e.symm.trans hl
   ·rw [hl] at e2;cases e2
  have hst:=hs l s hl'
  rcases hg with rfl | ⟨hg1,hg2⟩
  ·exact (h.shr l s 0 hl' (.inl Z)).app fun op hop b hb _ _=>(hnt op hop b hb).elim
  ·rcases Nat.lt_or_ge g top with h3 | h3
   ·exact (h.shr l s g hl' (.inr ⟨hg1,h3⟩)).app fun op hop b hb _ _=>(hnt op hop b hb).elim
   ·obtain rfl:g=top:=by omega
    exact fun i a ha e hw=>fork_knows hx hy h0 hk (h.shr l s 0 hl' (.inl Z) i a (old ha) e hw)
 ·rcases getElem?_append_cases hi with ⟨_,hi'⟩ | ⟨_,hiu⟩
  ·refine h.syn i op b hi' hb ?_
   rcases hc b.loc with e | ⟨_,e2⟩
   ·exact e.symm.trans hs'
   ·rw [hs'] at e2;cases e2
  ·exact (hnt op hiu b hb).elim
 ·have e:t ++ #[x,y]=(t ++ #[x]) ++ #[y]:=by apply Array.ext';simp
  rw [e]
  refine noRace_append (g:=top) (noRace_append (g:=0) (h.nr said) (fun op hop=>by simp at hop;rw [hop]; exact hx.1) (fun i a _ op hop b hb _=>(hnt op (by simp at hop ⊢; exact .inl hop) b hb).elim))
   (fun op hop=>by simp at hop;rw [hop]; exact hy.1) (fun i a _ op hop b hb _=>(hnt op (by simp at hop ⊢; exact .inr hop) b hb).elim)
end
structure Seg (n0 Wg top0 top1:Nat) (t:Trace):Prop where
 who : ∀ (i:Nat) (op:MemOp) (x:Touch),n0≤i→t[i]? = some op→op.act.touch? = some x→op.g=0∨(top0≤op.g∧op.g<top1)
 atm : ∀ (i:Nat) (op:MemOp) (x:Touch),n0≤i→t[i]? = some op→op.act.touch? = some x→x.kind = .atomic → ∃ a,x.loc = .cell a∧a.block=Wg
theorem Seg.app {n0 Wg top0 top1:Nat} {t u:Trace} (h:Seg n0 Wg top0 top1 t) (hu : ∀ op∈u, ∀ x,op.act.touch? = some x→(op.g=0∨(top0≤op.g∧op.g<top1))∧(x.kind = .atomic → ∃ a,x.loc = .cell a∧a.block=Wg)):Seg n0 Wg top0 top1 (t ++ u):=by
 refine ⟨fun i op x hn hi hx => ?_,fun i op x hn hi hx hk => ?_⟩
 ·rcases getElem?_append_cases hi with ⟨_,hi'⟩ | ⟨_,hiu⟩
  ·exact h.who i op x hn hi' hx
  ·exact (hu op hiu x hx).1
 ·rcases getElem?_append_cases hi with ⟨_,hi'⟩ | ⟨_,hiu⟩
  ·exact h.atm i op x hn hi' hx hk
  ·exact (hu op hiu x hx).2 hk
theorem joined {Shun:Loc→Prop} {B0 B Wg top0 top1 q:Nat} {t0 u:Trace} (hP:Past Shun B0 t0) (hs:Seg t0.size Wg top0 top1 (t0 ++ u)) (h1:0<top0) (hnr : ∀ said, ¬ Race said (t0 ++ u)) (hd:Deaf (t0 ++ u) 0=0) (hseen : ∀ op∈t0 ++ u,op.act.low B)
  (hq:(t0 ++ u).act? q=some (.mark (.acquire (stA Wg)))) (hg:(t0 ++ u).g? q=some 0) (hh:(t0 ++ u).heard q) (hn:NoRelease (stA Wg) (t0 ++ u))
  (rel : ∀ (i:Nat) (op:MemOp) (x:Touch),t0.size≤i→(t0 ++ u)[i]? = some op→op.act.touch? = some x→op.g≠0 → ∃ r,RelBy (stA Wg) (t0 ++ u) op.g r∧r<q) :
  Past (fun l=>Shun l ∨ ∃ a,l = .cell a∧a.block=Wg) B (t0 ++ u):=by
 have hz : ∃ z,(t0 ++ u)[q]? = some z∧z.g=0:=Option.map_eq_some_iff.1 hg
 -- what counts and is a worker's lies ahead of the acquire
 have key : ∀ (i:Nat) (op:MemOp) (x:Touch),t0.size≤i→(t0 ++ u)[i]? = some op→op.act.touch? = some x→op.g≠0→(t0 ++ u).counts i→HappensBefore (t0 ++ u) i q:=fun i op x hi ho hx hne hc=>by
  obtain ⟨r,hr,hrq⟩:=rel i op x hi ho hx hne
  have hgi:(t0 ++ u).g? i=some op.g:=by simp [Trace.g?,ho]
  have hle:i≤r:=Nat.le_of_not_lt fun hlt=>hr.after i hlt hgi hc
  have edge:HappensBefore (t0 ++ u) r q := .single (.inr ⟨.marked hrq (.inr hr.act) hq (fun k _ _=>hn k),hr.heard,hh⟩)
  rcases Nat.lt_or_ge i r with hlt | hge
  ·exact .trans (.single (.inl ⟨hlt,op.g,hgi,hr.g⟩)) edge
  ·obtain rfl:i=r:=by omega
   exact edge
 refine ⟨hnr,fun i a ha hm => ?_,fun i g hgi hne hc => ?_,hd,hseen⟩
 ·obtain ⟨op,ho,hoa⟩:=touch_of ha
  rcases Nat.lt_or_ge i t0.size with hlt | hge
  ·rw [getElem?_append_old hlt] at ho
   exact (hP.known i a (by rw [touchAt_of ho]; exact hoa) hm).imp (·.app u) fun h=>⟨.inl h.1,h.2⟩
  ·by_cases h0:op.g=0
   ·have:=knows_own ho
    rw [h0] at this;exact .inl this
   ·by_cases hc:(t0 ++ u).counts i
    ·obtain ⟨z,hz1,hz2⟩:=hz
     exact .inl ⟨q,z,hz1,hz2, .inr (key i op a hge ho hoa h0 hc)⟩
    ·have hk:a.kind = .atomic:=Classical.byContradiction fun hk=>hc ⟨a,ha,hm, .inl hk⟩
     exact .inr ⟨.inr (hs.atm i op a hge ho hoa hk),hk⟩
 ·rcases Nat.lt_or_ge i t0.size with hlt | hge
  ·obtain ⟨j,hj,hb⟩:=hP.over i g (by rw [← g?_old (u:=u) hlt]; exact hgi) hne ((counts_old hlt).1 hc)
   have hjl:j<t0.size:=by
    unfold Trace.g? at hj
    obtain ⟨z,hz,_⟩:=Option.map_eq_some_iff.1 hj
    exact lt_size_of_getElem? hz
   exact ⟨j,by rw [g?_old hjl]; exact hj,hb_app u hb⟩
  ·obtain ⟨op,ho,hog⟩:=Option.map_eq_some_iff.1 hgi
   obtain ⟨x,hx,_⟩:=id hc
   obtain ⟨op',ho',hx'⟩:=touch_of hx
   rw [ho] at ho';cases ho'
   exact ⟨q,hg,key i op x hge ho hx' (by rw [hog]; exact hne) hc⟩
end Tor.Co
end
section
namespace Tor.Co
open Go Go.Conc Go.RowKit
/-! ### Whose a block is -/
inductive BCls where
 | own (g : Nat)
 | shared (s : Nat)
 | cells
 | sync
 | dead
def Vb (cb:Nat→BCls) (k b:Nat):Prop := ∃ s,cb b = .shared s∧(k=0∨s≤k)
def Fb (cb:Nat→BCls) (k b:Nat):Prop:=cb b ≠ .own k ∧ ¬ Vb cb k b
def MskK (cb:Nat→BCls) (k:Nat) (g w:World):Prop:=Msk (fun b=>b<w.heap.size∧Fb cb k b) (fun b=>b<w.heap.size∧Vb cb k b) g w
section
variable {F BU F' V':Nat→Prop} {g w w':World} {cb cb':Nat→BCls} {k:Nat}
theorem Msk.iff (h:Msk F BU g w) (hF : ∀ b,b<w.heap.size→(F' b↔F b)) (hV : ∀ b,b<w.heap.size→(V' b↔BU b)):Msk F' V' g w :=
 ⟨h.size,h.os,h.tape,h.drawn,h.output,fun b hb hf=>h.fg b hb ((hF b hb).1 hf),fun b hb hf=>h.fz b hb ((hV b hb).1 hf),fun b hb h1 h2=>h.sm b hb (fun x=>h1 ((hF b hb).2 x)) (fun x=>h2 ((hV b hb).2 x))⟩
theorem MskK.rely (h:MskK cb k g w) (hos:w'.os=w.os) (htp:w'.tape=w.tape) (hout:w'.output=w.output) (hsz:w.heap.size≤w'.heap.size) (hcb : ∀ b,b<w.heap.size→cb' b=cb b)
  (hnew : ∀ b,w.heap.size≤b→b<w'.heap.size→Fb cb' k b) (hblk : ∀ b,b<w.heap.size → ¬ Fb cb k b→w'.heap[b]? = w.heap[b]?) : ∃ g',MskK cb' k g' w'∧Grow g g':=by
 have hF : ∀ b,b<w.heap.size→(Fb cb' k b↔Fb cb k b):=fun b hb=>by unfold Fb Vb;rw [hcb b hb]
 have hV : ∀ b,b<w.heap.size→(Vb cb' k b↔Vb cb k b):=fun b hb=>by unfold Vb;rw [hcb b hb]
 have hgs:g.heap.size=w.heap.size:=h.size
 let g':World := { w' with heap:=g.heap ++ Array.replicate (w'.heap.size - w.heap.size) dum }
 have old : ∀ b,b<w.heap.size→g'.heap[b]? = g.heap[b]? := fun b hb=>by
  show (g.heap ++ _)[b]? = _
  rw [Array.getElem?_append_left X]
 have nw : ∀ b,w.heap.size≤b→b<w'.heap.size→g'.heap[b]? = some dum:=fun b h1 h2=>by
  show (g.heap ++ _)[b]? = _
  rw [Array.getElem?_append_right X,Array.getElem?_replicate,if_pos X]
 refine ⟨g',⟨?_,rfl,rfl,rfl,rfl,fun b hb hf => ?_,fun b hb hv => ?_,fun b hb hf hv => ?_⟩,⟨hos.trans h.os.symm,htp.trans h.tape.symm,hout.trans h.output.symm,?_,fun b hb=>old b X⟩⟩
 ·show (g.heap ++ _).size=_
  simp;omega
 ·rcases Nat.lt_or_ge b w.heap.size with hl | hl
  ·rw [old b hl]; exact h.fg b hl ⟨hl,(hF b hl).1 hf.2⟩
  ·exact nw b hl hb
 ·rcases Nat.lt_or_ge b w.heap.size with hl | hl
  ·have hv':=(hV b hl).1 hv.2
   obtain ⟨c,e,f,h1,h2⟩:=h.fz b hl ⟨hl,hv'⟩
   exact ⟨c,e,f,(hblk b hl fun hf=>hf.2 hv').trans h1,(old b hl).trans h2⟩
  ·exact absurd hv.2 (hnew b hl hb).2
 ·rcases Nat.lt_or_ge b w.heap.size with hl | hl
  ·have hf' : ¬ Fb cb k b:=fun x=>hf ⟨hb,(hF b hl).2 x⟩
   obtain ⟨o,h1,h2,h3⟩:=h.sm b hl (fun x=>hf' x.2) (fun x=>hv ⟨hb,(hV b hl).2 x.2⟩)
   exact ⟨o,(hblk b hl hf').trans h1,(old b hl).trans h2,h3⟩
  ·exact absurd ⟨hb,hnew b hl hb⟩ hf
 ·show g.heap.size≤(g.heap ++ _).size
  simp
def cbN (cb:Nat→BCls) (n k b:Nat):BCls:=if b<n then cb b else .own k
theorem cbN_old {n b:Nat} (h:b<n):cbN cb n k b=cb b:=if_pos h
theorem cbN_new {n b:Nat} (h:n≤b):cbN cb n k b = .own k:=if_neg X
theorem not_Vb_own {b j:Nat} (h:cb b = .own j) : ¬ Vb cb k b:=fun ⟨s,e,_⟩=>by rw [h] at e;cases e
theorem Fb_other {b j:Nat} (h:cb b = .own j) (hne:j≠k):Fb cb k b:=⟨by rw [h]; intro e;cases e;exact hne Z,not_Vb_own h⟩
theorem MskK.own (h:Msk (fun b=>b<w.heap.size∧Fb cb k b) (fun b=>b<w.heap.size∧Vb cb k b) g w') (hsz:w.heap.size≤w'.heap.size):MskK (cbN cb w.heap.size k) k g w' :=
 h.iff (fun b hb=>by
  rcases Nat.lt_or_ge b w.heap.size with hl | hl
  ·unfold Fb Vb;rw [cbN_old hl]; simp [hb,hl]
  ·exact ⟨fun x=>absurd (cbN_new hl) x.2.1,fun x=>absurd x.1 X⟩) (fun b hb=>by
  rcases Nat.lt_or_ge b w.heap.size with hl | hl
  ·unfold Vb;rw [cbN_old hl]; simp [hb,hl]
  ·exact ⟨fun x=>absurd x.2 (not_Vb_own (cbN_new hl)),fun x=>absurd x.1 X⟩)
end
/-! ### Walks come to an end -/
structure Anc where
 m:Bool
 stop:Goroutine→World→Prop
 g:Goroutine
 w:World
def Rg (P:Program) (y x:Anc):Prop:=y.m=x.m∧y.stop=x.stop∧(¬ ∀ w₁,Grow x.w w₁→x.stop x.g w₁) ∧ ∃ w₁ es,Grow x.w w₁∧stepG P x.m x.g w₁ = .go y.g y.w es
def Fam (P:Program) (n:Nat) (y x:Nat→Anc):Prop := ∃ i,i<n∧Rg P (y i) (x i) ∧ ∀ j,j≠i→y j=x j
theorem acc_fam {P:Program} : ∀ (n:Nat) (x:Nat→Anc),(∀ i,i<n→Acc (Rg P) (x i))→Acc (Fam P n) x
 | 0, x, _ => ⟨_, fun y ⟨i, hi, _⟩ => absurd hi X⟩
 | n + 1, x, h => by
  have outer : ∀ a,Acc (Rg P) a → ∀ x:Nat→Anc,x n=a→(∀ i,i<n→Acc (Rg P) (x i))→Acc (Fam P (n+1)) x:=by
   intro a ha
   induction ha with
   | intro a _ iha =>
    intro x hx hacc
    have inner : ∀ x,Acc (Fam P n) x→x n=a→(∀ i,i<n→Acc (Rg P) (x i))→Acc (Fam P (n+1)) x:=by
     intro x hx
     induction hx with
     | intro x _ ihx =>
      intro hxn hacc
      refine ⟨_,fun y ⟨i,hi,hr,ho⟩ => ?_⟩
      rcases Nat.lt_or_ge i n with hl | hl
      ·refine ihx y ⟨i,hl,hr,ho⟩ ((ho n X).trans hxn) fun j hj => ?_
       by_cases e:j=i
       ·subst e;exact (hacc j hj).inv hr
       ·rw [ho j e]; exact hacc j hj
      ·obtain rfl:i=n:=by omega
       exact iha (y i) (hxn▸hr) y Z fun j hj=>by rw [ho j X]; exact hacc j hj
    exact inner x (acc_fam n x hacc) hx hacc
  exact outer (x n) (h n X) x Z fun i hi=>h i X
@[reducible] def noAsk:Kc:=⟨fun _ _ _ _ _=>False,fun h _=>h⟩
theorem GoI.acc {P:Program} {m:Bool} {Stop:Goroutine→World→Prop} {g:Goroutine} {w:World} (h : @GoI noAsk P m Stop g w):Acc (Rg P) ⟨m,Stop,g,w⟩:=by
 induction h with
 | stop h => exact ⟨_, fun y ⟨_, _, hn, _⟩ => absurd h hn⟩
 | step _ _ _ ih =>
  refine ⟨_,fun y ⟨h1,h2,_,w₁,es,h3,h4⟩ => ?_⟩
  obtain ⟨ym,ys,yg,yw⟩:=y
  cases h1;cases h2
  exact ih w₁ yg yw es h3 h4
 | ask _ _ h => exact h.elim
theorem GoI.run {P:Program} {m:Bool} {Stop:Goroutine→World→Prop} {g:Goroutine} {ĝ₀ ĝ w:World} {cb:Nat→BCls} {k:Nat} (h : @GoI noAsk P m Stop g ĝ₀) (hg:Grow ĝ₀ ĝ) (hM:MskK cb k ĝ w) :
  (∀ w₁,Grow ĝ₀ w₁→Stop g w₁)∨(g.status = .running ∧ ∃ g' ĝ' w' es,stepG P m g w = .go g' w' es ∧ @GoI noAsk P m Stop g' ĝ'∧MskK (cbN cb w.heap.size k) k ĝ' w'∧Rg P ⟨m,Stop,g', ĝ'⟩ ⟨m,Stop,g, ĝ₀⟩ ∧
   Mine (fun b=>b<w.heap.size∧Fb cb k b) (fun b=>b<w.heap.size∧Vb cb k b) w w' ∧ ∀ e∈es,EvOk (fun b=>b<w.heap.size∧Fb cb k b) (fun b=>b<w.heap.size∧Vb cb k b) w'.heap.size e):=by
 by_cases hs : ∀ w₁,Grow ĝ₀ w₁→Stop g w₁
 ·exact .inl hs
 cases h with
 | stop h => exact absurd h hs
 | step hr h1 h2 =>
  obtain ⟨g', ĝ',es,e1,hf⟩:=h1 ĝ hg
  obtain ⟨w',es',e2,h3,h4,h5⟩:=hf _ _ w hM (fun b hb=>hb.elim (·.1) (·.1))
  exact .inr ⟨hr,g', ĝ',w',es',e2,h2 ĝ g' ĝ' es hg e1,MskK.own h3 h4.size,⟨rfl,rfl,hs, ĝ,es,hg,e1⟩,h4,h5⟩
 | ask _ _ h => exact h.elim
theorem run_lex {P:Program} {β:Type} {R:β→β→Prop} {Inv:Nat→β→Nat→Machine→Trace→Prop} {Fin:Machine→Trace→Prop} (hacc : ∀ r x f m t,Inv r x f m t→Acc R x)
  (hstep : ∀ r x f m t,Inv r x f m t→Fin m t ∨ ∃ m' ops r' x' f',stepT P m=(.next m',ops)∧Inv r' x' f' m' (t ++ ops)∧(r'<r∨(r'=r∧(R x' x∨(x'=x∧f'<f))))) :
  ∀ r x f m t,Inv r x f m t → ∃ N m' t',runNT P N m t=(.next m',t')∧Fin m' t':=by
 intro r
 induction r using Nat.strongRecOn with
 | _ r ihr =>
  intro x f m t hI
  have hx:=hacc _ _ _ _ _ hI
  induction hx generalizing f m t with
  | intro x _ ihx =>
   induction f using Nat.strongRecOn generalizing m t with
   | _ f ihf =>
    rcases hstep r x f m t hI with h | ⟨m',ops,r',x',f',hs,hI',h⟩
    ·exact ⟨0,m,t,rfl,h⟩
    have go:(∃ N m'' t'',runNT P N m' (t ++ ops)=(.next m'',t'')∧Fin m'' t'') → ∃ N m'' t'',runNT P N m t=(.next m'',t'')∧Fin m'' t'':=fun ⟨N,m'',t'',h1,h2⟩ =>
     ⟨N+1,m'',t'',by simp only [runNT,hs]; exact h1,h2⟩
    rcases h with h | ⟨rfl,h | ⟨rfl,h⟩⟩
    ·exact go (ihr r' h x' f' m' _ hI')
    ·exact go (ihx x' h f' m' _ hI')
    ·exact go (ihf f' h m' _ hI')
end Tor.Co
end
section
namespace Tor.Co
open Go Go.Conc Go.ConcN Go.RowKit Go.Conc.Lib Go.ConcR.Gen Go.ConcN.Gen
open Go.ConcR (KK wgBlock WgAt stA smA rd wr mk DC0)
def RL (ty:TypeId) (Wg:Nat) (w w₁:World):Prop:=WgLive ty Wg w→WgLive ty Wg w₁
theorem rl {ty:TypeId} {Wg:Nat} {w w₁:World} (h:WgLive ty Wg w) (r:RL ty Wg w w₁):WgLive ty Wg w₁:=r h
theorem RL.trans {ty:TypeId} {Wg:Nat} (a b c:World) (h:RL ty Wg a b) (k:RL ty Wg b c):RL ty Wg a c:=fun x=>k (h x)
section
variable (P:Program) (m:Bool) (ty:TypeId) (Wg:Nat)
def Lg (Stop:Goroutine→Prop) (n:Nat) (g:Goroutine) (w:World):Prop:=Goes P m (RL ty Wg) DC0 (fun g _=>Stop g) n g w
def LGo (Stop:Goroutine→Prop) (g:Goroutine):Prop := ∃ n, ∀ w,WgLive ty Wg w→Lg P m ty Wg Stop n g w
def Says (k:Mark) (Stop:Goroutine→Prop) (g:Goroutine):Prop:=g.status = .running ∧ ∃ g',(∀ w,stepG P m g w = .go g' w #[mk k])∧LGo P m ty Wg Stop g'
/-! A worker, from its end backwards. -/
def D4 (g:Goroutine):Prop:=g.status = .running∧mayWake P g=true ∧ ∃ g',(∀ w,WgAt ty Wg w 0 0→stepG P false g w = .go g' (w.setCell (smA Wg) (.int .u32 1)) (semEvents (smA Wg))) ∧ ∃ q,QuitsD P q 1 g'
def D3 (g:Goroutine):Prop:=g.status = .running ∧ ∃ g',(∀ w,WgAt ty Wg w 1 0→stepG P false g w = .go g' (w.setCell (stA Wg) (.int .u64 0)) #[wr (stA Wg)])∧LGo P false ty Wg (D4 P ty Wg) g'
def D2 (g:Goroutine):Prop:=g.status = .running ∧ ∃ g',(∀ w,WgAt ty Wg w 1 0→stepG P false g w = .go g' w #[rd (stA Wg)])∧LGo P false ty Wg (D3 P ty Wg) g'
def D1 (g:Goroutine):Prop:=g.status = .running ∧ ∀ v wt:Nat,wt≤1→v<2147483647 → ∃ g',(∀ w,WgAt ty Wg w ((v+1)*KK+wt) 0→stepG P false g w = .go g' (w.setCell (stA Wg) (.int .u64 (v*KK+wt))) #[rd (stA Wg),wr (stA Wg)]) ∧
 ((v=0∧wt=1)→LGo P false ty Wg (D2 P ty Wg) g')∧(¬ (v=0∧wt=1) → ∃ q,QuitsD P q 1 g')
abbrev K1:Goroutine→Prop:=Says P false ty Wg .disable (D1 P ty Wg)
abbrev R0:Goroutine→Prop:=Says P false ty Wg (.releaseMerge (stA Wg)) (K1 P ty Wg)
/-! The starter. -/
section
variable (Ret:Goroutine→Prop)
abbrev Ke:Goroutine→Prop:=Says P true ty Wg .enable Ret
def A1 (g:Goroutine):Prop:=g.status = .running ∧ ∀ v:Nat,v<2147483647 → ∃ g',(∀ w,WgAt ty Wg w (v*KK) 0→stepG P true g w = .go g' (w.setCell (stA Wg) (.int .u64 ((v+1)*KK))) #[rd (stA Wg),wr (stA Wg)]) ∧
 LGo P true ty Wg (fun g=>Says P true ty Wg (.read (smA Wg)) (Ke P ty Wg Ret) g∨Ke P ty Wg Ret g) g'
abbrev KdA:Goroutine→Prop:=Says P true ty Wg .disable (A1 P ty Wg Ret)
abbrev Aq:Goroutine→Prop:=Says P true ty Wg (.acquire (stA Wg)) Ret
abbrev KeW:Goroutine→Prop:=Says P true ty Wg .enable (Aq P ty Wg Ret)
def W4 (g:Goroutine):Prop:=g.status = .running ∧ ∃ g',(∀ w,WgAt ty Wg w 0 0→stepG P true g w = .go g' w #[rd (stA Wg)])∧LGo P true ty Wg (KeW P ty Wg Ret) g'
def W3 (g:Goroutine):Prop:=g.status = .running∧g.offers=none∧(∀ w,(∃ st,WgAt ty Wg w st 0)→stepG P true g w = .go { g with status := .blocked } w #[]) ∧
 ∃ g',(∀ w,WgAt ty Wg w 0 1→stepG P true g w = .go g' (w.setCell (smA Wg) (.int .u32 0)) (semEvents (smA Wg)))∧LGo P true ty Wg (W4 P ty Wg Ret) g'
variable (Anch:Goroutine→Prop)
def W2 (vs:Nat) (g:Goroutine):Prop:=g.status = .running ∧
 (∃ g',(∀ w,WgAt ty Wg w (vs*KK) 0→stepG P true g w = .go g' (w.setCell (stA Wg) (.int .u64 (vs*KK+1))) #[rd (stA Wg),wr (stA Wg)])∧LGo P true ty Wg (Says P true ty Wg (.write (smA Wg)) (W3 P ty Wg Ret)) g') ∧
 ∃ g',(∀ (w:World) (v:Nat),v<2147483648→v≠vs→WgAt ty Wg w (v*KK) 0→stepG P true g w = .go g' w #[rd (stA Wg)])∧LGo P true ty Wg Anch g'
def W1 (g:Goroutine):Prop:=g.status = .running ∧ ∀ v:Nat,v<2147483648 → ∃ g',(∀ w,WgAt ty Wg w (v*KK) 0→stepG P true g w = .go g' w #[rd (stA Wg)]) ∧
 (v=0→LGo P true ty Wg (KeW P ty Wg Ret) g')∧(v≠0→LGo P true ty Wg (W2 P ty Wg Ret Anch v) g')
end
end
end Tor.Co
end
section
namespace Tor.Co
open Go Go.Conc Go.RowKit
open Go.ConcN (WgLive RelBy sumTo upd sumTo_upd upd_ne upd_same RelBy.appOther RelBy.appOwn sumTo_congr)
open Go.ConcR (KK wgBlock WgAt stA smA rd wr mk DC0)
/-! ### Steps that look at no memory -/
section
variable {P:Program} {m:Bool} {ty:TypeId} {Wg:Nat} {Stop:Goroutine→Prop} {f:Nat} {g:Goroutine} {w w₁:World}
theorem Lg.run (h:Lg P m ty Wg Stop f g w) (hl:WgLive ty Wg w):Stop g ∨ ∃ f' g',f=f'+1∧g.status = .running∧stepG P m g w = .go g' w #[]∧Lg P m ty Wg Stop f' g' w:=by
 unfold Lg at h
 cases f with
 | zero => exact .inl (h w id)
 | succ f =>
  rcases h with h | ⟨hs,h⟩
  ·exact .inl (h w id)
  ·have:=h w id
   cases hst:stepG P m g w with
   | go g' w' es =>
    rw [hst] at this
    obtain ⟨⟨rfl,rfl⟩,h2⟩:=this
    exact .inr ⟨f,g',rfl,hs,rfl,h2⟩
   | _ => rw [hst] at this; exact this.elim
theorem Lg.rely (h:Lg P m ty Wg Stop f g w) (hr:WgLive ty Wg w→WgLive ty Wg w₁):Lg P m ty Wg Stop f g w₁:=Goes.rely RL.trans h hr
theorem Lg.status (hS : ∀ g,Stop g→g.status = .running) (h:Lg P m ty Wg Stop f g w):g.status = .running:=Goes.running (fun g _ hs=>hS g hs) w id h
end
/-! ### What is fixed -/
structure Ses where
 P:Program
 ty:TypeId
 Wg:Nat
 C:Nat
 K:Nat
 n:Nat
 eC:TypeId
 e9:TypeId
 e10:TypeId
 pv:Nat→Value × Value
 bx:Nat→Value × Value
 cb0:Nat→BCls
 w0:World
 t0:Trace
 child:Nat→Nat→Goroutine
 Fin:Goroutine→Prop
 Anch:Goroutine→Prop
variable (S:Ses)
def clsL (cb:Nat→BCls) (j:Nat):Loc→Cls
 | .cell a => match cb a.block with
  | .own g => .own g
  | .shared s => .shared s
  | .sync => .sync
  | .dead => .dead
  | .cells => .own (if a.off / 2 < j then S.K + a.off / 2 else 0)
 | .obj r => match cb r with
  | .own g => .own g
  | .shared s => .shared s
  | _ => .dead
 | _ => .dead
def put2 (i:Nat) (w:World):World:=(w.setCell ⟨S.C,2*i,none⟩ (S.pv i).1).setCell ⟨S.C,2*i+1,none⟩ (S.pv i).2
def ev2 (i:Nat):Array Event := #[⟨.cell ⟨S.C,2*i,none⟩,true,false⟩,⟨.cell ⟨S.C,2*i+1,none⟩,true,false⟩]
def AtStore (i:Nat) (g:Goroutine) (_:World):Prop:=g.status = .running ∧ ∃ g',
 (∀ w c,w.heap[S.C]? = some (.cells c S.eC (0,0))→2*i+1<c.size→stepG S.P false g w = .go g' (put2 S i w) (ev2 S i))∧LGo S.P false S.ty S.Wg (R0 S.P S.ty S.Wg) g'
structure Wk where
 s:Nat
 f:Nat
 d:Nat
 x:Anc
def anc0:Anc:=⟨false,fun _ _=>True,default,default⟩
theorem anc0_acc {P:Program} : Acc (Rg P) anc0:=⟨_,fun y ⟨_,_,h,_⟩=>absurd (fun _ _=>trivial) h⟩
inductive WSit (cb:Nat→BCls) (i:Nat):Nat→Nat→Nat→Anc→Goroutine→World→Prop
 | work {g ĝ₀ ĝ w} : @GoI noAsk S.P false (AtStore S i) g ĝ₀ → Grow ĝ₀ ĝ → MskK cb (S.K + i) ĝ w → WSit cb i 8 0 0 ⟨false, AtStore S i, g, ĝ₀⟩ g w
 | r0 {f g w} : Lg S.P false S.ty S.Wg (R0 S.P S.ty S.Wg) f g w → WSit cb i 7 f 0 anc0 g w
 | k1 {f g w} : Lg S.P false S.ty S.Wg (K1 S.P S.ty S.Wg) f g w → WSit cb i 6 f 0 anc0 g w
 | d1 {f g w} : Lg S.P false S.ty S.Wg (D1 S.P S.ty S.Wg) f g w → WSit cb i 5 f 1 anc0 g w
 | d2 {f g w} : Lg S.P false S.ty S.Wg (D2 S.P S.ty S.Wg) f g w → WSit cb i 4 f 1 anc0 g w
 | d3 {f g w} : Lg S.P false S.ty S.Wg (D3 S.P S.ty S.Wg) f g w → WSit cb i 3 f 1 anc0 g w
 | d4 {f g w} : Lg S.P false S.ty S.Wg (D4 S.P S.ty S.Wg) f g w → WSit cb i 2 f 1 anc0 g w
 | quit {q d g w} : QuitsD S.P q d g → WSit cb i 1 q d anc0 g w
theorem says_run {P:Program} {m:Bool} {ty:TypeId} {Wg:Nat} {k:Mark} {Stop:Goroutine→Prop} : ∀ g,Says P m ty Wg k Stop g→g.status = .running:=fun _ h=>h.1
section
variable {S:Ses} {cb cb':Nat→BCls} {i s f d:Nat} {x:Anc} {g:Goroutine} {w w':World}
theorem WSit.status (h:WSit S cb i s f d x g w):g.status = .running∨g.status = .finished:=by
 cases h with
 | work h hg _ =>
  refine .inl ?_
  cases h with
  | stop h => exact (h _ hg).1
  | step h _ _ => exact h
  | ask _ _ h => exact h.elim
 | r0 h => exact .inl (h.status says_run)
 | k1 h => exact .inl (h.status says_run)
 | d1 h => exact .inl (h.status fun _ h => h.1)
 | d2 h => exact .inl (h.status fun _ h => h.1)
 | d3 h => exact .inl (h.status fun _ h => h.1)
 | d4 h => exact .inl (h.status fun _ h => h.1)
 | quit h => exact h.status
theorem WSit.running (h:WSit S cb i s f d x g w) (hs:s≠1):g.status = .running:=by
 cases h with
 | quit _ => exact absurd Z hs
 | work h hg _ =>
  cases h with
  | stop h => exact (h _ hg).1
  | step h _ _ => exact h
  | ask _ _ h => exact h.elim
 | r0 h => exact h.status says_run
 | k1 h => exact h.status says_run
 | d1 h => exact h.status fun _ h => h.1
 | d2 h => exact h.status fun _ h => h.1
 | d3 h => exact h.status fun _ h => h.1
 | d4 h => exact h.status fun _ h => h.1
theorem WSit.woken (h:WSit S cb i s f d x g w) (a a':Goroutine) (w':World):woken S.P a a' w' g=g:=by
 unfold Go.Conc.woken
 split
 ·exact again_running _ h.status
 ·rfl
theorem WSit.acc (h:WSit S cb i s f d x g w):Acc (Rg S.P) x:=by
 cases h with
 | work h _ _ => exact h.acc
 | _ => exact anc0_acc
theorem WSit.at (h:WSit S cb i s f d x g w) (dr:Nat):WSit S cb i s f d x g (w.at dr):=by
 cases h with
 | work h hg hM => obtain ⟨ĝ', h1, h2⟩ := hM.rely (w' := w.at dr) (cb' := cb) Z Z Z (Nat.le_refl _) (fun _ _ => rfl) (fun b h1 h2 => absurd h2 (Nat.not_lt.2 h1)) fun _ _ _ => rfl; exact .work h (hg.trans h2) h1
 | r0 h => exact .r0 (h.rely id)
 | k1 h => exact .k1 (h.rely id)
 | d1 h => exact .d1 (h.rely id)
 | d2 h => exact .d2 (h.rely id)
 | d3 h => exact .d3 (h.rely id)
 | d4 h => exact .d4 (h.rely id)
 | quit h => exact .quit h
end
/-! ### The change that a step makes -/
structure Chg (cb:Nat→BCls) (γ:Nat) (w w':World):Prop where
 os:w'.os=w.os
 tape:w'.tape=w.tape
 output:w'.output=w.output
 size:w.heap.size≤w'.heap.size
 blk : ∀ b,b<w.heap.size→cb b ≠ .own γ→b≠S.Wg→b≠S.C→w'.heap[b]? = w.heap[b]?
 live:WgLive S.ty S.Wg w→WgLive S.ty S.Wg w'
section
variable {S:Ses} {cb:Nat→BCls} {i s f d γ:Nat} {x:Anc} {g:Goroutine} {w w':World}
theorem Chg.refl (w:World):Chg S cb γ w w:=⟨rfl,rfl,rfl,Nat.le_refl _,fun _ _ _ _ _=>rfl,id⟩
theorem Chg.wg {o:Nat} {v:Value} (hl:WgLive S.ty S.Wg (w.setCell ⟨S.Wg,o,none⟩ v)):Chg S cb γ w (w.setCell ⟨S.Wg,o,none⟩ v) :=
 ⟨rfl,rfl,rfl,by rw [setCell_size]; exact Nat.le_refl _,fun b _ _ h _=>by rw [setCell_at,if_neg h],fun _=>hl⟩
theorem MskK.chg {k:Nat} {ĝ : World} (h:MskK cb k ĝ w) (c:Chg S cb γ w w') (hne:k≠γ) (hW:cb S.Wg = .sync) (hC:cb S.C = .cells∨S.n=0∧w'.heap[S.C]? = w.heap[S.C]?) :
  ∃ ĝ',MskK (cbN cb w.heap.size γ) k ĝ' w'∧Grow ĝ ĝ':=by
 refine h.rely c.os c.tape c.output c.size (fun b hb=>cbN_old hb) (fun b hb _=>Fb_other (cbN_new hb) hne.symm) fun b hb hf => ?_
 by_cases hCb:b=S.C
 ·rcases hC with hC | hC
  ·subst hCb
   refine absurd ⟨by rw [hC]; simp,?_⟩ hf
   rintro ⟨s,e,_⟩;rw [hC] at e;cases e
  ·rw [hCb]; exact hC.2
 refine c.blk b hb (fun e=>hf (Fb_other e hne.symm)) (fun e => ?_) hCb
 subst e
 refine hf ⟨by rw [hW]; simp,?_⟩
 rintro ⟨s,e,_⟩;rw [hW] at e;cases e
theorem WSit.chg (h:WSit S cb i s f d x g w) (c:Chg S cb γ w w') (hne:S.K+i≠γ) (hW:cb S.Wg = .sync) (hC:cb S.C = .cells∨S.n=0∧w'.heap[S.C]? = w.heap[S.C]?):WSit S (cbN cb w.heap.size γ) i s f d x g w':=by
 cases h with
 | work h hg hM => obtain ⟨ĝ', h1, h2⟩ := hM.chg c hne hW hC; exact .work h (hg.trans h2) h1
 | r0 h => exact .r0 (h.rely c.live)
 | k1 h => exact .k1 (h.rely c.live)
 | d1 h => exact .d1 (h.rely c.live)
 | d2 h => exact .d2 (h.rely c.live)
 | d3 h => exact .d3 (h.rely c.live)
 | d4 h => exact .d4 (h.rely c.live)
 | quit h => exact .quit h
theorem evOk_okT {N B k j top:Nat} {e:Event} (h:EvOk (fun b=>b<N∧Fb cb k b) (fun b=>b<N∧Vb cb k b) B e) (hk:k<top) : ∀ y,(MemAct.ofEvent e).touch? = some y→OkT (clsL S (cbN cb N k) j) top k y∧y.kind = .plain:=by
 intro y hy
 obtain ⟨l,wt,sy⟩:=e
 rcases h with h | ⟨h1,b,h2,h3,h4,_⟩
 ·simp only at h
  subst h
  cases hy
 ·simp only at h1 h2 h4
  subst h1
  have hcls : ∀ c:Cls,(∀ g,cbN cb N k b = .own g→c = .own g)→(∀ s,cbN cb N k b = .shared s→c = .shared s)→(c = .own k ∨ ∃ s,c = .shared s∧rdb s top k∧wt=false):=fun c c1 c2=>by
   rcases Nat.lt_or_ge b N with hl | hl
   ·by_cases ho:cb b = .own k
    ·exact .inl (c1 k (by rw [cbN_old hl]; exact ho))
    ·have hv:Vb cb k b:=Classical.byContradiction fun hv=>h3 ⟨hl,ho,hv⟩
     have hw:wt=false:=by
      cases wt with
      | false => rfl
      | true => exact absurd ⟨hl, hv⟩ (h4 Z)
     obtain ⟨s,e,hs⟩:=hv
     exact .inr ⟨s,c2 s (by rw [cbN_old hl]; exact e),hs.imp id fun h=>⟨h,hk⟩,hw⟩
   ·exact .inl (c1 k (cbN_new hl))
  have fin : ∀ y:Touch,y.loc=l→y.write=wt→y.kind = .plain→(∀ g,cbN cb N k b = .own g→clsL S (cbN cb N k) j l = .own g)→(∀ s,cbN cb N k b = .shared s→clsL S (cbN cb N k) j l = .shared s)→OkT (clsL S (cbN cb N k) j) top k y∧y.kind = .plain:=fun y e1 e2 e3 c1 c2=>by
   refine ⟨?_,e3⟩
   rcases hcls _ c1 c2 with h | ⟨s,h5,h6,h7⟩
   ·exact .inr (.inl ⟨by rw [e1]; exact h,e3⟩)
   ·exact .inr (.inr ⟨s,by rw [e1]; exact h5,h6,e2.trans h7,e3⟩)
  rcases h2 with ⟨a,rfl,hb⟩ | rfl
  ·have:(MemAct.ofEvent ⟨.cell a,wt,false⟩).touch? = some ⟨.cell a,wt, .plain⟩:=rfl
   rw [this] at hy;cases hy
   subst hb
   exact fin _ Z Z Z (fun g e=>by simp only [clsL,e]) fun s e=>by simp only [clsL,e]
  ·have:(MemAct.ofEvent ⟨.obj b,wt,false⟩).touch? = some ⟨.obj b,wt, .plain⟩:=by cases wt <;> rfl
   rw [this] at hy;cases hy
   exact fin _ Z Z Z (fun g e=>by simp only [clsL,e]) fun s e=>by simp only [clsL,e]
theorem evOk_low {F BU:Nat→Prop} {B:Nat} {e:Event} (h:EvOk F BU B e):(MemAct.ofEvent e).low B∧e.loc ≠ .mark .disable∧e.loc ≠ .mark .enable ∧ ∀ a,e.loc ≠ .mark (.release a):=by
 obtain ⟨l,wt,sy⟩:=e
 rcases h with h | ⟨h1,b,h2,_,_,h5⟩
 ·simp only at h
  subst h
  exact ⟨trivial,by simp,by simp,by simp⟩
 ·simp only at h1 h2
  subst h1
  rcases h2 with ⟨a,rfl,hb⟩ | rfl
  ·exact ⟨by subst hb;exact h5,by simp,by simp,by simp⟩
  ·refine ⟨?_,by simp,by simp,by simp⟩
   cases wt <;> exact h5
end
end Tor.Co
end
