/-
  Theorems that the proofs of laws of this seat rest on.
  No condition.
-/
import Derived.Test.YtbgloceimmbliaaGreatEA5
import Init
set_option linter.unusedVariables false
set_option linter.unusedSimpArgs false
section
namespace Tor
open Go Go.RowKit Go.Proofs
def dy (n d:Int):VT:=bC 4 [(0, .agg 2,aL n),(2, .agg 2,aL d)]
def cv (q:Rat):VT:=dy q.num q.den
theorem iP {n n' d d':Int} (h:n=n') (h':d=d'):VT.le (bC 4 [(0, .agg 2,aL n),(2, .agg 2,aL d)]) (dy n' d'):=h▸h'▸VT.le_refl _
instance {n d:Int} : Flat (dy n d) (.agg 4):=by unfold dy;infer_instance
instance {q:Rat} : Flat (cv q) (.agg 4):=by unfold cv;infer_instance
theorem q6 {n d:Int} (h:0<d):n / ((Nat.gcd n.natAbs d.natAbs:Nat):Int)=(Rat.divInt n d).num∧d / ((Nat.gcd n.natAbs d.natAbs:Nat):Int)=((Rat.divInt n d).den:Int):=by
 have e:Int.gcd d n=Nat.gcd n.natAbs d.natAbs:=Nat.gcd_comm _ _
 rw [Rat.num_divInt,Rat.den_divInt,if_neg Z,e,Int.sign_eq_one_of_pos h,Int.one_mul]
 refine ⟨rfl,?_⟩
 rw [Int.natCast_ediv,Int.natAbs_of_nonneg (Int.le_of_lt h)]
theorem vn {n d:Int} (h:d<0):n / -((Nat.gcd n.natAbs d.natAbs:Nat):Int)=(Rat.divInt n d).num∧d / -((Nat.gcd n.natAbs d.natAbs:Nat):Int)=((Rat.divInt n d).den:Int):=by
 have e:Int.gcd d n=Nat.gcd n.natAbs d.natAbs:=Nat.gcd_comm _ _
 have h1:((Nat.gcd n.natAbs d.natAbs:Nat):Int)∣n:=Int.gcd_dvd_left ..
 have h2:((Nat.gcd n.natAbs d.natAbs:Nat):Int)∣d:=Int.gcd_dvd_right ..
 rw [Rat.num_divInt,Rat.den_divInt,if_neg Z,e,Int.sign_eq_neg_one_of_neg h,Int.ediv_neg,Int.ediv_neg]
 refine ⟨?_,?_⟩
 ·rw [Int.neg_mul,Int.one_mul,Int.neg_ediv_of_dvd h1]
 ·rw [Int.natCast_ediv, ← Int.neg_ediv_of_dvd h2]; congr 1;omega
theorem wB {n d:Int} (h:d≠0) (hs:bm d):bm ((Nat.gcd n.natAbs d.natAbs:Nat):Int):=by
 have h1:Nat.gcd n.natAbs d.natAbs≤d.natAbs:=Nat.le_of_dvd Z (Nat.gcd_dvd_right _ _)
 unfold bm at *
 rw [Int.natAbs_natCast]
 exact Nat.le_trans (bZ h1) hs
theorem tT {n d:Int} (h:d≠0):((Nat.gcd n.natAbs d.natAbs:Nat):Int)≠0:=by
 have:=Nat.gcd_pos_of_pos_right n.natAbs (show 0<d.natAbs by omega)
 omega
theorem sA:VT.le (one (.agg #[.bool false, .slice none 0 0])) (aL 0):=by
 intro v h e
 have e:v = .agg #[.bool false, .slice none 0 0]:=e
 subst e
 exact iK _ _ ⟨_,rfl,rfl,by simp [Value.oneCell'],fun q hq=>by
  rcases List.mem_cons.1 hq with rfl | hq
  ·exact ⟨_,rfl,rfl⟩
  ·rcases List.mem_cons.1 hq with rfl | hq
   ·exact ⟨_,rfl,rfl⟩
   ·cases hq⟩
theorem tU:VT.le (bC 4 (dx #[Value.bool false,Value.slice none 0 0,Value.bool false,Value.slice none 0 0] [(0,Lay.agg 2),(2,Lay.agg 2)])) (bC 4 [(0, .agg 2,aL 0),(2, .agg 2,aL 0)]):=eO (fun q hq=>by
 rcases List.mem_cons.1 hq with rfl | hq
 ·exact ⟨_,List.mem_cons_self,sA⟩
 ·rcases List.mem_cons.1 hq with rfl | hq
  ·exact ⟨_,List.mem_cons_of_mem _ List.mem_cons_self,sA⟩
  ·cases hq)
attribute [local irreducible] Tor.J Tor.PJ Tor.aK Tor.one Tor.slT Tor.bO Tor.bC Tor.bv Tor.exT Tor.cd Tor.eP Tor.aR Tor.aI Tor.slV Tor.VT.le Tor.Ret Tor.bJ
set_option maxHeartbeats 4000000 in
theorem sB:Ok Tryz.prog 101 [aL 0] (bv [aL 0,one (.int .i64 0)]):=by
 have hsi:=db 0
 rw [show c8 0=0 from rfl] at hsi
 refine Ok.enter Tryz.func101 Y Tryz.ntmps101 Y (fun w O => ?_)
 refine ae (ai ?_)
 refine aS Y Y (ltN Y) (fun b1 => ?_)
 refine aG (T:=37) Y (ltN Y) (fun b2 => ?_)
 refine st (ah Y) Y (Run.nil (aa (ae (ae (ai (st (aO 1 Y Y) Y ?_))))))
 refine st (am (hsi) Y ⟨VT.le_refl _,trivial⟩) Y ?_
 refine Run.nil (aa (au (ae (ai (st (sF Z (ci Y Y)) Y (st (ah Y) Y (Run.nil (aa (aB Y ?_)))))))))
 refine ae (ai (st (sT Z (ci Y Y)) Y (st (ah Y) Y (Run.nil (aa (aH Y (ae (ai (stB Y Y Y ?_)))))))))
 refine BuildK.nil (aA 0 Y Y Y Y Y (leN Y) Y (st (ah Y) Y (Run.nil (aa (aE (bN (aW ?_)))))))
 refine cV Tryz.results101 (.cellB 0 Y Y Y (iK)) (.tmp Y H)
set_option maxHeartbeats 4000000 in
theorem wC (n d:Int) (hd:d≠0) (hn:bm n) (hds:bm d):Ok Tryz.prog 148 [dy n d] (cv (Rat.divInt n d)):=by
 have hg:=yC n d hn hds
 have hgs:=wB (n:=n) hd hds
 have hg0:=tT (n:=n) hd
 have hsi:=db d
 unfold cv dy
 refine Ok.enter Tryz.func148 Y Tryz.ntmps148 Y (fun w O => ?_)
 by_cases h:d<0
 ·obtain ⟨l1,l2⟩:=vn (n:=n) h
  have hs:c8 d = -1:=by unfold c8;rw [if_neg hd,if_pos h]
  rw [hs] at hsi
  refine ae (ai ?_)
  refine aS Y Y (ltN Y) (fun b1 => ?_)
  refine bq (T:=58) Y Y Y (fun b2 => ?_)
  refine Run.nil (aa (ae (ae (ai (st (aj Y) Y (st (ak 1 Y Y Y) Y ?_))))))
  refine st (am (hsi) Y ⟨VT.le_refl _,trivial⟩) Y ?_
  refine st (sF Z (ci Y Y)) Y (Run.nil (aa (aB Y (az (aa (ae (ai (st (aj Y) Y (st (ak 1 Y Y Y) Y ?_)))))))))
  refine st (aj Y) Y (st (ak 1 Y Y Y) Y ?_)
  refine st (am (hg) Y ⟨VT.le_refl _,VT.le_refl _,trivial⟩) Y ?_
  refine aG (T:=37) Y (ltN Y) (fun b3 => ?_)
  refine aA 0 Y Y Y Y Y (leN Y) Y (Run.nil (aa (ae (ae (ai (st (aj Y) Y (st (ak 2 Y Y Y) Y ?_)))))))
  refine st (am (hsi) Y ⟨VT.le_refl _,trivial⟩) Y ?_
  refine st (sT Z (a7 Y Y)) Y (Run.nil (aa (aH Y (ai (st (ak 0 Y Y Y) Y ?_)))))
  refine st (am (va _ (by assumption)) Y ⟨VT.le_refl _,trivial⟩) Y ?_
  refine aA 0 Y Y Y Y Y (leN Y) Y (Run.nil (aa (ae (ai (st (aj Y) Y (st (ak 2 Y Y Y) Y (st (ak 0 Y Y Y) Y ?_)))))))
  refine st (am (dk _ _ Z (by assumption) (mq ‹_›)) Y ⟨VT.le_refl _,VT.le_refl _,trivial⟩) Y ?_
  refine st (ab Y) Y (st (aq Y Y) Y (st (aq Y Y) Y (st (aq Y Y) Y ?_)))
  refine aG (T:=37) Y (ltN Y) (fun b4 => ?_)
  refine aG (T:=37) Y (ltN Y) (fun b5 => ?_)
  refine aA 1 Y Y Y Y Y (leN Y) Y (aA 0 Y Y Y Y Y (leN Y) Y (st (ah Y) Y (Run.nil (aa (ae (ai (st (aj Y) Y (st (ak 4 Y Y Y) Y (st (ak 2 Y Y Y) Y ?_)))))))))
  refine st (am (dk _ _ Z (by assumption) (mq ‹_›)) Y ⟨VT.le_refl _,VT.le_refl _,trivial⟩) Y ?_
  refine st (ab Y) Y (st (aq Y Y) Y (st (aq Y Y) Y (st (aq Y Y) Y ?_)))
  refine aG (T:=37) Y (ltN Y) (fun b7 => ?_)
  refine aG (T:=37) Y (ltN Y) (fun b8 => ?_)
  refine aA 1 Y Y Y Y Y (leN Y) Y (aA 0 Y Y Y Y Y (leN Y) Y (st (ah Y) Y (Run.nil (aa (ae (ai (st (ak 3 Y Y Y) Y (st (ak 1 Y Y Y) Y (stB Y Y Y ?_)))))))))
  refine BuildK.cons Y Y Y (BuildK.cons Y Y Y (BuildK.nil (a4 5 Y Y Y Y (Run.nil (aa (aE ?_))))))
  refine aT Tryz.results148 (.cellW 5 Y Y (iP l1 l2))
 ·obtain ⟨l1,l2⟩:=q6 (n:=n) (show 0<d by omega)
  have hs:c8 d=1:=by unfold c8;rw [if_neg hd,if_neg h]
  rw [hs] at hsi
  refine ae (ai ?_)
  refine aS Y Y (ltN Y) (fun b1 => ?_)
  refine bq (T:=58) Y Y Y (fun b2 => ?_)
  refine Run.nil (aa (ae (ae (ai (st (aj Y) Y (st (ak 1 Y Y Y) Y ?_))))))
  refine st (am (hsi) Y ⟨VT.le_refl _,trivial⟩) Y ?_
  refine st (sF Z (ci Y Y)) Y (Run.nil (aa (aB Y (az (aa (ae (ai (st (aj Y) Y (st (ak 1 Y Y Y) Y ?_)))))))))
  refine st (aj Y) Y (st (ak 1 Y Y Y) Y ?_)
  refine st (am (hg) Y ⟨VT.le_refl _,VT.le_refl _,trivial⟩) Y ?_
  refine aG (T:=37) Y (ltN Y) (fun b3 => ?_)
  refine aA 0 Y Y Y Y Y (leN Y) Y (Run.nil (aa (ae (ae (ai (st (aj Y) Y (st (ak 2 Y Y Y) Y ?_)))))))
  refine st (am (hsi) Y ⟨VT.le_refl _,trivial⟩) Y ?_
  refine st (sF Z (a7 Y Y)) Y (Run.nil (aa (aB Y (az (aa (ae (ai (st (aj Y) Y (st (ak 2 Y Y Y) Y ?_)))))))))
  refine st (ak 0 Y Y Y) Y ?_
  refine st (am (dk _ _ (by assumption) (by assumption) (by assumption)) Y ⟨VT.le_refl _,VT.le_refl _,trivial⟩) Y ?_
  refine st (ab Y) Y (st (aq Y Y) Y (st (aq Y Y) Y (st (aq Y Y) Y ?_)))
  refine aG (T:=37) Y (ltN Y) (fun b4 => ?_)
  refine aG (T:=37) Y (ltN Y) (fun b5 => ?_)
  refine aA 1 Y Y Y Y Y (leN Y) Y (aA 0 Y Y Y Y Y (leN Y) Y (st (ah Y) Y (Run.nil (aa (ae (ai (st (aj Y) Y (st (ak 4 Y Y Y) Y (st (ak 2 Y Y Y) Y ?_)))))))))
  refine st (am (dk _ _ (by assumption) (by assumption) (by assumption)) Y ⟨VT.le_refl _,VT.le_refl _,trivial⟩) Y ?_
  refine st (ab Y) Y (st (aq Y Y) Y (st (aq Y Y) Y (st (aq Y Y) Y ?_)))
  refine aG (T:=37) Y (ltN Y) (fun b7 => ?_)
  refine aG (T:=37) Y (ltN Y) (fun b8 => ?_)
  refine aA 1 Y Y Y Y Y (leN Y) Y (aA 0 Y Y Y Y Y (leN Y) Y (st (ah Y) Y (Run.nil (aa (ae (ai (st (ak 3 Y Y Y) Y (st (ak 1 Y Y Y) Y (stB Y Y Y ?_)))))))))
  refine BuildK.cons Y Y Y (BuildK.cons Y Y Y (BuildK.nil (a4 5 Y Y Y Y (Run.nil (aa (aE ?_))))))
  refine aT Tryz.results148 (.cellW 5 Y Y (iP l1 l2))
set_option maxHeartbeats 4000000 in
theorem Ct (n d:Int) (hd:d≠0) (hn:bm n) (hds:bm d):Ok Tryz.prog 103 [aL n,aL d] (bv [cv (Rat.divInt n d),one (.int .i64 0)]):=by
 have hlow:=wC n d hd hn hds
 have hs:c8 d≠0:=by unfold c8;rw [if_neg hd]; split <;> decide
 unfold cv dy at *
 refine Ok.enter Tryz.func103 Y Tryz.ntmps103 Y (fun w O => ?_)
 refine ae (ai ?_)
 refine aS Y Y (ltN Y) (fun b2 => ?_)
 refine aS Y Y (ltN Y) (fun b3 => ?_)
 refine bq (T:=58) Y Y Y (fun b4 => ?_)
 refine st (ah Y) Y (Run.nil (aa (ae (ae (ai (st (aO 1 Y Y) Y ?_))))))
 refine st (am (db _) Y ⟨VT.le_refl _,trivial⟩) Y ?_
 refine st (sF (by assumption) (ci Y Y)) Y (Run.nil (aa (aB Y (az (aa (ae (ai (st (aO 2 Y Y) Y (st (aO 1 Y Y) Y ?_)))))))))
 refine stB Y Y Y (BuildK.cons Y Y Y (BuildK.cons Y Y Y (BuildK.nil ?_)))
 refine st (am (hlow) Y ⟨VT.le_refl _,trivial⟩) Y ?_
 refine a4 0 Y Y Y Y (st (ah Y) Y (Run.nil (aa (aE ?_))))
 refine cV Tryz.results103 (.cellW 0 Y Y H) (.tmp Y H)
set_option maxHeartbeats 4000000 in
theorem AY (n:Int):Ok Tryz.prog 103 [aL n,aL 0] (bv [dy 0 0,one (.int .i64 3)]):=by
 unfold dy at *
 refine Ok.enter Tryz.func103 Y Tryz.ntmps103 Y (fun w O => ?_)
 have hsi:=db 0
 rw [show c8 0=0 from rfl] at hsi
 refine ae (ai ?_)
 refine aS Y Y (ltN Y) (fun b2 => ?_)
 refine aS Y Y (ltN Y) (fun b3 => ?_)
 refine bq (T:=58) Y Y Y (fun b4 => ?_)
 refine st (ah Y) Y (Run.nil (aa (ae (ae (ai (st (aO 1 Y Y) Y ?_))))))
 refine st (am (hsi) Y ⟨VT.le_refl _,trivial⟩) Y ?_
 refine st (sT Z (ci Y Y)) Y (Run.nil (aa (aH Y (ae (ai (stB Y Y Y (BuildK.nil (a4 0 Y Y Y Y (st (ah Y) Y ?_)))))))))
 refine Run.nil (aa (aE (aW ?_)))
 refine cV Tryz.results103 (.cellW 0 Y Y (tU)) (.tmp Y H)
set_option maxHeartbeats 4000000 in
theorem AZ (a b c d:Int) (hc:c≠0) (ha:bm a) (hcs:bm c) (hb:bm b) (hd:bm d) (hq:bm (a / c)) (hm:bm (a / c*d)):Ok Tryz.prog 102 [dy a b,dy c d] (dy (a % c) (b - a / c*d)):=by
 unfold dy at *
 refine Ok.enter Tryz.func102 Y Tryz.ntmps102 Y (fun w O => ?_)
 refine ae (ai ?_)
 refine aS Y Y (ltN Y) (fun b2 => ?_)
 refine aS Y Y (ltN Y) (fun b3 => ?_)
 refine bq (T:=137) Y Y Y (fun b4 => ?_)
 refine Run.nil (aa (ae (ai (st (aj Y) Y (st (ak 2 Y Y Y) Y (st (aj Y) Y (st (ak 1 Y Y Y) Y ?_)))))))
 refine st (am (dk _ _ (by assumption) (by assumption) (by assumption)) Y ⟨VT.le_refl _,VT.le_refl _,trivial⟩) Y ?_
 refine st (ab Y) Y (st (aq Y Y) Y (st (aq Y Y) Y (st (aq Y Y) Y ?_)))
 refine aG (T:=37) Y (ltN Y) (fun b5 => ?_)
 refine aG (T:=37) Y (ltN Y) (fun b6 => ?_)
 refine aA 1 Y Y Y Y Y (leN Y) Y (aA 0 Y Y Y Y Y (leN Y) Y (st (ah Y) Y (Run.nil (aa (ae (a6 9 aZ X S (st (ak 0 Y Y Y) Y (st (aj Y) Y (st (ak 4 Y Y Y) Y ?_)))))))))
 refine st (ak 1 Y Y Y) Y (st (aj Y) Y (st (ak 3 Y Y Y) Y ?_))
 refine st (am (eR _ _ (by assumption) (by assumption)) Y ⟨VT.le_refl _,VT.le_refl _,trivial⟩) Y ?_
 refine st (am (lL _ _ (by assumption) (by assumption)) Y ⟨VT.le_refl _,VT.le_refl _,trivial⟩) Y ?_
 refine stB Y Y Y (BuildK.cons Y Y Y (BuildK.cons Y Y Y (BuildK.nil (Run.nil (a4 2 Y Y Y Y (Run.nil (aa (aE ?_))))))))
 refine aT Tryz.results102 (.cellW 2 Y Y H)
end Tor
end
section
namespace Tor
open Go Go.RowKit Go.Proofs
section
variable {P:Program} {E:Env} {Γ:Ctx} {M:Mem} {d:Option Tmp} {ty:TypeId} {pos:String} {af:Array Edge} {gd:Option (Nat × Bool)}
theorem Cu {T T':TypeId} {x y:Operand} {a b:Nat} (hx:aN Γ x=some (one (.int .u32 (a:Int)))) (hy:aN Γ y=some (one (.int .u32 (b:Int)))) (h:a*b<4294967296) :
  aK P E Γ M ⟨d, .binOp .mul T x y T',ty,pos,af,gd⟩ (one (.int .u32 ((a*b:Nat):Int))) :=
 mL hx hy (by
  rw [kX, ← Int.natCast_mul]
  generalize a*b=z at *
  omega)
theorem wD {L:Lay} {k m j:Nat} {c c':Array Value} {x:Value} (h:bS (.agg m) c k=some (.agg c')) (hx:bS L c' j=some x):bS L c (k+j)=some x:=by
 simp only [bS] at h
 split at h
 ·rename_i hk
  cases h
  cases L with
  | one =>
   simp only [bS] at hx ⊢
   rw [cu] at hx
   split at hx
   ·exact hx
   ·cases hx
  | agg n =>
   simp only [bS] at hx ⊢
   have hs:(c.extract k (k+m)).size=m:=by simp;omega
   rw [hs] at hx
   split at hx
   ·rename_i hj
    rw [if_pos Z]
    rw [← hx]
    congr 2
    apply Array.ext_getElem?
    intro i
    rw [cu,cu,cu]
    by_cases hi:i<n
    ·rw [if_pos hi,if_pos hi,if_pos Z,Nat.add_assoc]
    ·rw [if_neg hi,if_neg hi]
   ·cases hx
 ·cases h
theorem fl {T T':TypeId} {L:Lay} [LayOf P T L] {x:Operand} {b o m m':Nat} {cs cs':ck} {φ:VT} (i k j:Nat) (hx:aN Γ x=some (one (.pointer (some ⟨b,o,none⟩)))) (hM:M[i]? = some (aR b T' m cs))
  (hl:eH cs k=some (.agg m',bC m' cs')) (ho:o=k+j) (hl2:eH cs' j=some (L, φ)):aK P E Γ M ⟨d, .load T x,ty,pos,af,gd⟩ φ :=
 aK.ofRun fun a w hb hf=>by
  have h1:a.eval x = .pointer (some ⟨b,o,none⟩):=hf x _ (by simp [Op.operands]) hx
  obtain ⟨c,hc,_,_,hcs⟩:=d9 hb hM
  obtain ⟨v,hx',c',rfl,hs',_,hcs'⟩:=hcs _ (dW hl)
  obtain ⟨y,hy,hp⟩:=hcs' _ (dW hl2)
  refine ⟨y,?_,hp⟩
  have h2:=wD hx' hy
  subst ho
  simp only [execOp,h1,Instr.loadAt,Instr.sureAddr,Sem.run_bind,Sem.run_pure,Result.andThen_ok,du hc h2]
theorem q7 {b:Nat} {T:TypeId} {m:Nat} {cs:ck} {φ:VT} (h:VT.le (bC m cs) φ):Own.le (aR b T m cs) (aR b T m [(0, .agg m, φ)]) :=
 ⟨rfl,fun g h' ⟨c,hb,hs,ha,hc⟩=>⟨c,hb,hs,ha,fun q hq=>by
  rw [List.mem_singleton.1 hq]
  exact ⟨.agg c,by subst hs;simp [bS],h _ _ ⟨c,rfl,hs,ha,hc⟩⟩⟩⟩
theorem kJ {ops:Array Oper} {i:Nat} {os:List Oper} {K:List Deferred→Ctx→Mem→Prop} {D:List Deferred} {t:Nat} {φ ψ:VT} (ht:bP Γ t=some φ) (hle:VT.le φ ψ) (h:Run P E ops false i D ((t, ψ) :: Γ) M os K):Run P E ops false i D Γ M os K :=
 .conv (fun a w hS=>hS.sub (fun s χ hs=>by
  rw [bx] at hs
  split at hs
  ·rename_i e;subst e;cases hs;exact ⟨φ,ht,hle⟩
  ·exact ⟨χ,hs,VT.le_refl _⟩) (SubM.refl _)) h
end
attribute [local irreducible] Tor.J Tor.PJ Tor.aK Tor.one Tor.slT Tor.bO Tor.bC Tor.bv Tor.exT Tor.cd Tor.eP Tor.aR Tor.aI Tor.slV Tor.VT.le Tor.Ret Tor.bJ
set_option maxHeartbeats 1000000 in
theorem pR (l:List Nat) (d:Nat) (hl:bE l) (h1:l.length≤1099511627776) (hd0:0<d) (hd:d<4294967296):Ok Tryz.prog 122 [co l,one (.int .u32 (d:Nat))] (bv [o7 (lv l / d),one (.int .u32 ((lv l % d:Nat):Int))]):=by
 refine Ok.enter Tryz.func122 Y Tryz.ntmps122 Y (fun w O => ?_)
 refine ae (ai (st (ah Y) Y (st (ah Y) Y (Run.nil (aa (ae (ai (st (ab Y) Y (st (aU Y) Y ?_)))))))))
 refine bV l.length l.length Y Y Y Y (Nat.le_refl _) Y Y Z Y Y (fun bz => ?_)
 refine st (ah Y) Y (st (ah Y) Y (Run.nil (aa (ae (ae (ai (st (ab Y) Y (st (aU Y) Y (st (ei Y Y (aP Z Z)) Y ?_)))))))))
 refine st (ah Y) Y (Run.nil (aa (au (cn (Γ' := [(0,_),(1,_),(4,_),(5,_),(6,_),(7,_),(8,_)]) DQ (SubM.refl _) ?_))))
 refine bB (σ:=List Nat × Nat × Nat) (Γk := [(0,_),(1,_),(4,_),(5,_),(6,_)]) DQ (fun s => [(8,one (.int .i64 ((s.2.1:Nat) - 1:Int))),(7,one (.int .u64 (s.2.2:Nat)))]) (fun s M0=>(M0.set 0 (aI (some bz) 86 .one l.length l.length (fun q=>one (.int .u32 (s.1.getD q 0:Nat)))))) (fun s=>ShortR l d s) (fun s=>s.2.1) ((List.replicate l.length 0,l.length,0)) (ShortR.start hd0) DR (.keep (be (fun q _=>by rw [cy]; rfl)) (.nil)) (fun s hs => ?_)
 refine bQ (Γ' := [(8,_),(7,_),(0,_),(1,_),(4,_),(5,_),(6,_)]) (M' := [_]) Y Y ?_
 obtain ⟨z,n,r⟩:=s
 dsimp only at hs ⊢
 refine ae (ae (ai (st (ab Y) Y (st (fx Y Y) Y (Run.nil (aa ?_))))))
 cases n with
 | zero =>
  obtain ⟨f1,f2⟩:=hs.finish
  have hlen:z.length=l.length:=hs.len
  have hr:r<d:=hs.r
  rw [← f1, ← f2]
  refine nk Y Z (aX (av (av (aF (aa (ae (ai (st (ab Y) Y (st (ab Y) Y ?_)))))))))
  refine st (cG Y) Y (st (ah Y) Y (st (ah Y) Y (Run.nil (aa (aE (cq (t:=4) (i:=0) Y Y ?_))))))
  refine cV Tryz.results122 (.tmp Y (VT.le_trans (cE (m:=z.length) (ψ:=fun i=>one (.int .u32 (z.getD i 0:Nat))) hlen.symm (fun q hq=>rfl)) (iq (l:=z) hs.lim Y Z))) (.tmp Y (ar (by congr 1;omega)))
 | succ n =>
  have hx:=a9 hl n
  have hr:r<d:=hs.r
  have hb:=ShortR.bound hx hr hd
  have hst:=hs.step hl hd
  have hn:n<l.length:=hs.le
  have hzn:n<z.length:=by have:=hs.len;dsimp only at this;omega
  have en:((n+1:Nat):Int) - 1=(n:Nat):=by omega
  rw [en]
  refine nj Y Z (az (aa (ae (au (ae (ai (st (ab Y) Y (st (gF (b:=4294967296) Y Y Z) Y (st (ab Y) Y ?_)))))))))
  refine st (ab Y) Y (st (aC Y Y Z) Y (st (aM Y) Y (st (bT Y Z) Y (st (dT Y Y Z) Y (st (ah Y) Y (Run.nil (aa (ae (ai ?_)))))))))
  refine st (ab Y) Y (st (ab Y) Y (st (ab Y) Y (st (ab Y) Y (st (bT Y Z) Y (st (jy Y Y Z Z) Y (st (cG Y) Y (st (ao Y Y Z) Y ?_)))))))
  (refine aw 0 Y Y Y ?_ Y ?_;omega)
  refine Run.nil (aa (ai (st (ab Y) Y (st (ab Y) Y (st (bT Y Z) Y (st (fC _ Y Y Y Z) Y (st (ah Y) Y (Run.nil (aD ?_)))))))))
  refine aa (ai (st (ab Y) Y (st (ei Y Y (aP Z Z)) Y (st (ah Y) Y (Run.nil ?_)))))
  refine aQ ((z.set n ((r*4294967296+l.getD n 0) / d),n,(r*4294967296+l.getD n 0) % d)) (hst) (by (simp only []; omega)) DR (.keep (qU hzn (Nat.mod_eq_of_lt hb.2)) (.nil))
def wE (r d:Nat):Nat :=
 if (aJ r).length=(aJ d).length then max 1 ((aJ r).getD ((aJ r).length - 1) 0 / ((aJ d).getD ((aJ d).length - 1) 0+1))
 else (((aJ r).getD ((aJ r).length - 1) 0*4294967296+(aJ r).getD ((aJ r).length - 2) 0) / ((aJ d).getD ((aJ d).length - 1) 0+1))*4294967296^((aJ r).length - (aJ d).length - 1)
theorem j9 {v:Nat} {n:Nat} (h:(aJ v).length=n+1):v=lv ((aJ v).take n)+4294967296^n*(aJ v).getD n 0∧lv ((aJ v).take n)<4294967296^n:=by
 have h1:=bL (l:=aJ v) (k:=n) Z
 rw [List.take_of_length_le Z,bX] at h1
 exact ⟨h1,by have:=kH (a5 v) n;rwa [← sk] at this⟩
theorem yF {r d:Nat} (hd:d≠0) (h:d≤r):0<wE r d∧wE r d*d≤r:=by
 have hlen:=bZ h
 have hdl:(aJ d).length≠0:=fun k=>hd (ev k)
 obtain ⟨m,hm⟩ : ∃ m,(aJ d).length=m+1:=⟨(aJ d).length - 1,by omega⟩
 obtain ⟨e,he⟩ : ∃ e,(aJ r).length=m+1+e:=⟨(aJ r).length - (m+1),by omega⟩
 have hdt:=a9 (a5 d) m
 obtain ⟨d1,d2⟩:=j9 hm
 unfold wE
 rw [hm,he]
 simp only [Nat.add_sub_cancel] at *
 generalize hx:(aJ d).getD m 0=x at *
 generalize lv ((aJ d).take m)=dl at *
 have hdlt:d<4294967296^m*(x+1):=by rw [Nat.mul_add]; omega
 cases e with
 | zero =>
  rw [if_pos Y]
  obtain ⟨r1,r2⟩:=j9 he
  simp only [Nat.add_zero,Nat.add_sub_cancel] at *
  generalize (aJ r).getD m 0=y at *
  generalize lv ((aJ r).take m)=rl at *
  refine ⟨by omega,?_⟩
  rcases Nat.eq_zero_or_pos (y / (x+1)) with hq | hq
  ·rw [hq]; simpa using h
  ·rw [Nat.max_eq_right hq]
   have h1:y / (x+1)*d≤y / (x+1)*(4294967296^m*(x+1)):=Nat.mul_le_mul_left _ (Nat.le_of_lt hdlt)
   have h2:y / (x+1)*(4294967296^m*(x+1))=4294967296^m*(y / (x+1)*(x+1)):=by rw [Nat.mul_left_comm]
   have h3:4294967296^m*(y / (x+1)*(x+1))≤4294967296^m*y:=Nat.mul_le_mul_left _ (Nat.div_mul_le_self _ _)
   omega
 | succ e =>
  rw [if_neg Z]
  rw [show m+1+(e+1) - 1=m+e+1 by omega,show m+1+(e+1) - 2=m+e by omega,show m+1+(e+1) - (m+1) - 1=e by omega]
  obtain ⟨r1,r2⟩:=j9 (show (aJ r).length=(m+e+1)+1 by omega)
  have r3:=bL (l:=aJ r) (k:=m+e) Z
  have hy0:(aJ r).getD (m+e+1) 0≠0:=by
   intro hy
   have:=cr (n:=r) (k:=m+e+1) (by rw [hy,Nat.mul_zero,Nat.add_zero] at r1;rw [r1]; exact r2)
   omega
  generalize (aJ r).getD (m+e+1) 0=y at *
  generalize (aJ r).getD (m+e) 0=y2 at *
  rw [r3] at r1
  generalize lv ((aJ r).take (m+e))=rl at *
  have hqp:0<(y*4294967296+y2) / (x+1):=Nat.div_pos Z Z
  have hle:=Nat.div_mul_le_self (y*4294967296+y2) (x+1)
  generalize (y*4294967296+y2) / (x+1)=q at *
  refine ⟨Nat.mul_pos hqp (Nat.pow_pos S),?_⟩
  have h1:q*4294967296^e*d≤q*4294967296^e*(4294967296^m*(x+1)):=Nat.mul_le_mul_left _ (Nat.le_of_lt hdlt)
  have h2:q*4294967296^e*(4294967296^m*(x+1))=4294967296^(m+e)*(q*(x+1)):=by
   rw [Nat.pow_add]; ac_rfl
  have h3:4294967296^(m+e)*(q*(x+1))≤4294967296^(m+e)*(y*4294967296+y2):=Nat.mul_le_mul_left _ hle
  have h4:4294967296^(m+e+1)*y=4294967296^(m+e)*(y*4294967296):=by rw [Nat.pow_succ]; ac_rfl
  rw [Nat.mul_add (4294967296^(m+e)) (y*4294967296) y2] at h3
  rw [h4] at r1
  rw [h2] at h1
  generalize 4294967296^(m+e)*(y*4294967296)=z1 at *
  generalize 4294967296^(m+e)*y2=z2 at *
  refine Nat.le_trans h1 (Nat.le_trans h3 ?_)
  rw [r1]
  exact Nat.le_trans (Nat.add_comm z1 z2▸Nat.le_refl _) (Nat.add_le_add_right (Nat.le_add_left _ _) _)
end Tor
end
section
namespace Tor
open Go Go.RowKit Go.Proofs
theorem A0 (a b:Nat):VT.le (slT .one 2 (fun q => [one (.int .u32 (b:Int)),one (.int .u32 (a:Int))].reverse.getD q bJ)) (slT .one 2 (fun q=>one (.int .u32 (([a,b].getD q 0:Nat):Int)))) :=
 cE Y (fun q hq=>by
  match q,hq with
  | 0, _ => rfl
  | 1, _ => rfl)
theorem Cv {k q:Nat} (hq:q<18446744073709551616) (hk:k≤1099511627776):VT.le (slT .one (k+2) (fun p=>if p<k then one (.int .u32 0) else (fun j=>one (.int .u32 (([q % 4294967296,q / 4294967296 % 4294967296].getD j 0:Nat):Int))) (p - k))) (o7 (q*4294967296^k)) :=
 VT.le_trans (cE (m:=(List.replicate k 0 ++ [q % 4294967296,q / 4294967296 % 4294967296]).length) (ψ:=fH (List.replicate k 0 ++ [q % 4294967296,q / 4294967296 % 4294967296])) (by simp) (fun p hp=>by
  unfold fH
  by_cases h:p<k
  ·rw [if_pos h]; simp [List.getD,List.getElem?_append,h]
  ·rw [if_neg h]; simp only [List.getD,List.getElem?_append,List.length_replicate,if_neg h])) (iq (fun d hd=>by
   rcases List.mem_append.1 hd with h | h
   ·rw [(List.mem_replicate.1 h).2]; decide
   ·rcases List.mem_cons.1 h with rfl | h
    ·exact Nat.mod_lt _ S
    ·rw [List.mem_singleton.1 h]; exact Nat.mod_lt _ S) (by
   rw [fD,dQ,List.length_replicate,Nat.zero_add,Nat.mul_comm]
   congr 1
   simp only [lv]
   omega) (by simp;omega))
attribute [local irreducible] Tor.J Tor.PJ Tor.aK Tor.one Tor.slT Tor.bO Tor.bC Tor.bv Tor.exT Tor.cd Tor.eP Tor.aR Tor.aI Tor.slV Tor.VT.le Tor.Ret Tor.bJ
set_option maxHeartbeats 4000000 in
theorem sC (r d:Nat) (hd:d≠0) (h:d≤r) (hl:(aJ r).length≤1099511627776):Ok Tryz.prog 123 [co (aJ r),co (aJ d)] (aL ((wE r d:Nat):Int)):=by
 have hlen:=bZ h
 have hdl:(aJ d).length≠0:=fun k=>hd (ev k)
 have hx:=a9 (a5 d) ((aJ d).length - 1)
 have hy:=a9 (a5 r) ((aJ r).length - 1)
 have hz:=a9 (a5 r) ((aJ r).length - 2)
 unfold wE
 refine Ok.enter Tryz.func123 Y Tryz.ntmps123 Y (fun w O => ?_)
 by_cases hk:(aJ r).length=(aJ d).length
 ·rw [if_pos hk]
  refine ae (ai ?_)
  refine aG (T:=37) Y (ltN Y) (fun b4 => ?_)
  refine Run.nil (aa (ae (a6 17 aZ X S (st (ab Y) Y (st (aU Y) Y (st (ab Y) Y (st (aU Y) Y (st (cg _ _ Y Y Z Z) Y (st (ab Y) Y ?_)))))))))
  refine st (aU Y) Y (st (ab Y) Y (st (ab Y) Y (st (aU Y) Y (st (cg _ 1 Y Y Z Z) Y (st (aC Y Y Z) Y (st (aM Y) Y (st (bT Y Z) Y (st (dT (b:=1) Y Y Z) Y (st (ah Y) Y ?_)))))))))
  refine st (ah Y) Y (Run.nil (st (ah Y) Y (Run.nil (aa (ae (ae (ai (st (ab Y) Y (st (sT Z (ci Y Y)) Y ?_)))))))))
  refine Run.nil (aa (aH Y (ae (ai (st (ab Y) Y (st (ab Y) Y (st (cg _ 1 Y Y Z Z) Y (st (aC Y Y Z) Y (st (aM Y) Y ?_)))))))))
  refine st (bT Y Z) Y (st (ab Y) Y (st (jy Y Y Z Z) Y (st (po Y Y) Y ?_)))
  have hq:=Nat.div_le_self ((aJ r).getD ((aJ r).length - 1) 0) ((aJ d).getD ((aJ d).length - 1) 0+1)
  generalize (aJ r).getD ((aJ r).length - 1) 0 / ((aJ d).getD ((aJ d).length - 1) 0+1)=q at *
  refine st (ed Y Z Z) Y ?_
  refine st (am (gS _ Z Z) Y ⟨VT.le_refl _,trivial⟩) Y ?_
  refine aA 0 Y Y Y Y Y (leN Y) Y (Run.nil (aa (aE (aW ?_))))
  refine aT Tryz.results123 (.cellB 0 Y Y Y (cf Z))
 ·rw [if_neg hk]
  refine ae (ai ?_)
  refine aG (T:=37) Y (ltN Y) (fun b4 => ?_)
  refine Run.nil (aa (ae (a6 17 aZ X S (st (ab Y) Y (st (aU Y) Y (st (ab Y) Y (st (aU Y) Y (st (cg _ _ Y Y Z Z) Y (st (ab Y) Y ?_)))))))))
  refine st (aU Y) Y (st (ab Y) Y (st (ab Y) Y (st (aU Y) Y (st (cg _ 1 Y Y Z Z) Y (st (aC Y Y Z) Y (st (aM Y) Y (st (bT Y Z) Y (st (dT (b:=1) Y Y Z) Y (st (ah Y) Y ?_)))))))))
  refine st (ah Y) Y (Run.nil (st (ah Y) Y (Run.nil (aa (ae (ae (ai (st (ab Y) Y (st (sF Z (ci Y Y)) Y ?_)))))))))
  refine Run.nil (aa (aB Y (az (aa (ae (a6 16 aZ X S (st (ab Y) Y (st (ab Y) Y (st (cg _ 1 Y Y Z Z) Y ?_)))))))))
  refine st (aC Y Y Z) Y (st (aM Y) Y (st (bT Y Z) Y (st (gF (b:=4294967296) Y Y Z) Y (st (ab Y) Y (st (ab Y) Y (st (cg _ 2 Y Y Z Z) Y (st (aC Y Y Z) Y (st (aM Y) Y (st (bT Y Z) Y ?_)))))))))
  refine st (dT Y Y Z) Y (st (ab Y) Y (st (jy Y Y Z Z) Y (Run.nil (st (ah Y) Y (Run.nil (aa (ae (ai (st (ab Y) Y ?_)))))))))
  refine st (cg _ 1 Y Y Z Z) Y ?_
  have hq:=Nat.div_le_self ((aJ r).getD ((aJ r).length - 1) 0*4294967296+(aJ r).getD ((aJ r).length - 2) 0) ((aJ d).getD ((aJ d).length - 1) 0+1)
  generalize ((aJ r).getD ((aJ r).length - 1) 0*4294967296+(aJ r).getD ((aJ r).length - 2) 0) / ((aJ d).getD ((aJ d).length - 1) 0+1)=q at *
  obtain ⟨k,hkk⟩ : ∃ k,k=(aJ r).length - (aJ d).length - 1:=⟨_,rfl⟩
  rw [← hkk]
  refine bV k k Y Y Y Y (Nat.le_refl _) Y Y Z Y Y (fun bz => ?_)
  refine st (ah Y) Y (Run.nil (aa (ae (ai (st (ab Y) Y (st (ab Y) Y (st (cG Y) Y (st (ab Y) Y (st (gk Y) Y ?_)))))))))
  refine st (cG Y) Y (stS Y Y Y Y (PartsK.cons Y (PartsK.cons Y (PartsK.nil (kJ (t:=63) Y (A0 _ _) ?_)))))
  (refine cS 0 Y Y Y (leN Y) ?_ ?_ Y (ltN Y) (fun sv64 cap64 => ?_);omega;omega)
  refine gB (t:=64) (j:=0) Y Y ?_
  have hq64:q<18446744073709551616:=by omega
  have hmd:=dh false (q*4294967296^k)
  rw [if_neg S] at hmd
  refine st (am (hmd) Y ⟨(Cv hq64 Z),VT.le_refl _,trivial⟩) Y ?_
  refine aA 0 Y Y Y Y Y (leN Y) Y (Run.nil (aa (aE ?_)))
  refine aT Tryz.results123 (.cellB 0 Y Y Y (cf (by rw [hkk])))
theorem sD {d:Nat} (hd:d<4294967296):VT.le (slT .one 1 fun _=>one (.int .u32 (d:Int))) (o7 d) :=
 VT.le_trans (cE (m := [d].length) (ψ:=fH [d]) Y (fun q hq=>by
  have hq:q=0:=by omega
  subst hq;rfl)) (iq (fun x hx=>by rw [List.mem_singleton.1 hx]; exact hd) (by simp [lv]) (by simp))
theorem sE {b:Nat} (hb:b≠0):0<(aJ b).getD ((aJ b).length - 1) 0:=by
 have hdl:(aJ b).length≠0:=fun k=>hb (ev k)
 obtain ⟨m,hm⟩ : ∃ m,(aJ b).length=m+1:=⟨(aJ b).length - 1,by omega⟩
 obtain ⟨d1,d2⟩:=j9 hm
 rw [hm,Nat.add_sub_cancel]
 rcases Nat.eq_zero_or_pos ((aJ b).getD m 0) with h | h
 ·rw [h,Nat.mul_zero,Nat.add_zero] at d1
  have:=cr (n:=b) (k:=m) (by rw [d1]; exact d2)
  omega
 ·exact h
theorem oo {a s:Nat} (hs:s<4294967296):(aJ (a*s)).length≤(aJ a).length+1:=cr (by
 rw [Nat.pow_succ]
 have h1:=cW a
 rcases Nat.eq_zero_or_pos s with h | h
 ·subst h;rw [Nat.mul_zero]; exact Nat.mul_pos (Nat.pow_pos S) S
 ·exact Nat.mul_lt_mul'' h1 hs)
theorem Cw {a b s q r:Nat} (hs:0<s) (hb:0<b) (h:q*(b*s)+r=a*s) (hr:r<b*s):q=a / b∧r / s=a % b:=by
 have h1:(a*s) / (b*s)=q:=by rw [← h,Nat.mul_comm q,Nat.mul_add_div Z,Nat.div_eq_of_lt hr,Nat.add_zero]
 have h2:(a*s) % (b*s)=r:=by rw [← h,Nat.mul_comm q,Nat.mul_add_mod,Nat.mod_eq_of_lt hr]
 rw [Nat.mul_div_mul_right _ _ hs] at h1
 rw [Nat.mul_mod_mul_right] at h2
 exact ⟨h1.symm,by rw [← h2,Nat.mul_div_cancel _ hs]⟩
set_option maxHeartbeats 4000000 in
theorem tV (a b:Nat) (hb:b≠0) (ha:(aJ a).length≤1099511627700) (hbl:(aJ b).length≤1099511627700):Ok Tryz.prog 73 [co (aJ a),co (aJ b)] (bv [aL ((a / b:Nat):Int),aL ((a % b:Nat):Int)]):=by
 have hbp:0<b:=by omega
 have hdl:(aJ b).length≠0:=fun k=>hb (ev k)
 refine Ok.enter Tryz.func73 Y Tryz.ntmps73 Y (fun w O => ?_)
 by_cases h1:(aJ b).length=1
 ·have hb1:=sr h1
  have hd:=a9 (a5 b) 0
  have hsh:=pR (aJ a) b (a5 a) Z Z Z
  rw [bX] at hsh
  have hr:=Nat.mod_lt a hbp
  have hm1:=dh false (a / b)
  have hm2:=dh false (a % b)
  rw [if_neg S] at hm1 hm2
  refine ae (ai ?_)
  refine aG (T:=37) Y (ltN Y) (fun b4 => ?_)
  refine aG (T:=37) Y (ltN Y) (fun b5 => ?_)
  refine Run.nil (aa (ae (ae (ai (st (ab Y) Y (st (aU Y) Y (st (sT Z (ci Y Y)) Y (Run.nil (aa ?_)))))))))
  refine aH Y (ae (ai (st (ab Y) Y (st (ab Y) Y (st (fP Y Y Z Z) Y (st (aM Y) Y ?_))))))
  refine st (am (hsh) Y ⟨VT.le_refl _,(ar (by rw [show (aJ b).getD (Int.toNat 0) 0=b from hb1])),trivial⟩) Y ?_
  refine st (ab Y) Y (st (aq Y Y) Y (st (aq Y Y) Y (st (ah Y) Y (st (ah Y) Y (Run.nil (aa (ae (ai (st (ab Y) Y ?_)))))))))
  refine st (am (hm1) Y ⟨VT.le_refl _,VT.le_refl _,trivial⟩) Y ?_
  refine st (ab Y) Y (fS Y Y Y Y ?_)
  refine st (am (hm2) Y ⟨(sD Z),VT.le_refl _,trivial⟩) Y ?_
  refine aA 1 Y Y Y Y Y (leN Y) Y (aA 0 Y Y Y Y Y (leN Y) Y (Run.nil (aa (aE (aW ?_)))))
  refine cV Tryz.results73 (.cellB 1 Y Y Y H) (.cellB 0 Y Y Y H)
 ·have hx:=a9 (a5 b) ((aJ b).length - 1)
  have hx0:=sE hb
  refine ae (ai ?_)
  refine aG (T:=37) Y (ltN Y) (fun b4 => ?_)
  refine aG (T:=37) Y (ltN Y) (fun b5 => ?_)
  refine Run.nil (aa (ae (ae (ai (st (ab Y) Y (st (aU Y) Y (st (sF Z (ci Y Y)) Y (Run.nil (aa ?_)))))))))
  refine aB Y (az (aa (ae (ai (st (ah Y) Y (Run.nil (aa (ae (au ?_)))))))))
  refine cn (Γ' := [(0,_),(1,_),(4,_),(5,_),(8,_)]) DQ (SubM.refl _) ?_
  refine bB (σ:=Nat) (Γk := [(0,_),(1,_),(4,_),(5,_)]) DQ (fun s => [(8,one (.int .u32 (s:Nat)))]) (fun s M0=>M0) (fun s=>0<s∧s<4294967296) (fun s=>4294967296 - s) (1) (⟨by decide,by decide⟩) DR (.keep DU (.keep DU (.nil))) (fun s hs => ?_)
  refine bQ (Γ' := [(8,_),(0,_),(1,_),(4,_),(5,_)]) (M' := [_,_]) Y Y ?_
  obtain ⟨s0,s1⟩:=hs
  have hb1:=Nat.mul_le_mul (show (aJ b).getD ((aJ b).length - 1) 0≤4294967295 by omega) (show s≤4294967295 by omega)
  have hb2:=Nat.mul_le_mul_right s hx0
  by_cases hc:(aJ b).getD ((aJ b).length - 1) 0*s<2147483648
  ·refine ae (ae (ai (st (ab Y) Y (st (ab Y) Y (st (aU Y) Y (st (cg _ 1 Y Y Z Z) Y (st (aC Y Y Z) Y (st (aM Y) Y (st (bT Y Z) Y ?_)))))))))
   refine st (ab Y) Y (st (bT Y Z) Y (st (gF Y Y Z) Y (st (sT Z (a7 Y Y)) Y (Run.nil (aa (aH Y (az (aa (au ?_)))))))))
   refine ai (st (ab Y) Y (st (Cu (a:=2) Y Y Z) Y (st (ah Y) Y (Run.nil (aD ?_)))))
   refine aQ (2*s) (⟨by omega,by omega⟩) Z DR (.keep DU (.keep DU (.nil)))
  ·have hma:=dh false a
   have hmb:=dh false b
   have hms:=dh false s
   rw [if_neg S] at hma hmb hms
   have la:=oo (a:=a) s1
   have lb:=oo (a:=b) s1
   have ls:bm ((s:Nat):Int):=dt (by rw [Int.natAbs_natCast]; exact Nat.lt_trans s1 U)
   have hMa:=eu (a:Int) (s:Int) (show (aJ a).length≤_ by omega) ls
   have hMb:=eu (b:Int) (s:Int) (show (aJ b).length≤_ by omega) ls
   rw [← Int.natCast_mul] at hMa hMb
   refine ae (ae (ai (st (ab Y) Y (st (ab Y) Y (st (aU Y) Y (st (cg _ 1 Y Y Z Z) Y (st (aC Y Y Z) Y (st (aM Y) Y (st (bT Y Z) Y ?_)))))))))
   refine st (ab Y) Y (st (bT Y Z) Y (st (gF Y Y Z) Y (st (sF Z (a7 Y Y)) Y (Run.nil (aa (aB Y (aX (av (av ?_)))))))))
   refine aF (aa (ae (ai (st (ab Y) Y (fS Y Y Y Y ?_)))))
   refine st (am (hms) Y ⟨(sD s1),VT.le_refl _,trivial⟩) Y ?_
   refine aG (T:=37) Y (ltN Y) (fun b9 => ?_)
   refine aA 0 Y Y Y Y Y (leN Y) Y (Run.nil (aa (ae ?_)))
   refine dN aZ X X ?_
   refine ux (fun B=>ab Y) Y Y ?_
   refine uxk (hma) Y ⟨(cM Z),VT.le_refl _,trivial⟩ Y ?_
   refine ux (fun B=>ak 0 Y Y Y) Y Y ?_
   refine uxk (hMa) Y ⟨VT.le_refl _,VT.le_refl _,trivial⟩ Y ?_
   refine ux (fun B=>ab Y) Y Y ?_
   refine uxk (hmb) Y ⟨(cM Z),VT.le_refl _,trivial⟩ Y ?_
   refine ux (fun B=>ak 0 Y Y Y) Y Y ?_
   refine uxk (hMb) Y ⟨VT.le_refl _,VT.le_refl _,trivial⟩ Y ?_
   refine uB Y Y Y (BuildK.nil (ua Y (ua Y (ua Y (us Y (us Y (us Y ?_)))))))
   refine RunU.nil (fun γ => ?_)
   refine cH (M' := [_,_,_,_,_,_]) Y (f6 (dG.refl _) (.keep gH (.keep DU (.keep DU (SubM.refl _)))) (aa (ae (au ?_))))
   have hbs:0<b*s:=Nat.mul_pos hbp s0
   refine cn (Γ' := [(4,_),(5,_),(8,_),(10,_),(11,_),(12,_)]) DQ (SubM.refl _) ?_
   refine bB (σ:=Nat × Nat) (Γk := [(4,_),(5,_),(8,_),(10,_),(11,_),(12,_)]) DQ (fun p => []) (fun p M0=>((M0.set 0 (aR (γ 12) 37 (Lay.agg 2).sz [(0,Lay.agg 2,aL (p.1:Int))])).set 2 (aR (γ 10) 37 (Lay.agg 2).sz [(0,Lay.agg 2,aL (p.2:Int))]))) (fun p=>p.1*(b*s)+p.2=a*s) (fun p=>p.2) ((0,a*s)) ((by simp)) DR (.keep (q7 iK) (.keep DU (.keep DU (.keep DU (.keep DU (.keep DU (.nil))))))) (fun p hp => ?_)
   refine bQ (Γ' := [(4,_),(5,_),(8,_),(10,_),(11,_),(12,_)]) (M' := [_,_,_,_,_,_]) Y Y ?_
   obtain ⟨q,r⟩:=p
   dsimp only at hp ⊢
   have hle:=lJ r (b*s)
   by_cases hr:r<b*s
   ·obtain ⟨f1,f2⟩:=Cw s0 hbp hp hr
    have lr:(aJ r).length≤1099511627776:=by
     have:=bZ (show r≤a*s by omega)
     omega
    have hsh:=pR (aJ r) s (a5 r) lr s0 s1
    rw [bX,f2] at hsh
    have hm2:=dh false (a % b)
    rw [if_neg S] at hm2
    refine ae (ae (ai (st (aj Y) Y (st (fl 2 0 1 Y Y Y Y Y) Y (st (aj Y) Y (st (fl 1 0 1 Y Y Y Y Y) Y ?_))))))
    refine st (sT (by assumption) (am (hle) Y ⟨VT.le_refl _,VT.le_refl _,trivial⟩)) Y ?_
    refine st (cK Y) Y (Run.nil (aa (aB Y (aX (av (av (aF (aa (ae ?_)))))))))
    refine ai (st (aj Y) Y (st (fl 2 0 1 Y Y Y Y Y) Y (st (ab Y) Y ?_)))
    refine st (am (hsh) Y ⟨VT.le_refl _,VT.le_refl _,trivial⟩) Y ?_
    refine st (ab Y) Y (st (aq Y Y) Y (st (aq Y Y) Y (st (ah Y) Y (st (ah Y) Y (Run.nil (aa (ae (fd 3 aZ X S (st (ak 0 Y Y Y) Y ?_)))))))))
    refine st (ab Y) Y ?_
    refine st (am (hm2) Y ⟨VT.le_refl _,VT.le_refl _,trivial⟩) Y ?_
    refine Run.nil (aA 5 Y Y Y Y Y (leN Y) Y (aA 4 Y Y Y Y Y (leN Y) Y (Run.nil (aa (aE ?_)))))
    refine cV Tryz.results73 (.cellB 5 Y Y Y (cf (by rw [f1]))) (.cellB 4 Y Y Y H)
   ·have lr:(aJ r).length≤1099511627776:=by
     have:=bZ (show r≤a*s by omega)
     omega
    obtain ⟨e0,e1⟩:=yF (show b*s≠0 by omega) (Nat.le_of_not_lt hr)
    have hes:=sC r (b*s) Z (Nat.le_of_not_lt hr) lr
    generalize wE r (b*s)=e at *
    have hq0:q≤q*(b*s):=Nat.le_mul_of_pos_right _ hbs
    have he0:e≤e*(b*s):=Nat.le_mul_of_pos_right _ hbs
    have le0:bm (e:Int):=Nat.le_trans (bZ (show (e:Int).natAbs≤r by omega)) lr
    have lq0:bm (q:Int):=Nat.le_trans (bZ (show (q:Int).natAbs≤a*s by omega)) Z
    have lbs:bm ((b*s:Nat):Int):=Nat.le_trans (bZ (show ((b*s:Nat):Int).natAbs≤b*s by omega)) Z
    have lrs:bm (r:Int):=Nat.le_trans (bZ (show (r:Int).natAbs≤r by omega)) lr
    have les:bm ((e*(b*s):Nat):Int):=Nat.le_trans (bZ (show ((e*(b*s):Nat):Int).natAbs≤r by omega)) lr
    have hmu:=eu (e:Int) ((b*s:Nat):Int) le0 lbs
    rw [← Int.natCast_mul] at hmu
    have hsu:=lN (r:Int) ((e*(b*s):Nat):Int) lrs les
    rw [← Int.ofNat_sub e1] at hsu
    have had:=jF (q:Int) (e:Int) lq0 le0
    rw [← Int.natCast_add] at had
    refine ae (ae (ai (st (aj Y) Y (st (fl 2 0 1 Y Y Y Y Y) Y (st (aj Y) Y (st (fl 1 0 1 Y Y Y Y Y) Y ?_))))))
    refine st (sF (by assumption) (am (hle) Y ⟨VT.le_refl _,VT.le_refl _,trivial⟩)) Y ?_
    refine st (cK Y) Y (Run.nil (aa (aH Y (az (aa (au (ae (ai (st (aj Y) Y ?_)))))))))
    refine st (fl 2 0 1 Y Y Y Y Y) Y (st (aj Y) Y (st (fl 1 0 1 Y Y Y Y Y) Y ?_))
    refine st (am (hes) Y ⟨VT.le_refl _,VT.le_refl _,trivial⟩) Y ?_
    refine aG (T:=37) Y (ltN Y) (fun b13 => ?_)
    refine aA 0 Y Y Y Y Y (leN Y) Y (Run.nil (aa (ae (ai (st (ak 1 Y Y Y) Y (st (ak 0 Y Y Y) Y ?_))))))
    refine st (am (had) Y ⟨VT.le_refl _,VT.le_refl _,trivial⟩) Y ?_
    refine aA 1 Y Y Y Y Y (leN Y) Y (Run.nil (aa (a6 5 aZ X S (st (ak 3 Y Y Y) Y (st (ak 0 Y Y Y) Y (st (ak 2 Y Y Y) Y ?_))))))
    refine st (am (hmu) Y ⟨VT.le_refl _,VT.le_refl _,trivial⟩) Y ?_
    refine st (am (hsu) Y ⟨VT.le_refl _,VT.le_refl _,trivial⟩) Y ?_
    refine Run.nil (aA 3 Y Y Y Y Y (leN Y) Y (Run.nil (aD ?_)))
    refine aQ ((q+e,r - e*(b*s))) ((by dsimp only;rw [Nat.add_mul]; omega)) Z DR (.drop (.keep DU (.keep DU (.keep DU (.keep DU (.keep DU (.keep DU (.nil))))))))
end Tor
end
section
namespace Tor
open Go Go.RowKit Go.Proofs
def cZ (x:Int):Prop:=(aJ x.natAbs).length≤1099511627700
theorem pS {x:Int} (h:x.natAbs<2^2048):cZ x:=by
 have:(aJ x.natAbs).length≤64:=cr (Nat.lt_of_lt_of_le h U)
 unfold cZ;omega
theorem cZ.small {x:Int} (h:cZ x):bm x:=by unfold cZ at h;unfold Tor.bm;omega
theorem ja {x y:Int} (h:cZ y) (hl:x.natAbs≤y.natAbs):cZ x:=Nat.le_trans (bZ hl) h
theorem cO {x y:Int} (h:bm y) (hl:x.natAbs≤y.natAbs):bm x:=Nat.le_trans (bZ hl) h
theorem o9 (n:Nat):(aJ (n+1)).length≤(aJ n).length+1:=cr (by
 have h:=cW n
 rw [Nat.pow_succ]
 have h0:0<4294967296^(aJ n).length:=Nat.pow_pos S
 generalize 4294967296^(aJ n).length=z at *
 omega)
theorem yG (x y:Int):Nat.gcd y.natAbs (x % y).natAbs=Nat.gcd x.natAbs y.natAbs:=by
 have h:Int.gcd y (x % y)=Int.gcd y x:=by rw [Int.emod_def]; exact Int.gcd_sub_mul_left_right y x (x / y)
 rw [Nat.gcd_comm x.natAbs]; exact h
theorem sG (x:Int) {y:Int} (hy:y≠0):(x % y).natAbs<y.natAbs:=by
 have h1:=Int.emod_nonneg x hy
 have h2:=Int.emod_lt x hy
 omega
attribute [local irreducible] Tor.J Tor.PJ Tor.aK Tor.one Tor.slT Tor.bO Tor.bC Tor.bv Tor.exT Tor.cd Tor.eP Tor.aR Tor.aI Tor.slV Tor.VT.le Tor.Ret Tor.bJ
theorem pT (x:Int):Ok Tryz.prog 48 [o7 x.natAbs,one (.bool (decide (x<0)))] (aL x):=by
 have h:=dh (decide (x<0)) x.natAbs
 have e:(if decide (x<0)=true then -(x.natAbs:Int) else (x.natAbs:Int))=x:=by
  by_cases hx:x<0
  ·rw [if_pos (by simpa using hx)]; omega
  ·rw [if_neg (by simpa using hx)]; omega
 rw [e] at h
 exact h
set_option maxHeartbeats 4000000 in
set_option maxRecDepth 20000 in
theorem gX (a b:Int) (hb:b≠0) (ha:cZ a) (hbs:cZ b):Ok Tryz.prog 36 [aL a,aL b] (bv [aL (a / b),aL (a % b),one (.int .i64 0)]):=by
 obtain ⟨g1,g2,g3⟩:=vh (a:=a) hb
 have hB:b.natAbs≠0:=by omega
 have ha':(aJ a.natAbs).length≤1099511627700:=ha
 have hb':(aJ b.natAbs).length≤1099511627700:=hbs
 have hdiv:=tV a.natAbs b.natAbs hB ha' hb'
 have hlt:=Nat.mod_lt a.natAbs (Nat.pos_of_ne_zero hB)
 have hql:=Nat.div_le_self a.natAbs b.natAbs
 have hma:=pT a
 have hmb:=pT b
 have hsb:c8 b≠0:=by unfold c8;rw [if_neg hb]; split <;> decide
 have hmb2:=dh false b.natAbs
 rw [if_neg S] at hmb2
 have hsg:=dA ((a.natAbs % b.natAbs:Nat):Int)
 have hof:=gS 1 S S
 have sq:bm ((a.natAbs / b.natAbs:Nat):Int):=cO ha.small (by rw [Int.natAbs_natCast]; exact hql)
 have s1:bm 1:=dt U
 have had:=jF ((a.natAbs / b.natAbs:Nat):Int) 1 sq s1
 have hsu:=lN (b.natAbs:Int) ((a.natAbs % b.natAbs:Nat):Int) (cO hbs.small Z) (cO hbs.small (by rw [Int.natAbs_natCast]; exact Nat.le_of_lt hlt))
 have hsu2:=lN b ((a.natAbs % b.natAbs:Nat):Int) hbs.small (cO hbs.small (by rw [Int.natAbs_natCast]; exact Nat.le_of_lt hlt))
 have hn1:=iM ((a.natAbs / b.natAbs:Nat):Int) sq
 have sq1:bm (((a.natAbs / b.natAbs:Nat):Int)+1):=by
  have h1:=o9 (a.natAbs / b.natAbs)
  have h2:=bZ hql
  have e:(((a.natAbs / b.natAbs:Nat):Int)+1).natAbs=a.natAbs / b.natAbs+1:=by generalize a.natAbs / b.natAbs=z;omega
  unfold Tor.bm
  rw [e]
  omega
 have hn2:=iM (((a.natAbs / b.natAbs:Nat):Int)+1) sq1
 refine Ok.enter Tryz.func36 Y Tryz.ntmps36 Y (fun w O => ?_)
 by_cases hn:a<0
 ·by_cases hr:a.natAbs % b.natAbs=0
  ·obtain ⟨k1,k2⟩:=g2 hn hr
   have hs0:c8 ((a.natAbs % b.natAbs:Nat):Int)=0:=by rw [hr]; rfl
   by_cases hm:b<0
   ·rw [if_pos hm] at k1
    refine ae (ai ?_)
    refine aS Y Y (ltN Y) (fun b2 => ?_)
    refine aS Y Y (ltN Y) (fun b3 => ?_)
    refine aG (T:=37) Y (ltN Y) (fun b4 => ?_)
    refine aG (T:=37) Y (ltN Y) (fun b5 => ?_)
    refine st (ah Y) Y (Run.nil (aa (ae (fd 9 aZ X S (st (aj Y) Y (st (ak 3 Y Y Y) Y (st (aj Y) Y (st (sT (by assumption) (ak 3 Y Y Y)) Y ?_))))))))
    refine st (am (hma) Y ⟨(cM Z),(ar (by rw [decide_eq_true hn])),trivial⟩) Y ?_
    refine st (aj Y) Y (st (ak 2 Y Y Y) Y (st (aj Y) Y (st (sT (by assumption) (ak 2 Y Y Y)) Y (Run.nil ?_))))
    refine st (am (hmb) Y ⟨(cM Z),(ar (by rw [decide_eq_true hm])),trivial⟩) Y ?_
    refine a4 3 Y Y Y Y (a4 2 Y Y Y Y (Run.nil (aa (ae (ae (ai (st (aO 2 Y Y) Y ?_)))))))
    refine st (am (dA _) Y ⟨VT.le_refl _,trivial⟩) Y ?_
    refine st (sF (by assumption) (ci Y Y)) Y (Run.nil (aa (aB Y (az (aa (ae (ai (st (aj Y) Y (st (ak 3 Y Y Y) Y ?_)))))))))
    refine st (aj Y) Y (st (ak 2 Y Y Y) Y ?_)
    refine st (am (hdiv) Y ⟨VT.le_refl _,VT.le_refl _,trivial⟩) Y ?_
    refine st (ab Y) Y (st (aq Y Y) Y (st (aq Y Y) Y ?_))
    refine aG (T:=37) Y (ltN Y) (fun b7 => ?_)
    refine aG (T:=37) Y (ltN Y) (fun b8 => ?_)
    refine aA 1 Y Y Y Y Y (leN Y) Y (aA 0 Y Y Y Y Y (leN Y) Y (Run.nil (aa (ae (ae (ai (st (aj Y) Y (st (sT (by assumption) (ak 5 Y Y Y)) Y (st (ab Y) Y ?_)))))))))
    refine sg1 Y Y (ak 0 Y Y Y) Y ?_
    refine sg1 Y Y (am (hsg) Y ⟨VT.le_refl _,trivial⟩) Y ?_
    refine sg1 Y Y (sF Z (c7 Y Y)) Y (st (bj Y Y) Y (Run.nil (aa (aB Y (az (aa (ae (ae (ai ?_)))))))))
    refine st (aj Y) Y (st (sT (by assumption) (ak 5 Y Y Y)) Y (st (aj Y) Y (st (sT (by assumption) (ak 4 Y Y Y)) Y (st (jr Y Y) Y (Run.nil (aa (aB Y (az (aa ?_)))))))))
    refine ae ?_
    refine jW [⟨5,b5,37,Lay.agg 2⟩,⟨4,b4,37,Lay.agg 2⟩] [_,_] [_,_,_,_] aZ X Y ((c9 2 Y).trans (.cons _ ((c9 2 Y).trans (.cons _ (List.Perm.refl _))))) Y (And.intro Y (And.intro Y (trivial))) ?_
    refine ux (fun B=>ak 1 Y Y Y) Y Y ?_
    refine ux (fun B=>ak 0 Y Y Y) Y Y ?_
    refine us Y (us Y ?_)
    refine ux (fun B=>ah Y) Y Y ?_
    refine RunU.nil ⟨And.intro Y (And.intro Y (And.intro Y (And.intro Y (trivial)))),?_⟩
    refine cH (M' := [_,_,_,_,_,_]) Y (aa (aE ?_))
    refine jk Tryz.results36 (.cellB 1 Y Y Y (cf (by rw [k1]))) (.cellB 0 Y Y Y (cf (by rw [k2,hr]; rfl))) (.tmp Y H)
   ·rw [if_neg hm] at k1
    refine ae (ai ?_)
    refine aS Y Y (ltN Y) (fun b2 => ?_)
    refine aS Y Y (ltN Y) (fun b3 => ?_)
    refine aG (T:=37) Y (ltN Y) (fun b4 => ?_)
    refine aG (T:=37) Y (ltN Y) (fun b5 => ?_)
    refine st (ah Y) Y (Run.nil (aa (ae (fd 9 aZ X S (st (aj Y) Y (st (ak 3 Y Y Y) Y (st (aj Y) Y (st (sT (by assumption) (ak 3 Y Y Y)) Y ?_))))))))
    refine st (am (hma) Y ⟨(cM Z),(ar (by rw [decide_eq_true hn])),trivial⟩) Y ?_
    refine st (aj Y) Y (st (ak 2 Y Y Y) Y (st (aj Y) Y (st (sF (by assumption) (ak 2 Y Y Y)) Y (Run.nil ?_))))
    refine st (am (hmb) Y ⟨(cM Z),(ar (by rw [decide_eq_false hm])),trivial⟩) Y ?_
    refine a4 3 Y Y Y Y (a4 2 Y Y Y Y (Run.nil (aa (ae (ae (ai (st (aO 2 Y Y) Y ?_)))))))
    refine st (am (dA _) Y ⟨VT.le_refl _,trivial⟩) Y ?_
    refine st (sF (by assumption) (ci Y Y)) Y (Run.nil (aa (aB Y (az (aa (ae (ai (st (aj Y) Y (st (ak 3 Y Y Y) Y ?_)))))))))
    refine st (aj Y) Y (st (ak 2 Y Y Y) Y ?_)
    refine st (am (hdiv) Y ⟨VT.le_refl _,VT.le_refl _,trivial⟩) Y ?_
    refine st (ab Y) Y (st (aq Y Y) Y (st (aq Y Y) Y ?_))
    refine aG (T:=37) Y (ltN Y) (fun b7 => ?_)
    refine aG (T:=37) Y (ltN Y) (fun b8 => ?_)
    refine aA 1 Y Y Y Y Y (leN Y) Y (aA 0 Y Y Y Y Y (leN Y) Y (Run.nil (aa (ae (ae (ai (st (aj Y) Y (st (sT (by assumption) (ak 5 Y Y Y)) Y (st (ab Y) Y ?_)))))))))
    refine sg1 Y Y (ak 0 Y Y Y) Y ?_
    refine sg1 Y Y (am (hsg) Y ⟨VT.le_refl _,trivial⟩) Y ?_
    refine sg1 Y Y (sF Z (c7 Y Y)) Y (st (bj Y Y) Y (Run.nil (aa (aB Y (az (aa (ae (ae (ai ?_)))))))))
    refine st (aj Y) Y (st (sT (by assumption) (ak 5 Y Y Y)) Y (st (aj Y) Y (st (sF (by assumption) (ak 4 Y Y Y)) Y (st (jr Y Y) Y (Run.nil (aa (aH Y (ai (st (ak 1 Y Y Y) Y ?_)))))))))
    refine st (am (hn1) Y ⟨VT.le_refl _,trivial⟩) Y ?_
    refine aA 1 Y Y Y Y Y (leN Y) Y (Run.nil (aa (ae ?_)))
    refine jW [⟨5,b5,37,Lay.agg 2⟩,⟨4,b4,37,Lay.agg 2⟩] [_,_] [_,_,_,_] aZ X Y ((c9 2 Y).trans (.cons _ ((c9 2 Y).trans (.cons _ (List.Perm.refl _))))) Y (And.intro Y (And.intro Y (trivial))) ?_
    refine ux (fun B=>ak 1 Y Y Y) Y Y ?_
    refine ux (fun B=>ak 0 Y Y Y) Y Y ?_
    refine us Y (us Y ?_)
    refine ux (fun B=>ah Y) Y Y ?_
    refine RunU.nil ⟨And.intro Y (And.intro Y (And.intro Y (And.intro Y (trivial)))),?_⟩
    refine cH (M' := [_,_,_,_,_,_]) Y (aa (aE ?_))
    refine jk Tryz.results36 (.cellB 1 Y Y Y (cf (by rw [k1]))) (.cellB 0 Y Y Y (cf (by rw [k2,hr]; rfl))) (.tmp Y H)
  ·obtain ⟨k1,k2⟩:=g3 hn hr
   have hs0:c8 ((a.natAbs % b.natAbs:Nat):Int)=1:=by unfold c8;rw [if_neg Z,if_neg Z]
   by_cases hm:b<0
   ·rw [if_pos hm] at k1
    refine ae (ai ?_)
    refine aS Y Y (ltN Y) (fun b2 => ?_)
    refine aS Y Y (ltN Y) (fun b3 => ?_)
    refine aG (T:=37) Y (ltN Y) (fun b4 => ?_)
    refine aG (T:=37) Y (ltN Y) (fun b5 => ?_)
    refine st (ah Y) Y (Run.nil (aa (ae (fd 9 aZ X S (st (aj Y) Y (st (ak 3 Y Y Y) Y (st (aj Y) Y (st (sT (by assumption) (ak 3 Y Y Y)) Y ?_))))))))
    refine st (am (hma) Y ⟨(cM Z),(ar (by rw [decide_eq_true hn])),trivial⟩) Y ?_
    refine st (aj Y) Y (st (ak 2 Y Y Y) Y (st (aj Y) Y (st (sT (by assumption) (ak 2 Y Y Y)) Y (Run.nil ?_))))
    refine st (am (hmb) Y ⟨(cM Z),(ar (by rw [decide_eq_true hm])),trivial⟩) Y ?_
    refine a4 3 Y Y Y Y (a4 2 Y Y Y Y (Run.nil (aa (ae (ae (ai (st (aO 2 Y Y) Y ?_)))))))
    refine st (am (dA _) Y ⟨VT.le_refl _,trivial⟩) Y ?_
    refine st (sF (by assumption) (ci Y Y)) Y (Run.nil (aa (aB Y (az (aa (ae (ai (st (aj Y) Y (st (ak 3 Y Y Y) Y ?_)))))))))
    refine st (aj Y) Y (st (ak 2 Y Y Y) Y ?_)
    refine st (am (hdiv) Y ⟨VT.le_refl _,VT.le_refl _,trivial⟩) Y ?_
    refine st (ab Y) Y (st (aq Y Y) Y (st (aq Y Y) Y ?_))
    refine aG (T:=37) Y (ltN Y) (fun b7 => ?_)
    refine aG (T:=37) Y (ltN Y) (fun b8 => ?_)
    refine aA 1 Y Y Y Y Y (leN Y) Y (aA 0 Y Y Y Y Y (leN Y) Y (Run.nil (aa (ae (ae (ai (st (aj Y) Y (st (sT (by assumption) (ak 5 Y Y Y)) Y (st (ab Y) Y ?_)))))))))
    refine sg1 Y Y (ak 0 Y Y Y) Y ?_
    refine sg1 Y Y (am (hsg) Y ⟨VT.le_refl _,trivial⟩) Y ?_
    refine sg1 Y Y (sT Z (c7 Y Y)) Y (st (bj Y Y) Y (Run.nil (aa (aH Y (ae (a6 2 aZ X S (st (ak 1 Y Y Y) Y ?_)))))))
    refine st (am (hof) Y ⟨VT.le_refl _,trivial⟩) Y ?_
    refine Run.nil ?_
    refine st (am (had) Y ⟨VT.le_refl _,VT.le_refl _,trivial⟩) Y ?_
    refine aA 1 Y Y Y Y Y (leN Y) Y (Run.nil (aa (a6 5 aZ X S (st (aj Y) Y (st (ak 4 Y Y Y) Y ?_)))))
    refine st (am (hmb2) Y ⟨(cM Z),VT.le_refl _,trivial⟩) Y ?_
    refine st (ak 0 Y Y Y) Y ?_
    refine st (am (hsu) Y ⟨VT.le_refl _,VT.le_refl _,trivial⟩) Y ?_
    refine Run.nil (aA 0 Y Y Y Y Y (leN Y) Y (Run.nil (aa (ae (ae (ai (st (aj Y) Y (st (sT (by assumption) (ak 5 Y Y Y)) Y (st (aj Y) Y ?_)))))))))
    refine st (sT (by assumption) (ak 4 Y Y Y)) Y (st (jr Y Y) Y (Run.nil (aa (aB Y (az (aa (ae ?_)))))))
    refine jW [⟨5,b5,37,Lay.agg 2⟩,⟨4,b4,37,Lay.agg 2⟩] [_,_] [_,_,_,_] aZ X Y ((c9 2 Y).trans (.cons _ ((c9 2 Y).trans (.cons _ (List.Perm.refl _))))) Y (And.intro Y (And.intro Y (trivial))) ?_
    refine ux (fun B=>ak 1 Y Y Y) Y Y ?_
    refine ux (fun B=>ak 0 Y Y Y) Y Y ?_
    refine us Y (us Y ?_)
    refine ux (fun B=>ah Y) Y Y ?_
    refine RunU.nil ⟨And.intro Y (And.intro Y (And.intro Y (And.intro Y (trivial)))),?_⟩
    refine cH (M' := [_,_,_,_,_,_]) Y (aa (aE ?_))
    refine jk Tryz.results36 (.cellB 1 Y Y Y (cf (by rw [k1,Int.natCast_add]; rfl))) (.cellB 0 Y Y Y (cf (by rw [k2,Int.ofNat_sub (Nat.le_of_lt hlt)]))) (.tmp Y H)
   ·rw [if_neg hm] at k1
    refine ae (ai ?_)
    refine aS Y Y (ltN Y) (fun b2 => ?_)
    refine aS Y Y (ltN Y) (fun b3 => ?_)
    refine aG (T:=37) Y (ltN Y) (fun b4 => ?_)
    refine aG (T:=37) Y (ltN Y) (fun b5 => ?_)
    refine st (ah Y) Y (Run.nil (aa (ae (fd 9 aZ X S (st (aj Y) Y (st (ak 3 Y Y Y) Y (st (aj Y) Y (st (sT (by assumption) (ak 3 Y Y Y)) Y ?_))))))))
    refine st (am (hma) Y ⟨(cM Z),(ar (by rw [decide_eq_true hn])),trivial⟩) Y ?_
    refine st (aj Y) Y (st (ak 2 Y Y Y) Y (st (aj Y) Y (st (sF (by assumption) (ak 2 Y Y Y)) Y (Run.nil ?_))))
    refine st (am (hmb) Y ⟨(cM Z),(ar (by rw [decide_eq_false hm])),trivial⟩) Y ?_
    refine a4 3 Y Y Y Y (a4 2 Y Y Y Y (Run.nil (aa (ae (ae (ai (st (aO 2 Y Y) Y ?_)))))))
    refine st (am (dA _) Y ⟨VT.le_refl _,trivial⟩) Y ?_
    refine st (sF (by assumption) (ci Y Y)) Y (Run.nil (aa (aB Y (az (aa (ae (ai (st (aj Y) Y (st (ak 3 Y Y Y) Y ?_)))))))))
    refine st (aj Y) Y (st (ak 2 Y Y Y) Y ?_)
    refine st (am (hdiv) Y ⟨VT.le_refl _,VT.le_refl _,trivial⟩) Y ?_
    refine st (ab Y) Y (st (aq Y Y) Y (st (aq Y Y) Y ?_))
    refine aG (T:=37) Y (ltN Y) (fun b7 => ?_)
    refine aG (T:=37) Y (ltN Y) (fun b8 => ?_)
    refine aA 1 Y Y Y Y Y (leN Y) Y (aA 0 Y Y Y Y Y (leN Y) Y (Run.nil (aa (ae (ae (ai (st (aj Y) Y (st (sT (by assumption) (ak 5 Y Y Y)) Y (st (ab Y) Y ?_)))))))))
    refine sg1 Y Y (ak 0 Y Y Y) Y ?_
    refine sg1 Y Y (am (hsg) Y ⟨VT.le_refl _,trivial⟩) Y ?_
    refine sg1 Y Y (sT Z (c7 Y Y)) Y (st (bj Y Y) Y (Run.nil (aa (aH Y (ae (a6 2 aZ X S (st (ak 1 Y Y Y) Y ?_)))))))
    refine st (am (hof) Y ⟨VT.le_refl _,trivial⟩) Y ?_
    refine Run.nil ?_
    refine st (am (had) Y ⟨VT.le_refl _,VT.le_refl _,trivial⟩) Y ?_
    refine aA 1 Y Y Y Y Y (leN Y) Y (Run.nil (aa (a6 5 aZ X S (st (aj Y) Y (st (ak 4 Y Y Y) Y ?_)))))
    refine st (am (hmb) Y ⟨(cM Z),(ar (by rw [decide_eq_false hm])),trivial⟩) Y ?_
    refine st (ak 0 Y Y Y) Y ?_
    refine st (am (hsu2) Y ⟨VT.le_refl _,VT.le_refl _,trivial⟩) Y ?_
    refine Run.nil (aA 0 Y Y Y Y Y (leN Y) Y (Run.nil (aa (ae (ae (ai (st (aj Y) Y (st (sT (by assumption) (ak 5 Y Y Y)) Y (st (aj Y) Y ?_)))))))))
    refine st (sF (by assumption) (ak 4 Y Y Y)) Y (st (jr Y Y) Y (Run.nil (aa (aH Y (ai (st (ak 1 Y Y Y) Y ?_))))))
    refine st (am (hn2) Y ⟨VT.le_refl _,trivial⟩) Y ?_
    refine aA 1 Y Y Y Y Y (leN Y) Y (Run.nil (aa (ae ?_)))
    refine jW [⟨5,b5,37,Lay.agg 2⟩,⟨4,b4,37,Lay.agg 2⟩] [_,_] [_,_,_,_] aZ X Y ((c9 2 Y).trans (.cons _ ((c9 2 Y).trans (.cons _ (List.Perm.refl _))))) Y (And.intro Y (And.intro Y (trivial))) ?_
    refine ux (fun B=>ak 1 Y Y Y) Y Y ?_
    refine ux (fun B=>ak 0 Y Y Y) Y Y ?_
    refine us Y (us Y ?_)
    refine ux (fun B=>ah Y) Y Y ?_
    refine RunU.nil ⟨And.intro Y (And.intro Y (And.intro Y (And.intro Y (trivial)))),?_⟩
    refine cH (M' := [_,_,_,_,_,_]) Y (aa (aE ?_))
    refine jk Tryz.results36 (.cellB 1 Y Y Y (cf (by rw [k1,Int.natCast_add]; rfl))) (.cellB 0 Y Y Y (cf (by rw [k2,Int.ofNat_sub (Nat.le_of_lt hlt),Int.natAbs_of_nonneg (show 0≤b by omega)]))) (.tmp Y H)
 ·obtain ⟨k1,k2⟩:=g1 Z
  by_cases hm:b<0
  ·rw [if_pos hm] at k1
   refine ae (ai ?_)
   refine aS Y Y (ltN Y) (fun b2 => ?_)
   refine aS Y Y (ltN Y) (fun b3 => ?_)
   refine aG (T:=37) Y (ltN Y) (fun b4 => ?_)
   refine aG (T:=37) Y (ltN Y) (fun b5 => ?_)
   refine st (ah Y) Y (Run.nil (aa (ae (fd 9 aZ X S (st (aj Y) Y (st (ak 3 Y Y Y) Y (st (aj Y) Y (st (sF (by assumption) (ak 3 Y Y Y)) Y ?_))))))))
   refine st (am (hma) Y ⟨(cM Z),(ar (by rw [decide_eq_false hn])),trivial⟩) Y ?_
   refine st (aj Y) Y (st (ak 2 Y Y Y) Y (st (aj Y) Y (st (sT (by assumption) (ak 2 Y Y Y)) Y (Run.nil ?_))))
   refine st (am (hmb) Y ⟨(cM Z),(ar (by rw [decide_eq_true hm])),trivial⟩) Y ?_
   refine a4 3 Y Y Y Y (a4 2 Y Y Y Y (Run.nil (aa (ae (ae (ai (st (aO 2 Y Y) Y ?_)))))))
   refine st (am (dA _) Y ⟨VT.le_refl _,trivial⟩) Y ?_
   refine st (sF (by assumption) (ci Y Y)) Y (Run.nil (aa (aB Y (az (aa (ae (ai (st (aj Y) Y (st (ak 3 Y Y Y) Y ?_)))))))))
   refine st (aj Y) Y (st (ak 2 Y Y Y) Y ?_)
   refine st (am (hdiv) Y ⟨VT.le_refl _,VT.le_refl _,trivial⟩) Y ?_
   refine st (ab Y) Y (st (aq Y Y) Y (st (aq Y Y) Y ?_))
   refine aG (T:=37) Y (ltN Y) (fun b7 => ?_)
   refine aG (T:=37) Y (ltN Y) (fun b8 => ?_)
   refine aA 1 Y Y Y Y Y (leN Y) Y (aA 0 Y Y Y Y Y (leN Y) Y (Run.nil (aa (ae (ae (ai (st (aj Y) Y (st (sF (by assumption) (ak 5 Y Y Y)) Y (st (ab Y) Y ?_)))))))))
   refine sg0 Y Y Y Y (sg0 Y Y Y Y (sg0 Y Y Y Y (st (bF Y Y) Y (Run.nil (aa (aB Y (az (aa (ae ?_)))))))))
   refine ae (ai (st (aj Y) Y (st (sF (by assumption) (ak 5 Y Y Y)) Y (st (aj Y) Y (st (sT (by assumption) (ak 4 Y Y Y)) Y (st (jr Y Y) Y (Run.nil (aa (aH Y ?_)))))))))
   refine ai (st (ak 1 Y Y Y) Y ?_)
   refine st (am (hn1) Y ⟨VT.le_refl _,trivial⟩) Y ?_
   refine aA 1 Y Y Y Y Y (leN Y) Y (Run.nil (aa (ae ?_)))
   refine jW [⟨5,b5,37,Lay.agg 2⟩,⟨4,b4,37,Lay.agg 2⟩] [_,_] [_,_,_,_] aZ X Y ((c9 2 Y).trans (.cons _ ((c9 2 Y).trans (.cons _ (List.Perm.refl _))))) Y (And.intro Y (And.intro Y (trivial))) ?_
   refine ux (fun B=>ak 1 Y Y Y) Y Y ?_
   refine ux (fun B=>ak 0 Y Y Y) Y Y ?_
   refine us Y (us Y ?_)
   refine ux (fun B=>ah Y) Y Y ?_
   refine RunU.nil ⟨And.intro Y (And.intro Y (And.intro Y (And.intro Y (trivial)))),?_⟩
   refine cH (M' := [_,_,_,_,_,_]) Y (aa (aE ?_))
   refine jk Tryz.results36 (.cellB 1 Y Y Y (cf (by rw [k1]))) (.cellB 0 Y Y Y (cf (by rw [k2]))) (.tmp Y H)
  ·rw [if_neg hm] at k1
   refine ae (ai ?_)
   refine aS Y Y (ltN Y) (fun b2 => ?_)
   refine aS Y Y (ltN Y) (fun b3 => ?_)
   refine aG (T:=37) Y (ltN Y) (fun b4 => ?_)
   refine aG (T:=37) Y (ltN Y) (fun b5 => ?_)
   refine st (ah Y) Y (Run.nil (aa (ae (fd 9 aZ X S (st (aj Y) Y (st (ak 3 Y Y Y) Y (st (aj Y) Y (st (sF (by assumption) (ak 3 Y Y Y)) Y ?_))))))))
   refine st (am (hma) Y ⟨(cM Z),(ar (by rw [decide_eq_false hn])),trivial⟩) Y ?_
   refine st (aj Y) Y (st (ak 2 Y Y Y) Y (st (aj Y) Y (st (sF (by assumption) (ak 2 Y Y Y)) Y (Run.nil ?_))))
   refine st (am (hmb) Y ⟨(cM Z),(ar (by rw [decide_eq_false hm])),trivial⟩) Y ?_
   refine a4 3 Y Y Y Y (a4 2 Y Y Y Y (Run.nil (aa (ae (ae (ai (st (aO 2 Y Y) Y ?_)))))))
   refine st (am (dA _) Y ⟨VT.le_refl _,trivial⟩) Y ?_
   refine st (sF (by assumption) (ci Y Y)) Y (Run.nil (aa (aB Y (az (aa (ae (ai (st (aj Y) Y (st (ak 3 Y Y Y) Y ?_)))))))))
   refine st (aj Y) Y (st (ak 2 Y Y Y) Y ?_)
   refine st (am (hdiv) Y ⟨VT.le_refl _,VT.le_refl _,trivial⟩) Y ?_
   refine st (ab Y) Y (st (aq Y Y) Y (st (aq Y Y) Y ?_))
   refine aG (T:=37) Y (ltN Y) (fun b7 => ?_)
   refine aG (T:=37) Y (ltN Y) (fun b8 => ?_)
   refine aA 1 Y Y Y Y Y (leN Y) Y (aA 0 Y Y Y Y Y (leN Y) Y (Run.nil (aa (ae (ae (ai (st (aj Y) Y (st (sF (by assumption) (ak 5 Y Y Y)) Y (st (ab Y) Y ?_)))))))))
   refine sg0 Y Y Y Y (sg0 Y Y Y Y (sg0 Y Y Y Y (st (bF Y Y) Y (Run.nil (aa (aB Y (az (aa (ae ?_)))))))))
   refine ae (ai (st (aj Y) Y (st (sF (by assumption) (ak 5 Y Y Y)) Y (st (aj Y) Y (st (sF (by assumption) (ak 4 Y Y Y)) Y (st (jr Y Y) Y (Run.nil (aa (aB Y ?_)))))))))
   refine az (aa (ae ?_))
   refine jW [⟨5,b5,37,Lay.agg 2⟩,⟨4,b4,37,Lay.agg 2⟩] [_,_] [_,_,_,_] aZ X Y ((c9 2 Y).trans (.cons _ ((c9 2 Y).trans (.cons _ (List.Perm.refl _))))) Y (And.intro Y (And.intro Y (trivial))) ?_
   refine ux (fun B=>ak 1 Y Y Y) Y Y ?_
   refine ux (fun B=>ak 0 Y Y Y) Y Y ?_
   refine us Y (us Y ?_)
   refine ux (fun B=>ah Y) Y Y ?_
   refine RunU.nil ⟨And.intro Y (And.intro Y (And.intro Y (And.intro Y (trivial)))),?_⟩
   refine cH (M' := [_,_,_,_,_,_]) Y (aa (aE ?_))
   refine jk Tryz.results36 (.cellB 1 Y Y Y (cf (by rw [k1]))) (.cellB 0 Y Y Y (cf (by rw [k2]))) (.tmp Y H)
set_option maxHeartbeats 4000000 in
theorem q8 (a b:Int) (ha:cZ a) (hb:cZ b):Ok Tryz.prog 117 [aL a,aL b] (aL (Nat.gcd a.natAbs b.natAbs)):=by
 refine Ok.enter Tryz.func117 Y Tryz.ntmps117 Y (fun w O => ?_)
 refine ae (ai ?_)
 refine aS Y Y (ltN Y) (fun b2 => ?_)
 refine aS Y Y (ltN Y) (fun b3 => ?_)
 refine aG (T:=37) Y (ltN Y) (fun b4 => ?_)
 refine Run.nil (aa (ae (au (cn (Γ' := [(2,_),(3,_),(4,_)]) DQ (SubM.refl _) ?_))))
 refine bB (σ:=Int × Int) (Γk := [(2,_),(3,_),(4,_)]) DQ (fun p => []) (fun p M0=>((M0.set 1 (aR b3 37 (Lay.agg 2).sz [(0,Lay.agg 2,aL p.2)])).set 2 (aR b2 37 (Lay.agg 2).sz [(0,Lay.agg 2,aL p.1)]))) (fun p=>Nat.gcd p.1.natAbs p.2.natAbs=Nat.gcd a.natAbs b.natAbs∧cZ p.1∧cZ p.2) (fun p=>p.2.natAbs) ((a,b)) (⟨rfl,ha,hb⟩) DR (.keep DU (.keep (q7 H) (.keep (q7 H) (.nil)))) (fun p hp => ?_)
 refine bQ (Γ' := [(2,_),(3,_),(4,_)]) (M' := [_,_,_]) Y Y ?_
 obtain ⟨x,y⟩:=p
 dsimp only at hp ⊢
 obtain ⟨p1,p2,p3⟩:=hp
 have hsg:=dA y
 by_cases hy:y=0
 ·have hs0:c8 y=0:=by rw [hy]; rfl
  rw [hy] at p1
  rw [← p1,Int.natAbs_zero,Nat.gcd_zero_right]
  have hx:(aJ x.natAbs).length≤1099511627700:=p2
  have hm:=dh false x.natAbs
  rw [if_neg S] at hm
  refine ae (ae (ai (st (ak 1 Y Y Y) Y ?_)))
  refine st (am (hsg) Y ⟨VT.le_refl _,trivial⟩) Y ?_
  refine st (sF Z (di Y Y)) Y (Run.nil (aa (aB Y (aX (av (av (aF (aa (ae ?_)))))))))
  refine ai (st (aj Y) Y (st (fl 2 0 1 Y Y Y Y Y) Y ?_))
  refine st (am (hm) Y ⟨(cM Z),VT.le_refl _,trivial⟩) Y ?_
  refine aA 0 Y Y Y Y Y (leN Y) Y (Run.nil (aa (aE ?_)))
  refine aT Tryz.results117 (.cellB 0 Y Y Y H)
 ·have hs0:c8 y≠0:=by unfold c8;rw [if_neg hy]; split <;> decide
  have hdm:=gX x y hy p2 p3
  have hlt:=sG x hy
  refine ae (ae (ai (st (ak 1 Y Y Y) Y ?_)))
  refine st (am (hsg) Y ⟨VT.le_refl _,trivial⟩) Y ?_
  refine st (sT (by assumption) (di Y Y)) Y (Run.nil (aa (aH Y (az (aa (au (ae (ai (st (ak 2 Y Y Y) Y ?_)))))))))
  refine st (ak 1 Y Y Y) Y ?_
  refine st (am (hdm) Y ⟨VT.le_refl _,VT.le_refl _,trivial⟩) Y ?_
  refine st (ab Y) Y (st (aq Y Y) Y (st (aq Y Y) Y (st (aq Y Y) Y ?_)))
  refine aG (T:=37) Y (ltN Y) (fun b5 => ?_)
  refine aG (T:=37) Y (ltN Y) (fun b6 => ?_)
  refine aA 1 Y Y Y Y Y (leN Y) Y (aA 0 Y Y Y Y Y (leN Y) Y (st (ah Y) Y (Run.nil (aa ?_))))
  refine As [⟨⟨3,b3,37,Lay.agg 2⟩,_⟩,⟨⟨2,b2,37,Lay.agg 2⟩,_⟩] [_,_,_] aZ X ((c9 3 Y).trans (.cons _ ((c9 3 Y).trans (.cons _ (List.Perm.refl _))))) Y (And.intro Y (And.intro Y (trivial))) ?_
  refine wl 0 Y X (fun B=>ak 0 Y Y Y) Y ?_
  refine wx (fun B=>ak 0 Y Y Y) Y ?_
  refine ws Y (ws Y ?_)
  refine RunY.nil ⟨And.intro Y (And.intro Y (And.intro Y (And.intro Y (trivial)))),?_⟩
  refine cH (M' := [_,_,_,_,_]) Y (aD (ni ((c9 4 Y).trans (.cons _ ((c9 0 Y).trans (.cons _ ((c9 0 Y).trans (.cons _ (List.Perm.refl _))))))) ?_))
  refine aQ ((y,x % y)) (⟨by rw [← p1]; exact yG x y,p3,ja p3 (Nat.le_of_lt hlt)⟩) (by assumption) DR (.keep DU (.keep DU (.keep DU (SubM.nilR _))))
end Tor
end
section
namespace Tor
open Go Go.RowKit Go.Proofs
attribute [local irreducible] Tor.J Tor.PJ Tor.aK Tor.one Tor.slT Tor.bO Tor.bC Tor.bv Tor.exT Tor.cd Tor.eP Tor.aR Tor.aI Tor.slV Tor.VT.le Tor.Ret Tor.bJ
set_option maxHeartbeats 4000000 in
theorem vo (n d:Int) (hd:d≠0) (hn:cZ n) (hds:cZ d):Ok Tryz.prog 118 [aL n,aL d] (bv [cv (Rat.divInt n d),one (.int .i64 0)]):=by
 have hsi:=dA d
 have hn1:=iM n hn.small
 have hd1:=iM d hds.small
 have e1:cZ (-n):=ja hn Z
 have e2:cZ (-d):=ja hds Z
 have g0:=tT (n:=n) hd
 have g1:cZ ((Nat.gcd n.natAbs d.natAbs:Nat):Int):=ja hds (by rw [Int.natAbs_natCast]; exact Nat.le_of_dvd Z (Nat.gcd_dvd_right _ _))
 unfold cv dy
 refine Ok.enter Tryz.func118 Y Tryz.ntmps118 Y (fun w O => ?_)
 by_cases h:d<0
 ·obtain ⟨l1,l2⟩:=vn (n:=n) h
  have hs:c8 d = -1:=by unfold c8;rw [if_neg hd,if_pos h]
  have hg:=q8 (-n) (-d) e1 e2
  rw [Int.natAbs_neg,Int.natAbs_neg] at hg
  have hm1:=gX (-n) _ g0 e1 g1
  have hm2:=gX (-d) _ g0 e2 g1
  have d1:((Nat.gcd n.natAbs d.natAbs:Nat):Int)∣n:=Int.gcd_dvd_left ..
  have d2:((Nat.gcd n.natAbs d.natAbs:Nat):Int)∣d:=Int.gcd_dvd_right ..
  rw [Int.ediv_neg, ← Int.neg_ediv_of_dvd d1] at l1
  rw [Int.ediv_neg, ← Int.neg_ediv_of_dvd d2] at l2
  refine ae (ai ?_)
  refine aS Y Y (ltN Y) (fun b2 => ?_)
  refine aS Y Y (ltN Y) (fun b3 => ?_)
  refine bq (T:=58) Y Y Y (fun b4 => ?_)
  refine st (ah Y) Y (Run.nil (aa (ae (ae (ai (st (aO 1 Y Y) Y ?_))))))
  refine st (am (hsi) Y ⟨VT.le_refl _,trivial⟩) Y ?_
  refine st (sF Z (ci Y Y)) Y (Run.nil (aa (aB Y (az (aa (ae (ae (ai (st (aO 1 Y Y) Y ?_)))))))))
  refine st (am (hsi) Y ⟨VT.le_refl _,trivial⟩) Y ?_
  refine st (sT Z (a7 Y Y)) Y (Run.nil (aa (aH Y (fd 3 aZ X S (st (aO 2 Y Y) Y ?_)))))
  refine st (am (hn1) Y ⟨VT.le_refl _,trivial⟩) Y ?_
  refine st (aO 1 Y Y) Y (Run.nil ?_)
  refine st (am (hd1) Y ⟨VT.le_refl _,trivial⟩) Y ?_
  refine a4 2 Y Y Y Y (a4 1 Y Y Y Y (Run.nil (aa (ae (ai (st (aO 2 Y Y) Y (st (aO 1 Y Y) Y ?_)))))))
  refine st (am (hg) Y ⟨VT.le_refl _,VT.le_refl _,trivial⟩) Y ?_
  refine aG (T:=37) Y (ltN Y) (fun b6 => ?_)
  refine aA 0 Y Y Y Y Y (leN Y) Y (Run.nil (aa (ae (ai (st (aO 3 Y Y) Y (st (ak 0 Y Y Y) Y ?_))))))
  refine st (am (hm1) Y ⟨VT.le_refl _,VT.le_refl _,trivial⟩) Y ?_
  refine st (ab Y) Y (st (aq Y Y) Y (st (aq Y Y) Y (st (aq Y Y) Y ?_)))
  refine aG (T:=37) Y (ltN Y) (fun b7 => ?_)
  refine aG (T:=37) Y (ltN Y) (fun b8 => ?_)
  refine aA 1 Y Y Y Y Y (leN Y) Y (aA 0 Y Y Y Y Y (leN Y) Y (st (ah Y) Y (Run.nil (aa (ae (ai (st (aO 4 Y Y) Y (st (ak 2 Y Y Y) Y ?_))))))))
  refine st (am (hm2) Y ⟨VT.le_refl _,VT.le_refl _,trivial⟩) Y ?_
  refine st (ab Y) Y (st (aq Y Y) Y (st (aq Y Y) Y (st (aq Y Y) Y ?_)))
  refine aG (T:=37) Y (ltN Y) (fun b10 => ?_)
  refine aG (T:=37) Y (ltN Y) (fun b11 => ?_)
  refine aA 1 Y Y Y Y Y (leN Y) Y (aA 0 Y Y Y Y Y (leN Y) Y (st (ah Y) Y (Run.nil (aa (ae (ai (st (ak 3 Y Y Y) Y (st (ak 1 Y Y Y) Y (stB Y Y Y ?_)))))))))
  refine BuildK.cons Y Y Y (BuildK.cons Y Y Y (BuildK.nil (a4 5 Y Y Y Y (st (ah Y) Y (Run.nil (aa (aE ?_)))))))
  refine cV Tryz.results118 (.cellW 5 Y Y (iP l1 l2)) (.tmp Y H)
 ·obtain ⟨l1,l2⟩:=q6 (n:=n) (show 0<d by omega)
  have hs:c8 d=1:=by unfold c8;rw [if_neg hd,if_neg h]
  have hg:=q8 n d hn hds
  have hm1:=gX n _ g0 hn g1
  have hm2:=gX d _ g0 hds g1
  refine ae (ai ?_)
  refine aS Y Y (ltN Y) (fun b2 => ?_)
  refine aS Y Y (ltN Y) (fun b3 => ?_)
  refine bq (T:=58) Y Y Y (fun b4 => ?_)
  refine st (ah Y) Y (Run.nil (aa (ae (ae (ai (st (aO 1 Y Y) Y ?_))))))
  refine st (am (hsi) Y ⟨VT.le_refl _,trivial⟩) Y ?_
  refine st (sF Z (ci Y Y)) Y (Run.nil (aa (aB Y (az (aa (ae (ae (ai (st (aO 1 Y Y) Y ?_)))))))))
  refine st (am (hsi) Y ⟨VT.le_refl _,trivial⟩) Y ?_
  refine st (sF Z (a7 Y Y)) Y (Run.nil (aa (aB Y (az (aa (ae (ai (st (aO 2 Y Y) Y (st (aO 1 Y Y) Y ?_)))))))))
  refine st (am (hg) Y ⟨VT.le_refl _,VT.le_refl _,trivial⟩) Y ?_
  refine aG (T:=37) Y (ltN Y) (fun b6 => ?_)
  refine aA 0 Y Y Y Y Y (leN Y) Y (Run.nil (aa (ae (ai (st (aO 3 Y Y) Y (st (ak 0 Y Y Y) Y ?_))))))
  refine st (am (hm1) Y ⟨VT.le_refl _,VT.le_refl _,trivial⟩) Y ?_
  refine st (ab Y) Y (st (aq Y Y) Y (st (aq Y Y) Y (st (aq Y Y) Y ?_)))
  refine aG (T:=37) Y (ltN Y) (fun b7 => ?_)
  refine aG (T:=37) Y (ltN Y) (fun b8 => ?_)
  refine aA 1 Y Y Y Y Y (leN Y) Y (aA 0 Y Y Y Y Y (leN Y) Y (st (ah Y) Y (Run.nil (aa (ae (ai (st (aO 4 Y Y) Y (st (ak 2 Y Y Y) Y ?_))))))))
  refine st (am (hm2) Y ⟨VT.le_refl _,VT.le_refl _,trivial⟩) Y ?_
  refine st (ab Y) Y (st (aq Y Y) Y (st (aq Y Y) Y (st (aq Y Y) Y ?_)))
  refine aG (T:=37) Y (ltN Y) (fun b10 => ?_)
  refine aG (T:=37) Y (ltN Y) (fun b11 => ?_)
  refine aA 1 Y Y Y Y Y (leN Y) Y (aA 0 Y Y Y Y Y (leN Y) Y (st (ah Y) Y (Run.nil (aa (ae (ai (st (ak 3 Y Y Y) Y (st (ak 1 Y Y Y) Y (stB Y Y Y ?_)))))))))
  refine BuildK.cons Y Y Y (BuildK.cons Y Y Y (BuildK.nil (a4 5 Y Y Y Y (st (ah Y) Y (Run.nil (aa (aE ?_)))))))
  refine cV Tryz.results118 (.cellW 5 Y Y (iP l1 l2)) (.tmp Y H)
set_option maxHeartbeats 4000000 in
theorem tW (a b c d:Int):Ok Tryz.prog 41 [dy a b,dy c d] (one (.bool (decide (a=c) && decide (b=d)))):=by
 have h1:=ob a c
 have h2:=ob b d
 unfold dy
 refine Ok.enter Tryz.func41 Y Tryz.ntmps41 Y (fun w O => ?_)
 by_cases c1:a=c
 ·rw [decide_eq_true c1] at h1 ⊢
  refine ae (ai ?_)
  refine aS Y Y (ltN Y) (fun b2 => ?_)
  refine aS Y Y (ltN Y) (fun b3 => ?_)
  refine st (ah Y) Y (Run.nil (aa (ae (ai (st (aj Y) Y (st (ak 1 Y Y Y) Y (st (aj Y) Y (st (ak 0 Y Y Y) Y ?_))))))))
  refine st (am (h1) Y ⟨VT.le_refl _,VT.le_refl _,trivial⟩) Y ?_
  refine st (ab Y) Y (sg1 Y Y (aj Y) Y (sg1 Y Y (ak 1 Y Y Y) Y (sg1 Y Y (aj Y) Y (sg1 Y Y (ak 0 Y Y Y) Y ?_))))
  refine sg1 Y Y (am (h2) Y ⟨VT.le_refl _,VT.le_refl _,trivial⟩) Y ?_
  refine st (bj Y Y) Y (st (ah Y) Y (Run.nil (aa (aE ?_))))
  refine aT Tryz.results41 (.tmp Y H)
 ·rw [decide_eq_false c1] at h1 ⊢
  refine ae (ai ?_)
  refine aS Y Y (ltN Y) (fun b2 => ?_)
  refine aS Y Y (ltN Y) (fun b3 => ?_)
  refine st (ah Y) Y (Run.nil (aa (ae (ai (st (aj Y) Y (st (ak 1 Y Y Y) Y (st (aj Y) Y (st (ak 0 Y Y Y) Y ?_))))))))
  refine st (am (h1) Y ⟨VT.le_refl _,VT.le_refl _,trivial⟩) Y ?_
  refine st (ab Y) Y (sg0 Y Y Y Y (sg0 Y Y Y Y (sg0 Y Y Y Y (sg0 Y Y Y Y (sg0 Y Y Y Y (st (bF Y Y) Y (st (ah Y) Y (Run.nil (aa ?_)))))))))
  refine aE ?_
  refine aT Tryz.results41 (.tmp Y H)
theorem pU (q r:Rat):Ok Tryz.prog 41 [cv q,cv r] (one (.bool (decide (q=r)))):=by
 have h:=tW q.num q.den r.num r.den
 have e:(decide (q.num=r.num) && decide ((q.den:Int)=(r.den:Int)))=decide (q=r):=by
  rw [← Bool.decide_and]
  exact decide_eq_decide.2 ⟨fun ⟨h1,h2⟩=>Rat.ext h1 Z,fun h=>by rw [h]; exact ⟨rfl,rfl⟩⟩
 rw [e] at h
 exact h
theorem oq (x:Int) (hx:bm x):Ok Tryz.prog 69 [aL x] (one (.bool true)):=by
 have hx':(aJ x.natAbs).length≤1099511627776:=hx
 have h:=wq (decide (x<0)) (aJ x.natAbs) Z
 have e:fG (decide (x<0)) (aJ x.natAbs)=true:=by
  unfold fG
  by_cases h0:(aJ x.natAbs).length=0
  ·have:=ev h0
   rw [if_pos h0,decide_eq_false Z]; rfl
  ·rw [if_neg h0]
   have h1:x.natAbs≠0:=fun k=>h0 (by rw [k]; rfl)
   have:=sE h1
   exact decide_eq_true Z
 rw [e] at h
 exact h
set_option maxHeartbeats 4000000 in
theorem tX (q:Rat) (h1:cZ q.num) (h2:cZ (q.den:Int)):Ok Tryz.prog 67 [cv q] (one (.bool true)):=by
 have v1:=oq q.num h1.small
 have v2:=oq (q.den:Int) h2.small
 have hsi:=dA (q.den:Int)
 have hd:=q.den_nz
 have hs:c8 (q.den:Int)=1:=by unfold c8;rw [if_neg Z,if_neg Z]
 have hg:=q8 q.num (q.den:Int) h1 h2
 rw [Int.natAbs_natCast,show Nat.gcd q.num.natAbs q.den=1 from q.reduced] at hg
 have ho:=gS 1 S S
 have hc:=si ((1:Nat):Int) 1 (dt U) (dt U)
 rw [show cU ((1:Nat):Int) 1=0 from rfl] at hc
 unfold cv dy
 refine Ok.enter Tryz.func67 Y Tryz.ntmps67 Y (fun w O => ?_)
 refine ae (ai ?_)
 refine aS Y Y (ltN Y) (fun b1 => ?_)
 refine st (ah Y) Y (Run.nil (aa (ae (ae (ai (st (aj Y) Y (st (ak 0 Y Y Y) Y ?_)))))))
 refine st (am (v1) Y ⟨VT.le_refl _,trivial⟩) Y ?_
 refine st (cK Y) Y (st (ab Y) Y (sg1 Y Y (aj Y) Y (sg1 Y Y (ak 0 Y Y Y) Y ?_)))
 refine sg1 Y Y (am (v2) Y ⟨VT.le_refl _,trivial⟩) Y ?_
 refine sg1 Y Y (cK Y) Y (st (bF Y Y) Y (st (ab Y) Y (sg1 Y Y (aj Y) Y (sg1 Y Y (ak 0 Y Y Y) Y ?_))))
 refine sg1 Y Y (am (hsi) Y ⟨VT.le_refl _,trivial⟩) Y ?_
 refine sg1 Y Y (sF Z (a7 Y Y)) Y (st (bF Y Y) Y (Run.nil (aa (aB Y (az (aa (ae (ai (st (aj Y) Y ?_)))))))))
 refine st (ak 0 Y Y Y) Y (st (aj Y) Y (st (ak 0 Y Y Y) Y ?_))
 refine st (am (hg) Y ⟨VT.le_refl _,VT.le_refl _,trivial⟩) Y ?_
 refine st (am (ho) Y ⟨VT.le_refl _,trivial⟩) Y ?_
 refine st (am (hc) Y ⟨VT.le_refl _,VT.le_refl _,trivial⟩) Y ?_
 refine st (sT Z (ci Y Y)) Y (st (ah Y) Y (Run.nil (aa (aE ?_))))
 refine aT Tryz.results67 (.tmp Y H)
end Tor
end
section
namespace Tor
def sH (n:Nat):Prop := ∀ d,2≤d→d*d≤n→n % d≠0
def ms (p:Nat→Bool):Nat→Nat
 | 0 => 0
 | m + 1 => if p m then m else ms p m
noncomputable def tZ (m:Nat):Bool := @decide (2≤m∧m<2147483648∧sH m) (Classical.propDecidable _)
theorem Cx {m:Nat} : tZ m=true↔2≤m∧m<2147483648∧sH m := @decide_eq_true_iff _ (Classical.propDecidable _)
abbrev bf (p:Nat→Bool) (n:Nat):Nat:=ms p (min n 2147483648)
end Tor
end
section
namespace Tor
open Go Go.RowKit Go.Proofs
attribute [local irreducible] Tor.J Tor.PJ Tor.aK Tor.one Tor.slT Tor.bO Tor.bC Tor.bv Tor.exT Tor.cd Tor.eP Tor.aR Tor.aI Tor.slV Tor.VT.le Tor.Ret Tor.bJ
attribute [local irreducible] aL
set_option maxHeartbeats 1000000 in
theorem vq (p a b:Nat) (hp0:0<p) (hp:p<4294967296) (ha:a<4294967296) (hb:b<4294967296):Ok Tryz.prog 140 [one (.int .u64 p),one (.int .u64 a),one (.int .u64 b)] (one (.int .u64 (((a+b) % p:Nat):Int))):=by
 have hr:=ol (a+b) p Z hp0 Z
 refine Ok.enter Tryz.func140 Y Tryz.ntmps140 Y (fun w O => ?_)
 refine ae (ai (st (ah Y) Y (Run.nil (aa (ae (ai (st (ab Y) Y (st (ab Y) Y (st (dT Y Y Z) Y ?_)))))))))
 refine st (ab Y) Y ?_
 refine st (am (hr) Y ⟨VT.le_refl _,VT.le_refl _,trivial⟩) Y ?_
 refine st (ah Y) Y (Run.nil (aa (aE ?_)))
 refine aT Tryz.results140 (.tmp Y H)
end Tor
end
section
namespace Tor
open Go Go.RowKit Go.Proofs
def mu (v:List Int):VT:=slT (.agg 2) v.length (fun i=>aL (v.getD i 0))
theorem q9 {u v:List Int} {i:Nat} (h:u.take i=v.take i) (hl:u.length=v.length) (hi:i<u.length) (he:u.getD i 0=v.getD i 0):u.take (i+1)=v.take (i+1):=by
 rw [List.take_add_one,List.take_add_one,h,List.getElem?_eq_getElem hi,List.getElem?_eq_getElem (hl▸hi)]
 simp only [List.getD,List.getElem?_eq_getElem hi,List.getElem?_eq_getElem (hl▸hi),Option.getD_some] at he
 rw [he]
attribute [local irreducible] Tor.J Tor.PJ Tor.aK Tor.one Tor.slT Tor.bO Tor.bC Tor.bv Tor.exT Tor.cd Tor.eP Tor.aR Tor.aI Tor.slV Tor.VT.le Tor.Ret Tor.bJ
attribute [local irreducible] aL
set_option maxHeartbeats 1000000 in
theorem sI (u v:List Int):Ok Tryz.prog 65 [mu u,mu v] (one (.bool (decide (u=v)))):=by
 unfold mu
 refine Ok.enter Tryz.func65 Y Tryz.ntmps65 Y (fun w O => ?_)
 refine iA (t:=0) Y (fun _ _=>eC) (fun hb => ?_)
 refine ae (ai (st (ah Y) Y (Run.nil (aa (ae (ae (ai (st (ab Y) Y (st (aU Y) Y ?_)))))))))
 refine st (ab Y) Y (st (aU Y) Y (st (di Y Y) Y (Run.nil (aa ?_))))
 refine a8 Y (fun hc => ?_) (fun hc => ?_) <;> simp only [decide_eq_true_eq,decide_eq_false_iff_not,ne_eq,Decidable.not_not] at hc
 ·refine ae (ai (st (ah Y) Y (Run.nil (aa (aE (aW ?_))))))
  refine aT Tryz.results65 (.tmp Y (ar ?_))
  have : ¬ (u=v):=by intro e;subst e;exact hc Y
  simp [this]
 ·have hlen:u.length=v.length:=by omega
  refine az (aa (ae (ae (ai (st (ah Y) Y (Run.nil (aa (au ?_))))))))
  refine cC (σ:=Nat) (fun i => [(0,mu u),(1,mu v),(5,one (.int .i64 (i:Nat)))]) (fun _ => []) (fun i=>i≤u.length∧u.take i=v.take i) (fun i=>u.length - i) 0 ⟨Nat.zero_le _,rfl⟩ DS (SubM.refl _) (fun i ⟨hi,ht⟩ => ?_)
  unfold mu
  refine ae (ae (ai (st (ab Y) Y (st (ab Y) Y (st (aU Y) Y (st (a7 Y Y) Y (Run.nil (aa ?_))))))))
  refine a8 Y (fun hc => ?_) (fun hc => ?_) <;> simp at hc
  ·refine az (aa (ae (au (ae (a6 10 aZ X S (st (ab Y) Y (st (ab Y) Y ?_)))))))
   (refine st (aC Y Y ?_) Y ?_;omega)
   refine st (aM Y) Y (st (ab Y) Y (st (ab Y) Y ?_))
   (refine st (aC Y Y ?_) Y ?_;omega)
   refine st (aM Y) Y ?_
   refine st (am (ob _ _) Y ⟨VT.le_refl _,VT.le_refl _,trivial⟩) Y ?_
   refine st (cK Y) Y (Run.nil (Run.nil (aa ?_)))
   refine a8 Y (fun hc2 => ?_) (fun hc2 => ?_)
   ·simp at hc2
    refine ae (ai (st (ah Y) Y (Run.nil (aa (aE (bN (aW (aW (bN ?_)))))))))
    refine aW ?_
    refine aT Tryz.results65 (.tmp Y (ar ?_))
    have : ¬ (u=v):=by intro e;subst e;exact hc2 Y
    simp [this]
   ·have he:u.getD i 0=v.getD i 0:=by simpa using hc2
    refine az (aD (aa (ai (st (ab Y) Y ?_))))
    (refine st (cp Y Y (aP ?_ ?_)) Y ?_;omega;omega)
    refine st (ah Y) Y (Run.nil ?_)
    exact bU (s:=i) (i+1) ⟨by omega,q9 ht hlen Z he⟩ (by show u.length - (i+1)<u.length - i;omega) DS (SubM.refl _)
  ·refine aX (av (av (aF (aa (ae (ai (st (ah Y) Y (Run.nil (aa ?_)))))))))
   refine aE ?_
   refine aT Tryz.results65 (.tmp Y (ar ?_))
   rw [List.take_of_length_le Z,List.take_of_length_le Z] at ht
   simp [ht]
end Tor
end
section
namespace Tor
open Go Go.RowKit Go.Proofs
def yH (a:List (List Int)):VT:=slT .one a.length (fun i=>mu (a.getD i []))
def Cy (r c:Int) (a:List (List Int)):VT:=bC 3 [(0, .one,one (.int .i64 r)),(1, .one,one (.int .i64 c)),(2, .one,yH a)]
attribute [local irreducible] Tor.J Tor.PJ Tor.aK Tor.one Tor.slT Tor.bO Tor.bC Tor.bv Tor.exT Tor.cd Tor.eP Tor.aR Tor.aI Tor.slV Tor.VT.le Tor.Ret Tor.bJ
attribute [local irreducible] aL mu
end Tor
end
section
namespace Tor
open Go Go.RowKit Go.Proofs
def fm (v:List (Bool × List Nat)):VT:=slT (.agg 2) v.length (fun i=>kG (v.getD i (false, [])).1 (v.getD i (false, [])).2)
def mR (x:Int):Bool × List Nat:=(decide (x<0),aJ x.natAbs)
theorem yI (v:List Int):VT.le (mu v) (fm (v.map mR)):=by
 unfold mu fm
 refine VT.le_trans (dX (ψ:=fun i=>kG ((v.map mR).getD i (false, [])).1 ((v.map mR).getD i (false, [])).2) (fun i hi => ?_)) (by rw [List.length_map]; exact VT.le_refl _)
 simp only [List.getD,List.getElem?_map,List.getElem?_eq_getElem hi,Option.map_some,Option.getD_some]
 exact yu _
theorem lR : ∀ {l:List Nat},gp l→0<l.length→l.getD (l.length - 1) 0≠0
 | [], _, h => absurd h S
 | [d], h, _ => h
 | _ :: d :: l, h, _ => lR (l := d :: l) h (by simp)
theorem t4 (x:Int):fG (mR x).1 (mR x).2=true:=by
 unfold fG mR
 simp only
 split
 ·rename_i h
  have e:=List.eq_nil_of_length_eq_zero h
  have:x.natAbs=0:=by rw [← bX x.natAbs,e]; rfl
  have : ¬ x<0:=by omega
  simp [this]
 ·rename_i h
  have:=lR (lE x.natAbs) Z
  simpa using this
theorem eD (x:Int):c8 x=0↔x=0:=by
 unfold c8
 constructor
 ·intro h;split at h
  ·assumption
  ·split at h <;> omega
 ·intro h;rw [if_pos h]
theorem vr {α:Type} {p:α→Bool} {v:List α} {d:α} {i:Nat} (h:(v.take i).all p=true) (hi:i<v.length) (he:p (v.getD i d)=true):(v.take (i+1)).all p=true:=by
 rw [List.take_add_one,List.all_append,h,List.getElem?_eq_getElem hi]
 simp only [List.getD,List.getElem?_eq_getElem hi,Option.getD_some] at he
 simp [he]
theorem t5 {α:Type} {p:α→Bool} {v:List α} {d:α} {i:Nat} (hi:i<v.length) (he:p (v.getD i d)=false):v.all p=false:=by
 simp only [List.getD,List.getElem?_eq_getElem hi,Option.getD_some] at he
 rw [List.all_eq_false]; exact ⟨_,List.getElem_mem hi,by simp [he]⟩
attribute [local irreducible] Tor.J Tor.PJ Tor.aK Tor.one Tor.slT Tor.bO Tor.bC Tor.bv Tor.exT Tor.cd Tor.eP Tor.aR Tor.aI Tor.slV Tor.VT.le Tor.Ret Tor.bJ
attribute [local irreducible] aL kG
end Tor
end
section
namespace Tor
open Go Go.RowKit Go.Proofs
abbrev t6:=List (Bool × List Nat)
def ew (a:List t6):VT:=slT .one a.length (fun i=>fm (a.getD i []))
def lS (r c:Int) (a:List t6):VT:=bC 3 [(0, .one,one (.int .i64 r)),(1, .one,one (.int .i64 c)),(2, .one,ew a)]
def jI (c:Int) (v:t6):Bool:=decide ((v.length:Int)=c) && v.all fun p=>fG p.1 p.2
def jb (r c:Int) (a:List t6):Bool:=decide (0≤r∧0≤c∧(a.length:Int)=r) && a.all (jI c)
attribute [local irreducible] Tor.J Tor.PJ Tor.aK Tor.one Tor.slT Tor.bO Tor.bC Tor.bv Tor.exT Tor.cd Tor.eP Tor.aR Tor.aI Tor.slV Tor.VT.le Tor.Ret Tor.bJ
attribute [local irreducible] aL kG fm
end Tor
end
section
namespace Tor
open Go Go.RowKit Go.Proofs
def tab (r c:Nat) (F:Nat→Nat→Int):List (List Int):=(List.range r).map fun i=>(List.range c).map (F i)
@[simp] theorem tab_length (r c:Nat) (F:Nat→Nat→Int):(tab r c F).length=r:=by simp [tab]
theorem A1 {r c i:Nat} (F:Nat→Nat→Int) (hi:i<r):(tab r c F).getD i []=(List.range c).map (F i):=by simp [tab,List.getD,hi]
theorem Cz {c j:Nat} (f:Nat→Int) (hj:j<c):((List.range c).map f).getD j 0=f j:=by simp [List.getD,hj]
def bD (c:Nat) (f:Nat→Int):VT:=slT (.agg 2) c (fun j=>aL (f j))
theorem ot (c:Nat) (f:Nat→Int):VT.le (bD c f) (mu ((List.range c).map f)):=by
 unfold bD mu
 refine VT.le_trans (dX (ψ:=fun j=>aL (((List.range c).map f).getD j 0)) (fun j hj => ?_)) (gE (by simp))
 rw [Cz f hj]; exact VT.le_refl _
def bR (r c:Nat) (F:Nat→Nat→Int):VT:=bC 3 [(0, .one,one (.int .i64 r)),(1, .one,one (.int .i64 c)),(2, .one,slT .one r (fun i=>bD c (F i)))]
theorem yJ (r c:Nat) (F:Nat→Nat→Int):VT.le (bR r c F) (Cy r c (tab r c F)):=by
 unfold bR Cy yH
 refine eO (fun q hq => ?_)
 rcases List.mem_cons.1 hq with rfl | hq
 ·exact ⟨_,List.mem_cons_self,VT.le_refl _⟩
 rcases List.mem_cons.1 hq with rfl | hq
 ·exact ⟨_,List.mem_cons_of_mem _ List.mem_cons_self,VT.le_refl _⟩
 rcases List.mem_cons.1 hq with rfl | hq
 ·refine ⟨_,List.mem_cons_of_mem _ (List.mem_cons_of_mem _ List.mem_cons_self),VT.le_trans (dX (ψ:=fun i=>mu ((tab r c F).getD i [])) (fun i hi => ?_)) (gE (by simp))⟩
  rw [A1 F hi]; exact ot _ _
 ·cases hq
theorem nq {r c:Nat} {F G:Nat→Nat→Int} (h : ∀ i j,i<r→j<c→F i j=G i j):VT.le (bR r c F) (bR r c G):=by
 unfold bR
 refine eO (fun q hq => ?_)
 rcases List.mem_cons.1 hq with rfl | hq
 ·exact ⟨_,List.mem_cons_self,VT.le_refl _⟩
 rcases List.mem_cons.1 hq with rfl | hq
 ·exact ⟨_,List.mem_cons_of_mem _ List.mem_cons_self,VT.le_refl _⟩
 rcases List.mem_cons.1 hq with rfl | hq
 ·refine ⟨_,List.mem_cons_of_mem _ (List.mem_cons_of_mem _ List.mem_cons_self),dX fun i hi=>dX fun j hj=>gE (by rw [h i j hi hj])⟩
 ·cases hq
theorem iQ:VT.le (one (.agg #[.bool false, .slice none 0 0])) (aL 0):=by
 intro v h e
 have e:v = .agg #[.bool false, .slice none 0 0]:=e
 subst e
 refine ⟨_,rfl,rfl,by simp [Value.oneCell'],fun q hq => ?_⟩
 rcases List.mem_cons.1 hq with rfl | hq
 ·exact ⟨.bool false,rfl,rfl⟩
 ·rcases List.mem_cons.1 hq with rfl | hq
  ·exact ⟨.slice none 0 0,rfl,⟨none,0,rfl,Nat.le_refl _,by decide,fun i hi=>absurd hi (Nat.not_lt_zero _)⟩⟩
  ·cases hq
theorem iR {sv:Option Nat} {T:TypeId} {L:Lay} {cap n:Nat} {φ:Nat→VT} {g:RH} {h:Hp} (hp:(aI sv T L cap n φ).p g h) (he:sv=none):n=0:=by
 obtain ⟨h1,h2,h3,_⟩:=hp;have:=h3 he;omega
theorem wF {bs:List Nat} {i:Nat} (h:i<bs.length):bs[i]? = some (bs.getD i 0):=by simp [List.getD,h]
def iS (sv:Option Nat) (cap r c:Nat) (bs:List Nat):Own:=aI sv 32 .one cap r (fun q=>one (slV (some (bs.getD q 0)) c c))
def fX (c:Nat) (bs:List Nat) (F:Nat→Nat→Int):Own:=dY 37 (.agg 2) c bs (fun q k=>aL (F q k))
theorem gu {c:Nat} {bs:List Nat} {F G:Nat→Nat→Int} (h : ∀ i j,i<bs.length→j<c→F i j=G i j):Own.le (fX c bs F) (fX c bs G):=k9 fun i j hi hj=>by rw [h i j hi hj]
abbrev Dn (r:Nat) := {s:List Nat × Option Nat × Nat // s.1.length=r∧(s.2.1=none→r=0)}
def m8 (r c:Nat) (s:Dn r):VT:=bC 3 [(0, .one,one (.int .i64 r)),(1, .one,one (.int .i64 c)),(2, .one,one (slV s.1.2.1 r s.1.2.2))]
theorem iT {r c:Nat} {sv:Option Nat} {cap:Nat} {bs:List Nat} {F:Nat→Nat→Int} {cs:ck} (hb:bs.length=r) (hc:(0,Lay.one,one (.int .i64 r))∈cs∧(1,Lay.one,one (.int .i64 c))∈cs∧(2,Lay.one,one (slV sv r cap))∈cs) :
  qr [iS sv cap r c bs,fX c bs F] cs [(0, .one,one (.int .i64 r)),(1, .one,one (.int .i64 c)),(2, .one,slT .one r (fun i=>bD c (F i)))]:=by
 refine .cons hc.1 (Ent.refl _) (.cons hc.2.1 (Ent.refl _) (.cons hc.2.2 ?_ .nil))
 refine Ent.slE List.mem_cons_self fun q hq => ?_
 exact Ent.row (List.mem_cons_of_mem _ List.mem_cons_self) (wF Z)
attribute [local irreducible] Tor.J Tor.PJ Tor.aK Tor.one Tor.slT Tor.bO Tor.bC Tor.bv Tor.exT Tor.cd Tor.eP Tor.aR Tor.aI Tor.slV Tor.VT.le Tor.Ret Tor.bJ
attribute [local irreducible] Tor.dY
set_option maxHeartbeats 2000000 in
theorem lT (r c:Nat) (hr:r≤1048576) (hc:c≤1048576):OkM Tryz.prog 45 [one (.int .i64 r),one (.int .i64 c)] (m8 r c) (fun s => [iS s.1.2.1 s.1.2.2 r c s.1.1,fX c s.1.1 (fun _ _=>0)]):=by
 refine OkM.enter Tryz.func45 Y Tryz.ntmps45 Y (fun w O => ?_)
 refine ae (ai ?_)
 refine bq (T:=30) Y Y Y (fun b => ?_)
 refine Run.nil (aa (ae (ai (m0 (n:=0) Y Y Y Y Y ?_))))
 refine PartsK.nil (fun b => ?_)
 refine st (ah Y) Y (Run.nil (aa (ae (ae (ai (st (ah Y) Y (Run.nil (aa (au ?_)))))))))
 rename_i bc
 refine f8 (ConvM.rows0 (T:=37) (L := .agg 2) (c:=c) (φ:=fun _ _=>aL 0) _) ?_
 refine cC (σ:=List Nat × Option Nat × Nat) (fun s => [(0,one (.int .i64 r)),(1,one (.int .i64 c)),(4,one (.pointer (some ⟨bc,0,none⟩))),(5,one (slV s.2.1 s.1.length s.2.2)),(6,one (.int .i64 s.1.length))])
  (fun s => [aI s.2.1 32 .one s.2.2 s.1.length (fun q=>one (slV (some (s.1.getD q 0)) c c)),aR bc 30 3 (dx #[Value.int IntKind.i64 0,Value.int IntKind.i64 0,Value.slice none 0 0] [(0,Lay.one),(1,Lay.one),(2,Lay.one)]),fX c s.1 (fun _ _=>0)])
  (fun s=>s.1.length≤r) (fun s=>r - s.1.length) ([],some b,0) (Nat.zero_le _) DS (.keep (be (fun q hq=>by omega)) (SubM.refl _)) (fun s hk => ?_)
 obtain ⟨bs,sv0,cap0⟩:=s
 simp only at hk ⊢
 refine ae (ae (ai (st (ab Y) Y (st (ab Y) Y (st (a7 Y Y) Y (Run.nil (aa ?_)))))))
 refine a8 Y (fun hc => ?_) (fun hc => ?_) <;> simp at hc
 ·refine az (aa (ae (au (ai (st (ab Y) Y (st (ab Y) Y ?_))))))
  refine bV c c Y Y Y Y (Nat.le_refl _) Y Y Z Y Y (fun bz => ?_)
  refine fS Y Y Y Y ?_
  (refine cS 1 Y Y Y (leN Y) ?_ ?_ Y (ltN Y) (fun sv cap => ?_);omega;omega)
  refine st (ah Y) Y (Run.nil (aD (aa (ai (st (ab Y) Y ?_)))))
  (refine st (cp Y Y (aP ?_ ?_)) Y ?_;omega;omega)
  refine st (ah Y) Y (Run.nil (fc (ConvM.row (k:=2) Y) (bU (s:=(bs,sv0,cap0)) (bs ++ [bz],sv,cap) (by simp;omega) (by simp;omega) (.cons Y H (.cons Y H (.cons Y H (.cons Y (lK (by simp)) (.cons Y (ar (by simp)) .nil))))) ?_)))
  refine .keep (gR (by simp) (fun q hq => ?_)) (.keep DU (.keep (nL fun i j hi hj => ?_) .nil))
  ·by_cases h:q<bs.length
   ·rw [if_pos h]; simp [List.getElem?_append_left h]
   ·have:q=bs.length:=by omega
    subst this;rw [if_neg h]; simp
  ·simp only
   split
   ·exact VT.le_refl _
   ·exact iQ
 ·have hlen:bs.length=r:=by omega
  subst hlen
  refine nh (i:=0) (F:=sv0=none→bs.length=0) Y (fun g h hp he=>iR hp he) (fun hF => ?_)
  refine aX (av (av (aF (aa (ae (ai (st (ab Y) Y (st (ab Y) Y (st (ab Y) Y ?_)))))))))
  refine stB Y Y Y (BuildK.cons Y Y Y (BuildK.cons Y Y Y (BuildK.cons Y Y Y (BuildK.nil (a4 1 Y Y Y Y (Run.nil (aa (aE ?_))))))))
  refine kt ⟨(bs,sv0,cap0),rfl,hF⟩ Tryz.results45 (.cellW 1 Y Y H) ?_
  exact .keep DU (.drop (SubM.refl _))
end Tor
end
section
namespace Tor
open Go Go.RowKit Go.Proofs
def fI (k:IntKind) (l:List Int):VT:=slT .one l.length (fun i=>one (.int k (l.getD i 0)))
theorem gv {sv:Option Nat} {r:Nat} (h:sv=none→r=0) (hr:0<r) : ∃ b,sv=some b:=by
 cases sv with
 | none => have := h Y; omega
 | some b => exact ⟨b, rfl⟩
theorem pa (i c j:Nat):((i:Int)*c+j).toNat=i*c+j:=by
 have:((i:Int)*c+j)=((i*c+j:Nat):Int):=by simp
 rw [this,Int.toNat_natCast]
def gc (f:Nat→Int) (c i j:Nat):Nat→Nat→Int:=fun q k=>if q<i∨(q=i∧k<j) then f (q*c+k) else 0
theorem yK {l:List Int} {i:Nat} {p:Int→Prop} (h : ∀ x∈l,p x) (h0:p 0):p (l.getD i 0):=by
 rcases Nat.lt_or_ge i l.length with hi | hi
 ·simp only [List.getD,List.getElem?_eq_getElem hi,Option.getD_some]; exact h _ (List.getElem_mem hi)
 ·simp only [List.getD,List.getElem?_eq_none hi,Option.getD_none]; exact h0
theorem sJ {T:TypeId} {c:Nat} {bs:List Nat} {f:Nat→Int} {i j:Nat} (x:Int) (hx:x=f (i*c+j)) :
  Own.le (dY T (.agg 2) c bs (m4 (fun q k=>aL (gc f c i j q k)) i j (aL x))) (dY T (.agg 2) c bs (fun q k=>aL (gc f c i (j+1) q k))):=by
 subst hx
 refine k9 fun q k hq hk => ?_
 unfold m4 gc
 by_cases h:q=i∧k=j
 ·obtain ⟨rfl,rfl⟩:=h;simp
 ·rw [if_neg h]
  have e:(q<i∨q=i∧k<j+1)↔(q<i∨q=i∧k<j):=by omega
  simp only [e]
attribute [local irreducible] Tor.J Tor.PJ Tor.aK Tor.one Tor.slT Tor.bO Tor.bC Tor.bv Tor.exT Tor.cd Tor.eP Tor.aR Tor.aI Tor.slV Tor.VT.le Tor.Ret Tor.bJ
attribute [local irreducible] aL Tor.dY
set_option maxHeartbeats 2000000 in
theorem yL (r c:Nat) (l:List Int) (hr0:r≤1048576) (hc0:c≤1048576) (hl : ∀ x∈l, -9223372036854775808≤x∧x≤9223372036854775807):Ok Tryz.prog 43 [one (.int .i64 r),one (.int .i64 c),fI .i64 l] (bR r c (fun i j=>l.getD (i*c+j) 0)):=by
 unfold fI
 refine Ok.enter Tryz.func43 Y Tryz.ntmps43 Y (fun w O => ?_)
 refine ae (ai ?_)
 refine bq (T:=30) Y Y Y (fun b => ?_)
 refine Run.nil (aa (ae (ai (st (ab Y) Y (st (ab Y) Y ?_)))))
 refine gl (lT r c hr0 hc0) Y ⟨VT.le_refl _,VT.le_refl _,trivial⟩ Y Y (fun s => ?_)
 obtain ⟨⟨bs,sv1,cap1⟩,hlen,hsv⟩:=s
 simp only at hlen hsv
 unfold m8
 refine bq (T:=30) Y Y Y (fun b => ?_)
 refine a4 0 Y Y Y Y (Run.nil (aa (ae (ae (ai (st (ah Y) Y (Run.nil (aa (au ?_)))))))))
 rename_i b2
 refine cC (σ:=Nat) (fun i => [(0,one (.int .i64 r)),(1,one (.int .i64 c)),(2,slT .one l.length (fun i=>one (.int .i64 (l.getD i 0)))),(6,one (.pointer (some ⟨b2,0,none⟩))),(7,one (.pointer (some ⟨b,0,none⟩))),(8,one (.int .i64 (i:Nat)))])
  (fun i => [aR b 30 3 [(0, .one,one (.int .i64 r)),(1, .one,one (.int .i64 c)),(2, .one,one (slV sv1 r cap1))],iS sv1 cap1 r c bs,fX c bs (gc (fun n=>l.getD n 0) c i 0),
   aR b2 30 3 (dx #[Value.int IntKind.i64 0,Value.int IntKind.i64 0,Value.slice none 0 0] [(0,Lay.one),(1,Lay.one),(2,Lay.one)])])
  (fun i=>i≤r) (fun i=>r - i) 0 (Nat.zero_le _) DS (.keep DU (.keep DU (.keep (gu fun i j hi hj=>by simp [gc]) (SubM.refl _)))) (fun i hi => ?_)
 refine ae (ae (ai (st (ab Y) Y (st (ab Y) Y (st (a7 Y Y) Y (Run.nil (aa ?_)))))))
 refine a8 Y (fun hc => ?_) (fun hc => ?_) <;> simp at hc
 ·have hir:i<r:=by omega
  obtain ⟨bo,rfl⟩:=gv hsv Z
  refine az (aa (ae (au (ae (ai (st (ah Y) Y (Run.nil (aa (au ?_)))))))))
  refine cC (σ:=Nat) (fun j => [(0,one (.int .i64 r)),(1,one (.int .i64 c)),(2,slT .one l.length (fun i=>one (.int .i64 (l.getD i 0)))),(6,one (.pointer (some ⟨b2,0,none⟩))),(7,one (.pointer (some ⟨b,0,none⟩))),(8,one (.int .i64 (i:Nat))),(9,one (.int .i64 (j:Nat)))])
   (fun j => [aR b 30 3 [(0, .one,one (.int .i64 r)),(1, .one,one (.int .i64 c)),(2, .one,one (slV (some bo) r cap1))],iS (some bo) cap1 r c bs,fX c bs (gc (fun n=>l.getD n 0) c i j),
   aR b2 30 3 (dx #[Value.int IntKind.i64 0,Value.int IntKind.i64 0,Value.slice none 0 0] [(0,Lay.one),(1,Lay.one),(2,Lay.one)])])
   (fun j=>j≤c) (fun j=>c - j) 0 (Nat.zero_le _) DS (SubM.refl _) (fun j hj => ?_)
  have hm:i*c≤1048576*1048576:=Nat.mul_le_mul Z hc0
  have hm2:(i:Int)*c≤1099511627776:=by omega
  have hm3:0≤(i:Int)*c:=by have:=Nat.zero_le (i*c);omega
  refine ae (ae ?_)
  refine fA (σ:=Unit) (fun _ => [(0,one (.int .i64 r)),(1,one (.int .i64 c)),(2,slT .one l.length (fun i=>one (.int .i64 (l.getD i 0)))),(6,one (.pointer (some ⟨b2,0,none⟩))),(7,one (.pointer (some ⟨b,0,none⟩))),(8,one (.int .i64 (i:Nat))),(9,one (.int .i64 (j:Nat))),(30,one (.bool (decide (j<c∧i*c+j<l.length))))])
   (fun _ => [aR b 30 3 [(0, .one,one (.int .i64 r)),(1, .one,one (.int .i64 c)),(2, .one,one (slV (some bo) r cap1))],iS (some bo) cap1 r c bs,fX c bs (gc (fun n=>l.getD n 0) c i j),
   aR b2 30 3 (dx #[Value.int IntKind.i64 0,Value.int IntKind.i64 0,Value.slice none 0 0] [(0,Lay.one),(1,Lay.one),(2,Lay.one)])]) (fun _=>True) ?_ (fun _ _ => ?_)
  ·refine ai (st (ab Y) Y (st (ab Y) Y (st (a7 Y Y) Y (st (ab Y) Y ?_))))
   refine mZ (t:=21) Y (fun b h1 => ?_)
   rw [h1]
   cases b
   ·simp at h1
    refine sg0 Y Y Y Y (sg0 Y Y Y Y (sg0 Y Y Y Y (sg0 Y Y Y Y (sg0 Y Y Y Y (sg0 Y Y Y Y (sg0 Y Y Y Y (sg0 Y Y Y Y (st (bF Y Y) Y (Run.nil ?_)))))))))
    refine cT () trivial (.cons Y H (.cons Y H (.cons Y H (.cons Y H (.cons Y H (.cons Y H (.cons Y H (.cons Y (ar ?_) .nil)))))))) (SubM.refl _)
    congr 1;symm;rw [decide_eq_false_iff_not]; omega
   ·simp at h1
    refine sg1 Y Y (ab Y) Y (sg1 Y Y (ab Y) Y ?_)
    (refine sg1 Y Y (mL Y Y (aP ?_ ?_)) Y ?_;omega;omega)
    refine sg1 Y Y (ab Y) Y ?_
    (refine sg1 Y Y (cp Y Y (aP ?_ ?_)) Y ?_;omega;omega)
    refine sg1 Y Y (ab Y) Y (sg1 Y Y (aU Y) Y (sg1 Y Y (a7 Y Y) Y (st (bj Y Y) Y (Run.nil ?_))))
    refine cT () trivial (.cons Y H (.cons Y H (.cons Y H (.cons Y H (.cons Y H (.cons Y H (.cons Y H (.cons Y (ar ?_) .nil)))))))) (SubM.refl _)
    congr 1;rw [decide_eq_decide]
    have:((i*c:Nat):Int)=(i:Int)*c:=by simp
    omega
  ·refine aa ?_
   refine a8 Y (fun hc2 => ?_) (fun hc2 => ?_) <;> simp only [decide_eq_true_eq,decide_eq_false_iff_not] at hc2
   ·have hm4:((i*c:Nat):Int)=(i:Int)*c:=by simp
    refine az (aa (ae (au (a6 16 aZ X S (st (aj Y) Y (st (ak 0 Y Y Y) Y (st (ab Y) Y ?_)))))))
    (refine st (ao Y Y ?_) Y ?_;omega)
    (refine st (bh 1 Y Y ?_) Y ?_;omega)
    refine st (ab Y) Y (st (ab Y) Y (st (ab Y) Y (st (ab Y) Y ?_)))
    (refine st (mL Y Y (aP ?_ ?_)) Y ?_;omega;omega)
    refine st (ab Y) Y ?_
    (refine st (cp Y Y (aP ?_ ?_)) Y ?_;omega;omega)
    (refine st (aC Y Y ?_) Y ?_;omega)
    refine st (aM Y) Y ?_
    have hv:=yK (i:=((i:Int)*c+j).toNat) hl S
    refine st (am (gS _ hv.1 hv.2) Y ⟨VT.le_refl _,trivial⟩) Y ?_
    (refine st (ao Y Y ?_) Y ?_;omega)
    refine Run.nil ?_
    (refine jz 2 Y Y Y (wF ?_) ?_ Y ?_;omega;omega)
    refine Run.nil (aD (aa (ai (st (ab Y) Y ?_))))
    (refine st (cp Y Y (aP ?_ ?_)) Y ?_;omega;omega)
    refine st (ah Y) Y (Run.nil ?_)
    refine bU (s:=j) (j+1) (show _ from by omega) Z DS (.keep DU (.keep DU (.keep (sJ _ (by rw [pa])) (SubM.refl _))))
   ·refine aX (av (av (aF (aD (aa (ai (st (ab Y) Y ?_)))))))
    (refine st (cp Y Y (aP ?_ ?_)) Y ?_;omega;omega)
    refine st (ah Y) Y (Run.nil ?_)
    refine bU (s:=i) (i+1) (show _ from by omega) Z DS (.keep DU (.keep DU (.keep (gu fun q k hq hk => ?_) (SubM.refl _))))
    unfold gc
    by_cases h:q<i∨(q=i∧k<j)
    ·rw [if_pos h,if_pos Z]
    ·rw [if_neg h]
     by_cases h2:q=i
     ·subst h2;rw [if_pos Z]
      have:l.length≤q*c+k:=by omega
      simp [List.getD,List.getElem?_eq_none this]
     ·rw [if_neg Z]
 ·have hin:i=r:=by omega
  subst hin
  refine aX (av (av (aF (aa (ae (ai (st (aO 0 Y Y) Y (a4 3 Y Y Y Y (Run.nil ?_)))))))))
  refine aa (aE ?_)
  have hperm : ∀ (x y z u:Own), [x,y,z,u].Perm ([y,z] ++ [x,u]):=fun x y z u=>(List.Perm.swap y x _).trans (List.Perm.cons y (List.Perm.swap z x _))
  refine gm [iS sv1 cap1 i c bs,fX c bs (gc (fun n=>l.getD n 0) c i 0)] (hperm _ _ _ _) (.keep (v8.refl _) (.keep (v8.box (iT hlen ⟨by simp,by simp,by simp⟩)) .nil)) (v9.refl _) ?_
  refine aT Tryz.results43 (.cellW 1 Y Y ?_)
  exact nq fun a b ha hb=>by simp [gc,ha]
end Tor
end
section
namespace Tor
open Go Go.RowKit Go.Proofs
theorem CA (x:Int) : -10<x.tmod 10∧x.tmod 10<10:=⟨by
 have:=Int.tmod_lt_of_pos (-x) (show (0:Int)<10 by decide)
 rw [Int.neg_tmod] at this;omega,Int.tmod_lt_of_pos x S⟩
def dig (l:List Int) (n:Nat):Int:=(l.getD n 0).tmod 10
attribute [local irreducible] Tor.J Tor.PJ Tor.aK Tor.one Tor.slT Tor.bO Tor.bC Tor.bv Tor.exT Tor.cd Tor.eP Tor.aR Tor.aI Tor.slV Tor.VT.le Tor.Ret Tor.bJ
attribute [local irreducible] aL Tor.dY
set_option maxHeartbeats 2000000 in
theorem sK (r c:Nat) (l:List Int) (hr0:r≤16) (hc0:c≤16):OkM Tryz.prog 47 [one (.int .i64 r),one (.int .i64 c),fI .i8 l] (m8 r c) (fun s => [iS s.1.2.1 s.1.2.2 r c s.1.1,fX c s.1.1 (fun i j=>dig l (i*c+j))]):=by
 unfold fI
 refine OkM.enter Tryz.func47 Y Tryz.ntmps47 Y (fun w O => ?_)
 refine ae (ai ?_)
 refine bq (T:=30) Y Y Y (fun b => ?_)
 refine Run.nil (aa (ae (ai (st (ab Y) Y (st (po Y Y) Y (st (xF Y Y) Y (st (ab Y) Y (st (po Y Y) Y (st (xF Y Y) Y ?_)))))))))
 refine gl (lT r c Z Z) Y ⟨ar (by congr 1;omega),ar (by congr 1;omega),trivial⟩ Y Y (fun s => ?_)
 obtain ⟨⟨bs,sv1,cap1⟩,hlen,hsv⟩:=s
 simp only at hlen hsv
 unfold m8
 refine bq (T:=30) Y Y Y (fun b => ?_)
 refine a4 0 Y Y Y Y (Run.nil (aa (ae (ae (ai (st (ah Y) Y (Run.nil (aa (au ?_)))))))))
 rename_i b2
 refine cC (σ:=Nat) (fun i => [(2,slT .one l.length (fun i=>one (.int .i8 (l.getD i 0)))),(6,one (.pointer (some ⟨b2,0,none⟩))),(7,one (.pointer (some ⟨b,0,none⟩))),(8,one (.int .i64 (i:Nat)))])
  (fun i => [aR b 30 3 [(0, .one,one (.int .i64 r)),(1, .one,one (.int .i64 c)),(2, .one,one (slV sv1 r cap1))],iS sv1 cap1 r c bs,fX c bs (gc (dig l) c i 0),
   aR b2 30 3 (dx #[Value.int IntKind.i64 0,Value.int IntKind.i64 0,Value.slice none 0 0] [(0,Lay.one),(1,Lay.one),(2,Lay.one)])])
  (fun i=>i≤r) (fun i=>r - i) 0 (Nat.zero_le _) DS (.keep DU (.keep DU (.keep (gu fun i j hi hj=>by simp [gc]) (SubM.refl _)))) (fun i hi => ?_)
 refine ae (ae (ai (st (ab Y) Y (st (aj Y) Y (st (ak 0 Y Y Y) Y (st (a7 Y Y) Y (Run.nil (aa ?_))))))))
 refine a8 Y (fun hc => ?_) (fun hc => ?_) <;> simp at hc
 ·have hir:i<r:=by omega
  obtain ⟨bo,rfl⟩:=gv hsv Z
  refine az (aa (ae (au (ae (ai (st (ah Y) Y (Run.nil (aa (au ?_)))))))))
  refine cC (σ:=Nat) (fun j => [(2,slT .one l.length (fun i=>one (.int .i8 (l.getD i 0)))),(6,one (.pointer (some ⟨b2,0,none⟩))),(7,one (.pointer (some ⟨b,0,none⟩))),(8,one (.int .i64 (i:Nat))),(9,one (.int .i64 (j:Nat)))])
   (fun j => [aR b 30 3 [(0, .one,one (.int .i64 r)),(1, .one,one (.int .i64 c)),(2, .one,one (slV (some bo) r cap1))],iS (some bo) cap1 r c bs,fX c bs (gc (dig l) c i j),
   aR b2 30 3 (dx #[Value.int IntKind.i64 0,Value.int IntKind.i64 0,Value.slice none 0 0] [(0,Lay.one),(1,Lay.one),(2,Lay.one)])])
   (fun j=>j≤c) (fun j=>c - j) 0 (Nat.zero_le _) DS (SubM.refl _) (fun j hj => ?_)
  have hm:i*c≤16*16:=Nat.mul_le_mul Z hc0
  have hm2:(i:Int)*c≤256:=by omega
  have hm3:0≤(i:Int)*c:=by have:=Nat.zero_le (i*c);omega
  refine ae (ae ?_)
  refine fA (σ:=Unit) (fun _ => [(2,slT .one l.length (fun i=>one (.int .i8 (l.getD i 0)))),(6,one (.pointer (some ⟨b2,0,none⟩))),(7,one (.pointer (some ⟨b,0,none⟩))),(8,one (.int .i64 (i:Nat))),(9,one (.int .i64 (j:Nat))),(37,one (.bool (decide (j<c∧i*c+j<l.length))))])
   (fun _ => [aR b 30 3 [(0, .one,one (.int .i64 r)),(1, .one,one (.int .i64 c)),(2, .one,one (slV (some bo) r cap1))],iS (some bo) cap1 r c bs,fX c bs (gc (dig l) c i j),
   aR b2 30 3 (dx #[Value.int IntKind.i64 0,Value.int IntKind.i64 0,Value.slice none 0 0] [(0,Lay.one),(1,Lay.one),(2,Lay.one)])]) (fun _=>True) ?_ (fun _ _ => ?_)
  ·refine ai (st (ab Y) Y (st (aj Y) Y (st (ak 0 Y Y Y) Y (st (a7 Y Y) Y (st (ab Y) Y ?_)))))
   refine mZ (t:=27) Y (fun b h1 => ?_)
   rw [h1]
   cases b
   ·simp at h1
    refine sg0 Y Y Y Y (sg0 Y Y Y Y (sg0 Y Y Y Y (sg0 Y Y Y Y (sg0 Y Y Y Y (sg0 Y Y Y Y (sg0 Y Y Y Y (sg0 Y Y Y Y (sg0 Y Y Y Y (st (bF Y Y) Y ?_)))))))))
    refine Run.nil ?_
    refine cT () trivial (.cons Y H (.cons Y H (.cons Y H (.cons Y H (.cons Y H (.cons Y (ar ?_) .nil)))))) (SubM.refl _)
    congr 1;symm;rw [decide_eq_false_iff_not]; omega
   ·simp at h1
    refine sg1 Y Y (ab Y) Y (sg1 Y Y (aj Y) Y (sg1 Y Y (ak 0 Y Y Y) Y ?_))
    (refine sg1 Y Y (mL Y Y (aP ?_ ?_)) Y ?_;omega;omega)
    refine sg1 Y Y (ab Y) Y ?_
    (refine sg1 Y Y (cp Y Y (aP ?_ ?_)) Y ?_;omega;omega)
    refine sg1 Y Y (ab Y) Y (sg1 Y Y (aU Y) Y (sg1 Y Y (a7 Y Y) Y (st (bj Y Y) Y (Run.nil ?_))))
    refine cT () trivial (.cons Y H (.cons Y H (.cons Y H (.cons Y H (.cons Y H (.cons Y (ar ?_) .nil)))))) (SubM.refl _)
    congr 1;rw [decide_eq_decide]
    have:((i*c:Nat):Int)=(i:Int)*c:=by simp
    omega
  ·refine aa ?_
   refine a8 Y (fun hc2 => ?_) (fun hc2 => ?_) <;> simp only [decide_eq_true_eq,decide_eq_false_iff_not] at hc2
   ·have hm4:((i*c:Nat):Int)=(i:Int)*c:=by simp
    refine az (aa (ae (au (a6 19 aZ X S (st (aj Y) Y (st (ak 0 Y Y Y) Y (st (ab Y) Y ?_)))))))
    (refine st (ao Y Y ?_) Y ?_;omega)
    (refine st (bh 1 Y Y ?_) Y ?_;omega)
    refine st (ab Y) Y (st (ab Y) Y (st (ab Y) Y (st (aj Y) Y (st (ak 0 Y Y Y) Y ?_))))
    (refine st (mL Y Y (aP ?_ ?_)) Y ?_;omega;omega)
    refine st (ab Y) Y ?_
    (refine st (cp Y Y (aP ?_ ?_)) Y ?_;omega;omega)
    (refine st (aC Y Y ?_) Y ?_;omega)
    refine st (aM Y) Y (st (BR Y Y S Y) Y ?_)
    have hv:=CA (l.getD (i*c+j) 0)
    refine st (ed Y ?_ ?_) Y ?_; · omega
    ·omega
    refine st (am (gS _ Z Z) Y ⟨VT.le_refl _,trivial⟩) Y ?_
    (refine st (ao Y Y ?_) Y ?_;omega)
    refine Run.nil ?_
    (refine jz 2 Y Y Y (wF ?_) ?_ Y ?_;omega;omega)
    refine Run.nil (aD (aa (ai (st (ab Y) Y ?_))))
    (refine st (cp Y Y (aP ?_ ?_)) Y ?_;omega;omega)
    refine st (ah Y) Y (Run.nil ?_)
    refine bU (s:=j) (j+1) (show _ from by omega) Z DS (.keep DU (.keep DU (.keep (sJ _ Y) (SubM.refl _))))
   ·refine aX (av (av (aF (aD (aa (ai (st (ab Y) Y ?_)))))))
    (refine st (cp Y Y (aP ?_ ?_)) Y ?_;omega;omega)
    refine st (ah Y) Y (Run.nil ?_)
    refine bU (s:=i) (i+1) (show _ from by omega) Z DS (.keep DU (.keep DU (.keep (gu fun q k hq hk => ?_) (SubM.refl _))))
    unfold gc
    by_cases h:q<i∨(q=i∧k<j)
    ·rw [if_pos h,if_pos Z]
    ·rw [if_neg h]
     by_cases h2:q=i
     ·subst h2;rw [if_pos Z]
      have:l.length≤q*c+k:=by omega
      simp [dig,List.getD,List.getElem?_eq_none this]
     ·rw [if_neg Z]
 ·have hin:i=r:=by omega
  subst hin
  refine aX (av (av (aF (aa (ae (ai (st (aO 0 Y Y) Y (a4 3 Y Y Y Y (Run.nil ?_)))))))))
  refine aa (aE ?_)
  refine kt ⟨(bs,sv1,cap1),hlen,hsv⟩ Tryz.results47 (.cellW 3 Y Y ?_) ?_
  ·show VT.le _ (m8 i c _)
   unfold m8
   exact VT.le_refl _
  ·refine .drop (.keep DU (.keep (gu fun a b ha hb => ?_) (.drop .nil)))
   have:a<i:=by have:a<bs.length:=ha;omega
   simp [gc,this]
theorem sL {r c:Nat} (F:Nat→Nat→Int) (s:Dn r):Ent [iS s.1.2.1 s.1.2.2 r c s.1.1,fX c s.1.1 F] (m8 r c s) (bR r c F):=by
 unfold m8 bR
 exact Ent.agg (iT s.2.1 ⟨by simp,by simp,by simp⟩)
theorem ou (r c:Nat) (l:List Int) (hr0:r≤16) (hc0:c≤16):Ok Tryz.prog 47 [one (.int .i64 r),one (.int .i64 c),fI .i8 l] (bR r c (fun i j=>dig l (i*c+j))) :=
 (sK r c l hr0 hc0).ok fun s=>sL _ s
end Tor
end
section
namespace Tor
open Go Go.RowKit Go.Proofs
instance {neg:Bool} {l:List Nat} : Flat (kG neg l) (.agg 2):=by unfold kG;infer_instance
theorem t7 {neg:Bool} {l:List Nat} {v:Value} {h:Hp} (DP:(kG neg l).p v h):l.length≤281474976710656:=by
 obtain ⟨c,_,_,_,h4⟩:=DP
 obtain ⟨x,_,hp⟩:=h4 _ (List.mem_cons_of_mem _ List.mem_cons_self)
 exact eC hp
theorem pb {r c:Int} {a:List t6} {v:Value} {h:Hp} (DP:(lS r c a).p v h):a.length≤2^48:=by
 obtain ⟨c,_,_,_,h4⟩:=DP
 obtain ⟨x,_,hp⟩:=h4 _ (List.mem_cons_of_mem _ (List.mem_cons_of_mem _ List.mem_cons_self))
 exact eC hp
def ov (r c:Nat) (F:Nat→Nat→Int):List t6:=(tab r c F).map (·.map mR)
theorem yM (r c:Nat) (F:Nat→Nat→Int):VT.le (bR r c F) (lS r c (ov r c F)):=by
 refine VT.le_trans (yJ r c F) ?_
 unfold Cy lS
 refine eO (fun q hq => ?_)
 rcases List.mem_cons.1 hq with rfl | hq
 ·exact ⟨_,List.mem_cons_self,VT.le_refl _⟩
 rcases List.mem_cons.1 hq with rfl | hq
 ·exact ⟨_,List.mem_cons_of_mem _ List.mem_cons_self,VT.le_refl _⟩
 rcases List.mem_cons.1 hq with rfl | hq
 ·refine ⟨_,List.mem_cons_of_mem _ (List.mem_cons_of_mem _ List.mem_cons_self),?_⟩
  unfold yH ew ov
  refine VT.le_trans (dX (ψ:=fun i=>fm (((tab r c F).map (·.map mR)).getD i [])) (fun i hi => ?_)) (gE (by simp))
  refine VT.le_trans (yI _) (gE ?_)
  simp [List.getD,List.getElem?_eq_getElem hi]
 ·cases hq
theorem t8 (r c:Nat) (F:Nat→Nat→Int):jb r c (ov r c F)=true:=by
 unfold jb ov
 simp only [List.length_map,tab_length,Bool.and_eq_true,decide_eq_true_eq,List.all_map]
 refine ⟨⟨by omega,by omega,trivial⟩,?_⟩
 rw [List.all_eq_true]
 intro x hx
 simp only [tab,List.mem_map,List.mem_range] at hx
 obtain ⟨i,hi,rfl⟩:=hx
 simp only [jI,Function.comp,List.length_map,List.length_range,List.all_map,Bool.and_eq_true,decide_eq_true_eq]
 refine ⟨trivial,?_⟩
 rw [List.all_eq_true]
 intro y hy
 exact t4 _
attribute [local irreducible] Tor.J Tor.PJ Tor.aK Tor.one Tor.slT Tor.bO Tor.bC Tor.bv Tor.exT Tor.cd Tor.eP Tor.aR Tor.aI Tor.slV Tor.VT.le Tor.Ret Tor.bJ
set_option maxHeartbeats 1000000 in
theorem yN (neg:Bool) (l:List Nat):Ok Tryz.prog 124 [kG neg l] (one (.bool (fG neg l))):=by
 refine Ok.enter Tryz.func124 Y Tryz.ntmps124 Y (fun w O => ?_)
 refine iA (t:=0) Y (fun _ _=>t7) (fun hl => ?_)
 unfold kG
 by_cases h0:l.length=0
 ·refine ae (ai ?_)
  refine aS Y Y (ltN Y) (fun b => ?_)
  refine st (ah Y) Y (Run.nil (aa (ae (ae (ai (st (aj Y) Y (st (ak 0 Y Y Y) Y (st (aU Y) Y (st (ah Y) Y ?_)))))))))
  refine Run.nil (aa (ae (ai (st (ab Y) Y (st (c7 Y Y) Y (Run.nil (aa ?_)))))))
  refine a8 Y (fun hc => ?_) (fun hc => ?_) <;> simp only [decide_eq_true_eq,decide_eq_false_iff_not,ne_eq,Decidable.not_not] at hc
  ·omega
  ·refine az (aa (ae (ai (st (aj Y) Y (st (ak 0 Y Y Y) Y (st (cK Y) Y (st (ah Y) Y (Run.nil (aa ?_)))))))))
   refine aE ?_
   exact aT Tryz.results124 (.tmp Y (ar (by unfold fG;rw [if_pos h0])))
 ·refine ae (ai ?_)
  refine aS Y Y (ltN Y) (fun b => ?_)
  refine st (ah Y) Y (Run.nil (aa (ae (ae (ai (st (aj Y) Y (st (ak 0 Y Y Y) Y (st (aU Y) Y (st (ah Y) Y ?_)))))))))
  refine Run.nil (aa (ae (ai (st (ab Y) Y (st (c7 Y Y) Y (Run.nil (aa ?_)))))))
  refine a8 Y (fun hc => ?_) (fun hc => ?_) <;> simp only [decide_eq_true_eq,decide_eq_false_iff_not,ne_eq,Decidable.not_not] at hc
  ·refine ae (ai (st (aj Y) Y (st (ak 0 Y Y Y) Y (st (ab Y) Y ?_))))
   (refine st (ei Y Y (aP ?_ ?_)) Y ?_;omega;omega)
   (refine st (fP Y Y ?_ ?_) Y ?_;omega;omega)
   refine st (aM Y) Y (st (di Y Y) Y (st (ah Y) Y (Run.nil (aa (aE (aW ?_))))))
   refine aT Tryz.results124 (.tmp Y (ar ?_))
   have e:(↑l.length - 1:Int).toNat=l.length - 1:=by omega
   unfold fG;rw [if_neg h0,e]; congr 1;rw [decide_eq_decide]; omega
  ·omega
attribute [local irreducible] aL kG
attribute [local irreducible] fm
set_option maxHeartbeats 2000000 in
theorem sM (r c:Int) (a:List t6):Ok Tryz.prog 77 [lS r c a] (one (.bool (jb r c a))):=by
 refine Ok.enter Tryz.func77 Y Tryz.ntmps77 Y (fun w O => ?_)
 refine iA (t:=0) Y (fun _ _=>pb) (fun ha => ?_)
 unfold lS
 unfold ew
 refine ae (ai ?_)
 refine aS Y Y (ltN Y) (fun b => ?_)
 refine st (ah Y) Y (Run.nil (aa (ae (ae (ai (st (aj Y) Y (st (ak 0 Y Y Y) Y (st (a7 Y Y) Y (st (ab Y) Y ?_)))))))))
 refine mZ (t:=10) Y (fun bo hb => ?_)
 rw [hb]
 cases bo
 ·have e1:0≤r:=by simpa using hb
  refine sg1 Y Y (aj Y) Y (sg1 Y Y (ak 0 Y Y Y) Y (sg1 Y Y (a7 Y Y) Y (st (bF Y Y) Y (st (ab Y) Y ?_))))
  refine mZ (t:=15) Y (fun bo hb2 => ?_)
  rw [hb2]
  cases bo
  ·have e2:0≤c:=by simpa using hb2
   refine sg1 Y Y (aj Y) Y (sg1 Y Y (ak 0 Y Y Y) Y (sg1 Y Y (aU Y) Y (sg1 Y Y (aj Y) Y (sg1 Y Y (ak 0 Y Y Y) Y (sg1 Y Y (di Y Y) Y (st (bF Y Y) Y (Run.nil (aa ?_))))))))
   refine a8 Y (fun hc => ?_) (fun hc => ?_) <;> simp only [decide_eq_true_eq,decide_eq_false_iff_not,ne_eq,Decidable.not_not] at hc
   ·refine ae (ai (st (ah Y) Y (Run.nil (aa (aE (aW ?_))))))
    refine aT Tryz.results77 (.tmp Y (ar ?_))
    simp [jb,hc]
   ·have e3:(a.length:Int)=r:=hc
    refine az (aa (ae (ae (ai (st (aj Y) Y (st (ak 0 Y Y Y) Y (st (aU Y) Y (st (ab Y) Y (Run.nil ?_)))))))))
    refine aa (au ?_)
    refine cC (σ:=Nat) (fun i => [(1,one (.pointer (some ⟨b,0,none⟩))),(24,ew a),(25,one (.int .i64 a.length)),(26,one (.int .i64 (i:Nat)))])
     (fun _ => [aR b 30 3 [(0, .one,one (.int .i64 r)),(1, .one,one (.int .i64 c)),(2, .one,ew a)]])
     (fun i=>i≤a.length∧(a.take i).all (jI c)=true) (fun i=>a.length - i) 0 ⟨Nat.zero_le _,rfl⟩ DS (SubM.refl _) (fun i ⟨hi,ht⟩ => ?_)
    unfold ew
    refine ae (ai (st (a7 Y Y) Y (Run.nil (aa (ae ?_)))))
    refine a8 Y (fun hc => ?_) (fun hc => ?_) <;> simp at hc
    ·refine az (aa (ae (au (ae (ai ?_)))))
     (refine st (aC Y Y ?_) Y ?_;omega)
     refine st (aM Y) Y (st (ah Y) Y (Run.nil (aa (ae (ae (ai (st (ab Y) Y ?_)))))))
     unfold fm
     refine st (aU Y) Y (st (aj Y) Y (st (ak 0 Y Y Y) Y (st (di Y Y) Y (Run.nil (aa ?_)))))
     refine a8 Y (fun hc2 => ?_) (fun hc2 => ?_) <;> simp only [decide_eq_true_eq,decide_eq_false_iff_not,ne_eq,Decidable.not_not] at hc2
     ·refine ae (ai (st (ah Y) Y (Run.nil (aa (aE (aW (bN (aW (aW ?_)))))))))
      refine bN (aW ?_)
      refine aT Tryz.results77 (.tmp Y (ar ?_))
      have:=t5 (p:=jI c) (d := []) hc (by simp only [jI,Bool.and_eq_false_iff]; left;simpa using hc2)
      simp [jb,this]
     ·refine iA (t:=29) Y (fun _ _=>eC) (fun hlb => ?_)
      refine az (aa (ae (ai (st (ab Y) Y (st (aU Y) Y (st (ab Y) Y (Run.nil (aa (au ?_)))))))))
      refine cC (σ:=Nat) (fun j => [(1,one (.pointer (some ⟨b,0,none⟩))),(24,ew a),(25,one (.int .i64 a.length)),(26,one (.int .i64 (i:Nat))),(35,fm (a.getD i [])),(36,one (.int .i64 (a.getD i []).length)),(37,one (.int .i64 (j:Nat)))])
       (fun _ => [aR b 30 3 [(0, .one,one (.int .i64 r)),(1, .one,one (.int .i64 c)),(2, .one,ew a)]])
       (fun j=>j≤(a.getD i []).length∧((a.getD i []).take j).all (fun p=>fG p.1 p.2)=true) (fun j=>(a.getD i []).length - j) 0 ⟨Nat.zero_le _,rfl⟩ (by unfold ew fm;repeat (first | exact dG.nil | refine dG.cons Y H ?_ | (refine dG.cons Y (ar ?_) ?_;(congr 1;first | omega | (simp;omega) | simp)))) (by unfold ew fm;exact SubM.refl _) (fun j ⟨hj,hu⟩ => ?_)
      unfold ew fm
      refine ae (ai (st (a7 Y Y) Y (Run.nil (aa (ae ?_)))))
      refine a8 Y (fun hc3 => ?_) (fun hc3 => ?_) <;> simp only [decide_eq_true_eq,decide_eq_false_iff_not,Int.ofNat_lt] at hc3
      ·refine az (aa (ae (au (ae (ai ?_)))))
       (refine st (aC Y Y ?_) Y ?_;omega)
       refine st (aM Y) Y ?_
       refine aG (T:=37) Y (ltN Y) (fun b => ?_)
       refine aA 0 Y Y Y Y Y (leN Y) Y (Run.nil (aa (ae (ai (st (ak 0 Y Y Y) Y ?_)))))
       refine st (am (yN ((a.getD i []).getD j (false, [])).1 ((a.getD i []).getD j (false, [])).2) Y ⟨VT.le_refl _,trivial⟩) Y ?_
       refine st (cK Y) Y (Run.nil (aa ?_))
       refine a8 Y (fun hc4 => ?_) (fun hc4 => ?_)
       ·refine ae (ai (st (ah Y) Y (Run.nil (aa (aE (bN (aW (aW (bN ?_)))))))))
        refine bN (aW (aW (bN (aW ?_))))
        refine aT Tryz.results77 (.tmp Y (ar ?_))
        have h1:=t5 (p:=fun p:Bool × List Nat=>fG p.1 p.2) (d:=(false, [])) (v:=a.getD i []) hc3 (by simpa using hc4)
        have h2:=t5 (p:=jI c) (d := []) hc (by simp only [jI,Bool.and_eq_false_iff]; right;exact h1)
        simp [jb,h2]
       ·refine az (aD (aa (ai ?_)))
        (refine st (cp Y Y (aP ?_ ?_)) Y ?_;omega;omega)
        refine st (ab Y) Y (Run.nil ?_)
        exact bU (s:=j) (j+1) ⟨by omega,vr (d:=(false, [])) hu hc3 (by simpa using hc4)⟩ (by show (a.getD i []).length - (j+1)<(a.getD i []).length - j;omega) DS (.drop (SubM.refl _))
      ·refine aX (av (av (aF (aD (aa (ai ?_))))))
       (refine st (cp Y Y (aP ?_ ?_)) Y ?_;omega;omega)
       refine st (ab Y) Y (Run.nil ?_)
       rw [List.take_of_length_le Z] at hu
       exact bU (s:=i) (i+1) ⟨by omega,vr (d := []) ht hc (by simp only [jI,Bool.and_eq_true]; exact ⟨by simpa using hc2,hu⟩)⟩ (by show a.length - (i+1)<a.length - i;omega) DS (SubM.refl _)
    ·refine aX (av (av (aF (aa (ae (ai (st (ah Y) Y (Run.nil (aa ?_)))))))))
     refine aE ?_
     refine aT Tryz.results77 (.tmp Y (ar ?_))
     rw [List.take_of_length_le Z] at ht
     simp [jb,ht,e1,e2,e3]
  ·have e2 : ¬ (0≤r∧0≤c):=by simp at hb2;omega
   refine sg0 Y Y Y Y (sg0 Y Y Y Y (sg0 Y Y Y Y (sg0 Y Y Y Y (sg0 Y Y Y Y (sg0 Y Y Y Y (st (bj Y Y) Y (Run.nil (aa ?_))))))))
   refine a8 Y (fun hc => ?_) (fun hc => ?_)
   ·refine ae (ai (st (ah Y) Y (Run.nil (aa (aE (aW ?_))))))
    refine aT Tryz.results77 (.tmp Y (ar ?_))
    simp only [jb]; rw [decide_eq_false Z]; rfl
   ·cases hc
 ·have e1 : ¬ 0≤r:=by simpa using hb
  refine sg0 Y Y Y Y (sg0 Y Y Y Y (sg0 Y Y Y Y (st (bj Y Y) Y (st (ab Y) Y (sg0 Y Y Y Y (sg0 Y Y Y Y (sg0 Y Y Y Y (sg0 Y Y Y Y (sg0 Y Y Y Y ?_)))))))))
  refine sg0 Y Y Y Y (st (bj Y Y) Y (Run.nil (aa ?_)))
  refine a8 Y (fun hc => ?_) (fun hc => ?_)
  ·refine ae (ai (st (ah Y) Y (Run.nil (aa (aE (aW ?_))))))
   refine aT Tryz.results77 (.tmp Y (ar ?_))
   simp [jb,e1]
  ·cases hc
end Tor
end
section
namespace Tor
open Go Go.RowKit Go.Proofs
def vt (φ ψ:VT):VT:=slT (.agg 3) 2 (fun i=>if i=0 then φ else ψ)
theorem sN {φ ψ:VT} : VT.le (slT (.agg 3) 2 (fun q => [φ, ψ].getD q bJ)) (vt φ ψ):=by
 unfold vt
 refine dX fun i hi => ?_
 rcases i with _ | _ | i
 ·exact VT.le_refl _
 ·exact VT.le_refl _
 ·omega
instance {r c:Nat} {F:Nat→Nat→Int} : Flat (bR r c F) (.agg 3):=by unfold bR;infer_instance
attribute [local irreducible] Tor.J Tor.PJ Tor.aK Tor.one Tor.slT Tor.bO Tor.bC Tor.bv Tor.exT Tor.cd Tor.eP Tor.aR Tor.aI Tor.slV Tor.VT.le Tor.Ret Tor.bJ
attribute [local irreducible] aL bR
set_option maxHeartbeats 1000000 in
theorem fo (r c:Nat) (F:Nat→Nat→Int):Ok Tryz.prog 77 [bR r c F] (one (.bool true)):=by
 have h:=sM r c (ov r c F)
 rw [t8] at h
 exact h.le ⟨yM r c F,trivial⟩ H
set_option maxHeartbeats 1000000 in
theorem pV (ra ca:Nat) (F:Nat→Nat→Int) (rb cb:Nat) (G:Nat→Nat→Int):Ok Tryz.prog 82 [vt (bR ra ca F) (bR rb cb G)] (one (.bool true)):=by
 unfold vt
 refine Ok.enter Tryz.func82 Y Tryz.ntmps82 Y (fun w O => ?_)
 refine ae (ai (st (ah Y) Y (Run.nil (aa (ae (ae (ai (st (ab Y) Y (st (aU Y) Y ?_)))))))))
 refine st (ab Y) Y (Run.nil (aa (au ?_)))
 refine cC (σ:=Nat) (fun i => [(5,slT (.agg 3) 2 (fun i=>if i=0 then bR ra ca F else bR rb cb G)),(6,one (.int .i64 (2:Nat))),(7,one (.int .i64 (i:Nat)))]) (fun _ => []) (fun i=>i≤2) (fun i=>2 - i) 0 (Nat.zero_le _) DS (SubM.refl _) (fun i hi => ?_)
 refine ae (ai (st (a7 Y Y) Y (Run.nil (aa (ae ?_)))))
 refine a8 Y (fun hc => ?_) (fun hc => ?_) <;> simp only [decide_eq_true_eq,decide_eq_false_iff_not,ne_eq,Decidable.not_not] at hc
 ·have h2:i<2:=by omega
  have hF:Flat (if i=0 then bR ra ca F else bR rb cb G) (.agg 3):=by split <;> infer_instance
  refine az (aa (ae (au (ae (ai ?_)))))
  (refine st (aC Y Y ?_) Y ?_;omega)
  refine st (aM Y) Y ?_
  refine bq (T:=30) Y Y Y (fun b => ?_)
  refine jB 0 Y Y Y Y (Run.nil (aa (ae (ai (st (ak 0 Y Y Y) Y ?_)))))
  have hcall:Ok Tryz.prog 77 [if i=0 then bR ra ca F else bR rb cb G] (one (.bool true)):=by
   split
   ·exact fo _ _ _
   ·exact fo _ _ _
  refine st (am hcall Y ⟨VT.le_refl _,trivial⟩) Y ?_
  refine st (cK Y) Y (Run.nil (aa ?_))
  refine a8 Y (fun hc2 => ?_) (fun hc2 => ?_)
  ·cases hc2
  ·refine az (aD (aa (ai ?_)))
   (refine st (cp Y Y (aP ?_ ?_)) Y ?_;omega;omega)
   refine st (ab Y) Y (Run.nil ?_)
   exact bU (s:=i) (i+1) (show _ from by omega) (by show 2 - (i+1)<2 - i;omega) DS (.drop .nil)
 ·refine aX (av (av (aF (aa (ae (ai (st (ah Y) Y (Run.nil (aa ?_)))))))))
  refine aE ?_
  exact aT Tryz.results82 (.tmp Y H)
end Tor
end
section
namespace Tor
open Go Go.RowKit Go.Proofs
attribute [local irreducible] Tor.J Tor.PJ Tor.aK Tor.one Tor.slT Tor.bO Tor.bC Tor.bv Tor.exT Tor.cd Tor.eP Tor.aR Tor.aI Tor.slV Tor.VT.le Tor.Ret Tor.bJ
set_option maxHeartbeats 1000000 in
theorem yP (x:Int) (hx:bm x):Ok Tryz.prog 129 [aL x] (aL x):=by
 unfold aL
 refine Ok.enter Tryz.func129 Y Tryz.ntmps129 Y (fun w O => ?_)
 refine ae (ai ?_)
 refine aS Y Y (ltN Y) (fun b => ?_)
 refine aG (T:=37) Y (ltN Y) (fun b => ?_)
 refine Run.nil (aa (ae (a6 6 aZ X S (st (aj Y) Y (st (ak 1 Y Y Y) Y (st (aj Y) Y (st (ak 1 Y Y Y) Y ?_)))))))
 refine st (am (jH _ hx) Y ⟨VT.le_refl _,trivial⟩) Y ?_
 refine stB Y Y Y (BuildK.cons Y Y Y (BuildK.cons Y Y Y (BuildK.nil (Run.nil (aA 0 Y Y Y Y Y (leN Y) Y (Run.nil (aa (aE ?_))))))))
 refine aT Tryz.results129 (.cellB 0 Y Y Y H)
attribute [local irreducible] aL
set_option maxHeartbeats 2000000 in
theorem pW (n m:Nat) (f g:Nat→Int) (hn:n≤1048576) (hm:m≤1048576) (hf : ∀ i,bm (f i)) (hg : ∀ i,bm (g i)):Ok Tryz.prog 83 [bD n f,bD m g] (bD (n+m) (fun k=>if k<n then f k else g (k - n))):=by
 unfold bD
 refine Ok.enter Tryz.func83 Y Tryz.ntmps83 Y (fun w O => ?_)
 refine ae (ai (st (ah Y) Y (Run.nil (aa (ae (ai (st (ab Y) Y (st (aU Y) Y (st (ab Y) Y ?_)))))))))
 refine st (aU Y) Y ?_
 (refine st (cp Y Y (aP ?_ ?_)) Y ?_;omega;omega)
 refine bV 0 (n+m) Y Y Y (by simp) (Nat.zero_le _) Y Y Z Y Y (fun bz => ?_)
 refine st (ah Y) Y (Run.nil (aa (ae (ae (ai (st (ab Y) Y (st (aU Y) Y (st (ab Y) Y (Run.nil ?_)))))))))
 refine aa (au ?_)
 refine cC (σ:=Nat × Option Nat × Nat) (fun s => [(1,slT (.agg 2) m (fun j=>aL (g j))),(5,one (slV s.2.1 s.1 s.2.2)),(16,slT (.agg 2) n (fun j=>aL (f j))),(17,one (.int .i64 n)),(18,one (.int .i64 (s.1:Nat)))])
  (fun s => [aI s.2.1 37 (.agg 2) s.2.2 s.1 (fun q=>aL (f q))]) (fun s=>s.1≤n) (fun s=>n - s.1) (0,some bz,n+m) (Nat.zero_le _) DS (.keep (be fun q hq=>by omega) .nil) (fun s hs => ?_)
 obtain ⟨k,sv0,cap0⟩:=s
 simp only at hs ⊢
 refine ae (ai (st (a7 Y Y) Y (Run.nil (aa (ae ?_)))))
 refine a8 Y (fun hc => ?_) (fun hc => ?_) <;> simp only [decide_eq_true_eq,decide_eq_false_iff_not,ne_eq,Decidable.not_not] at hc
 ·refine az (aa (ae (au (ae (ai ?_)))))
  (refine st (aC Y Y ?_) Y ?_;omega)
  refine st (aM Y) Y ?_
  refine aG (T:=37) Y (ltN Y) (fun b => ?_)
  refine aA 0 Y Y Y Y Y (leN Y) Y (Run.nil (aa (ai (st (ab Y) Y (st (ak 0 Y Y Y) Y ?_)))))
  refine st (am (yP (f k) (hf k)) Y ⟨VT.le_refl _,trivial⟩) Y ?_
  refine fS Y Y Y Y ?_
  (refine cS 1 Y Y Y (leN Y) ?_ ?_ Y (ltN Y) (fun sv cap => ?_);omega;omega)
  refine st (ah Y) Y (Run.nil (aD (aa (ai ?_))))
  (refine st (cp Y Y (aP ?_ ?_)) Y ?_;omega;omega)
  refine st (ab Y) Y (Run.nil ?_)
  refine bU (s:=(k,sv0,cap0)) (k+1,sv,cap) (show _ from by simp only;omega) (by show n - (k+1)<n - k;omega) DS (.drop (.keep (be fun q hq => ?_) .nil))
  by_cases h:q<k
  ·rw [if_pos h]
  ·have:q=k:=by omega
   subst this;rw [if_neg h]
 ·have hk:k=n:=by omega
  subst hk
  refine aX (av (av (aF (aa (ae (ae (ai (st (ab Y) Y (st (aU Y) Y ?_)))))))))
  refine st (ab Y) Y (Run.nil (aa (au ?_)))
  refine cC (σ:=Nat × Option Nat × Nat) (fun s => [(5,one (slV s.2.1 (k+s.1) s.2.2)),(28,slT (.agg 2) m (fun j=>aL (g j))),(29,one (.int .i64 m)),(30,one (.int .i64 (s.1:Nat)))])
   (fun s => [aI s.2.1 37 (.agg 2) s.2.2 (k+s.1) (fun q=>aL (if q<k then f q else g (q - k)))]) (fun s=>s.1≤m) (fun s=>m - s.1) (0,sv0,cap0) (Nat.zero_le _) DS (.keep (be fun q hq=>by rw [if_pos hq]) .nil) (fun s hs => ?_)
  obtain ⟨j,sv1,cap1⟩:=s
  simp only at hs ⊢
  refine ae (ai (st (a7 Y Y) Y (Run.nil (aa (ae ?_)))))
  refine a8 Y (fun hc2 => ?_) (fun hc2 => ?_) <;> simp only [decide_eq_true_eq,decide_eq_false_iff_not] at hc2
  ·refine az (aa (ae (au (ae (ai ?_)))))
   (refine st (aC Y Y ?_) Y ?_;omega)
   refine st (aM Y) Y ?_
   refine aG (T:=37) Y (ltN Y) (fun b => ?_)
   refine aA 0 Y Y Y Y Y (leN Y) Y (Run.nil (aa (ai (st (ab Y) Y (st (ak 0 Y Y Y) Y ?_)))))
   refine st (am (yP (g j) (hg j)) Y ⟨VT.le_refl _,trivial⟩) Y ?_
   refine fS Y Y Y Y ?_
   (refine cS 1 Y Y Y (leN Y) ?_ ?_ Y (ltN Y) (fun sv cap => ?_);omega;omega)
   refine st (ah Y) Y (Run.nil (aD (aa (ai ?_))))
   (refine st (cp Y Y (aP ?_ ?_)) Y ?_;omega;omega)
   refine st (ab Y) Y (Run.nil ?_)
   refine bU (s:=(j,sv1,cap1)) (j+1,sv,cap) (show _ from by simp only;omega) (by show m - (j+1)<m - j;omega) DS (.drop (.keep (be fun q hq => ?_) .nil))
   by_cases h:q<k+j
   ·rw [if_pos h]
   ·have:q=k+j:=by omega
    subst this;rw [if_neg h,if_neg Z]; simp
  ·have hk:j=m:=by omega
   subst hk
   refine aX (av (av (aF (aa (ae (ai (st (ab Y) Y (st (ah Y) Y (Run.nil ?_)))))))))
   refine aa (aE (cq (t:=4) (i:=0) Y Y ?_))
   refine aT Tryz.results83 (.tmp Y H)
end Tor
end
