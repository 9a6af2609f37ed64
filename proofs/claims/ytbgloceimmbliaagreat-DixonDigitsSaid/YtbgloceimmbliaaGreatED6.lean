/-
  Theorems that the proofs of laws of this seat rest on.
  No condition.
-/
import Derived.Test.YtbgloceimmbliaaGreatED5
import Init
set_option maxHeartbeats 20000000
set_option linter.unusedVariables false
set_option linter.unusedSimpArgs false
section
namespace Tor
open Go Go.RowKit Go.Proofs
def dH (n d:Int):VT:=bC 4 [(0, .agg 2,aL n),(2, .agg 2,aL d)]
def cD (q:Rat):VT:=dH q.num q.den
theorem iS {n n' d d':Int} (h:n=n') (h':d=d'):VT.le (bC 4 [(0, .agg 2,aL n),(2, .agg 2,aL d)]) (dH n' d'):=h▸h'▸VT.le_refl _
instance {n d:Int} : Flat (dH n d) (.agg 4):=by unfold dH;infer_instance
instance {q:Rat} : Flat (cD q) (.agg 4):=by unfold cD;infer_instance
theorem qV {n d:Int} (h:0<d):n / ((Nat.gcd n.natAbs d.natAbs:Nat):Int)=(Rat.divInt n d).num∧d / ((Nat.gcd n.natAbs d.natAbs:Nat):Int)=((Rat.divInt n d).den:Int):=by
 have e:Int.gcd d n=Nat.gcd n.natAbs d.natAbs:=Nat.gcd_comm _ _
 rw [Rat.num_divInt,Rat.den_divInt,if_neg X,e,Int.sign_eq_one_of_pos h,Int.one_mul]
 refine ⟨rfl,?_⟩
 rw [Int.natCast_ediv,Int.natAbs_of_nonneg (Int.le_of_lt h)]
theorem vz {n d:Int} (h:d<0):n / -((Nat.gcd n.natAbs d.natAbs:Nat):Int)=(Rat.divInt n d).num∧d / -((Nat.gcd n.natAbs d.natAbs:Nat):Int)=((Rat.divInt n d).den:Int):=by
 have e:Int.gcd d n=Nat.gcd n.natAbs d.natAbs:=Nat.gcd_comm _ _
 have h1:((Nat.gcd n.natAbs d.natAbs:Nat):Int)∣n:=Int.gcd_dvd_left ..
 have h2:((Nat.gcd n.natAbs d.natAbs:Nat):Int)∣d:=Int.gcd_dvd_right ..
 rw [Rat.num_divInt,Rat.den_divInt,if_neg X,e,Int.sign_eq_neg_one_of_neg h,Int.ediv_neg,Int.ediv_neg]
 refine ⟨?_,?_⟩
 ·rw [Int.neg_mul,Int.one_mul,Int.neg_ediv_of_dvd h1]
 ·rw [Int.natCast_ediv, ← Int.neg_ediv_of_dvd h2]; congr 1;omega
theorem wG {n d:Int} (h:d≠0) (hs:bm d):bm ((Nat.gcd n.natAbs d.natAbs:Nat):Int):=by
 have h1:Nat.gcd n.natAbs d.natAbs≤d.natAbs:=Nat.le_of_dvd X (Nat.gcd_dvd_right _ _)
 unfold bm at *
 rw [Int.natAbs_natCast]
 exact Nat.le_trans (cd h1) hs
theorem tZ {n d:Int} (h:d≠0):((Nat.gcd n.natAbs d.natAbs:Nat):Int)≠0:=by
 have:=Nat.gcd_pos_of_pos_right n.natAbs (show 0<d.natAbs by omega)
 omega
theorem sr:VT.le (one (.agg #[.bool false, .slice none 0 0])) (aL 0):=by
 intro v h e
 have e:v = .agg #[.bool false, .slice none 0 0]:=e
 subst e
 exact iM _ _ ⟨_,rfl,rfl,by simp [Value.oneCell'],fun q hq=>by
  rcases List.mem_cons.1 hq with rfl | hq
  ·exact ⟨_,rfl,rfl⟩
  ·rcases List.mem_cons.1 hq with rfl | hq
   ·exact ⟨_,rfl,rfl⟩
   ·cases hq⟩
theorem t4:VT.le (bC 4 (dk #[Value.bool false,Value.slice none 0 0,Value.bool false,Value.slice none 0 0] [(0,Lay.agg 2),(2,Lay.agg 2)])) (bC 4 [(0, .agg 2,aL 0),(2, .agg 2,aL 0)]):=eW (fun q hq=>by
 rcases List.mem_cons.1 hq with rfl | hq
 ·exact ⟨_,List.mem_cons_self,sr⟩
 ·rcases List.mem_cons.1 hq with rfl | hq
  ·exact ⟨_,List.mem_cons_of_mem _ List.mem_cons_self,sr⟩
  ·cases hq)
attribute [local irreducible] J PJ aJ one slT bQ bC bv exT bZ eP aP aI slV VT.le Ret bJ
theorem ss:Ok Tryz.prog 101 [aL 0] (bv [aL 0,one (.int .i64 0)]):=by
 have hsi:=dc 0
 rw [show c6 0=0 from rfl] at hsi
 refine Ok.enter Tryz.func101 Y Tryz.ntmps101 Y (fun w O => ?_)
 refine ae (ai ?_)
 refine aS Y Y (ltN Y) (fun b1 => ?_)
 refine aG (T:=37) Y (ltN Y) (fun b2 => ?_)
 refine En Y (Ep (aa (ae (ae (ai (El (aQ 1 Y Y) ?_))))))
 refine El (am (hsi) Y ⟨H,Er⟩) ?_
 refine Ep (aa (au (ae (ai (El (sF X (cm Y Y)) (En Y (Ep (aa (aB Y ?_)))))))))
 refine ae (ai (El (sT X (cm Y Y)) (En Y (Ep (aa (aH Y (ae (ai (stB Y Y Y ?_)))))))))
 refine BuildK.nil (aA 0 Y Y Y Y Y (leN Y) Y (En Y (Ep (aa (aF (bK (aU ?_)))))))
 refine cT Tryz.results101 (.cellB 0 Y Y Y (iM)) (.tmp Y H)
theorem wH (n d:Int) (hd:d≠0) (hn:bm n) (hds:bm d):Ok Tryz.prog 148 [dH n d] (cD (Rat.divInt n d)):=by
 have hg:=yE n d hn hds
 have hgs:=wG (n:=n) hd hds
 have hg0:=tZ (n:=n) hd
 have hsi:=dc d
 unfold cD dH
 refine Ok.enter Tryz.func148 Y Tryz.ntmps148 Y (fun w O => ?_)
 by_cases h:d<0
 ·obtain ⟨l1,l2⟩:=vz (n:=n) h
  have hs:c6 d = -1:=by unfold c6;rw [if_neg hd,if_pos h]
  rw [hs] at hsi
  refine ae (ai ?_)
  refine aS Y Y (ltN Y) (fun b1 => ?_)
  refine bj (T:=58) Y Y Y (fun b2 => ?_)
  refine Ep (aa (ae (ae (ai (El (aj Y) (El (ak 1 Y Y Y) ?_))))))
  refine El (am (hsi) Y ⟨H,Er⟩) ?_
  refine El (sF X (cm Y Y)) (Ep (aa (aB Y (az (aa (ae (ai (El (aj Y) (El (ak 1 Y Y Y) ?_)))))))))
  refine El (aj Y) (El (ak 1 Y Y Y) ?_)
  refine El (am (hg) Y ⟨H,H,Er⟩) ?_
  refine aG (T:=37) Y (ltN Y) (fun b3 => ?_)
  refine aA 0 Y Y Y Y Y (leN Y) Y (Ep (aa (ae (ae (ai (El (aj Y) (El (ak 2 Y Y Y) ?_)))))))
  refine El (am (hsi) Y ⟨H,Er⟩) ?_
  refine El (sT X (a7 Y Y)) (Ep (aa (aH Y (ai (El (ak 0 Y Y Y) ?_)))))
  refine El (am (vl _ (by assumption)) Y ⟨H,Er⟩) ?_
  refine aA 0 Y Y Y Y Y (leN Y) Y (Ep (aa (ae (ai (El (aj Y) (El (ak 2 Y Y Y) (El (ak 0 Y Y Y) ?_)))))))
  refine El (am (dt _ _ X (by assumption) (ms ‹_›)) Y ⟨H,H,Er⟩) ?_
  refine Em Y (El (ar Y Y) (El (ar Y Y) (El (ar Y Y) ?_)))
  refine aG (T:=37) Y (ltN Y) (fun b4 => ?_)
  refine aG (T:=37) Y (ltN Y) (fun b5 => ?_)
  refine aA 1 Y Y Y Y Y (leN Y) Y (aA 0 Y Y Y Y Y (leN Y) Y (En Y (Ep (aa (ae (ai (El (aj Y) (El (ak 4 Y Y Y) (El (ak 2 Y Y Y) ?_)))))))))
  refine El (am (dt _ _ X (by assumption) (ms ‹_›)) Y ⟨H,H,Er⟩) ?_
  refine Em Y (El (ar Y Y) (El (ar Y Y) (El (ar Y Y) ?_)))
  refine aG (T:=37) Y (ltN Y) (fun b7 => ?_)
  refine aG (T:=37) Y (ltN Y) (fun b8 => ?_)
  refine aA 1 Y Y Y Y Y (leN Y) Y (aA 0 Y Y Y Y Y (leN Y) Y (En Y (Ep (aa (ae (ai (El (ak 3 Y Y Y) (El (ak 1 Y Y Y) (stB Y Y Y ?_)))))))))
  refine BuildK.cons Y Y Y (BuildK.cons Y Y Y (BuildK.nil (aY 5 Y Y Y Y (Ep (aa (aF ?_))))))
  refine aV Tryz.results148 (.cellW 5 Y Y (iS l1 l2))
 ·obtain ⟨l1,l2⟩:=qV (n:=n) (show 0<d by omega)
  have hs:c6 d=1:=by unfold c6;rw [if_neg hd,if_neg h]
  rw [hs] at hsi
  refine ae (ai ?_)
  refine aS Y Y (ltN Y) (fun b1 => ?_)
  refine bj (T:=58) Y Y Y (fun b2 => ?_)
  refine Ep (aa (ae (ae (ai (El (aj Y) (El (ak 1 Y Y Y) ?_))))))
  refine El (am (hsi) Y ⟨H,Er⟩) ?_
  refine El (sF X (cm Y Y)) (Ep (aa (aB Y (az (aa (ae (ai (El (aj Y) (El (ak 1 Y Y Y) ?_)))))))))
  refine El (aj Y) (El (ak 1 Y Y Y) ?_)
  refine El (am (hg) Y ⟨H,H,Er⟩) ?_
  refine aG (T:=37) Y (ltN Y) (fun b3 => ?_)
  refine aA 0 Y Y Y Y Y (leN Y) Y (Ep (aa (ae (ae (ai (El (aj Y) (El (ak 2 Y Y Y) ?_)))))))
  refine El (am (hsi) Y ⟨H,Er⟩) ?_
  refine El (sF X (a7 Y Y)) (Ep (aa (aB Y (az (aa (ae (ai (El (aj Y) (El (ak 2 Y Y Y) ?_)))))))))
  refine El (ak 0 Y Y Y) ?_
  refine El (am (dt _ _ (by assumption) (by assumption) (by assumption)) Y ⟨H,H,Er⟩) ?_
  refine Em Y (El (ar Y Y) (El (ar Y Y) (El (ar Y Y) ?_)))
  refine aG (T:=37) Y (ltN Y) (fun b4 => ?_)
  refine aG (T:=37) Y (ltN Y) (fun b5 => ?_)
  refine aA 1 Y Y Y Y Y (leN Y) Y (aA 0 Y Y Y Y Y (leN Y) Y (En Y (Ep (aa (ae (ai (El (aj Y) (El (ak 4 Y Y Y) (El (ak 2 Y Y Y) ?_)))))))))
  refine El (am (dt _ _ (by assumption) (by assumption) (by assumption)) Y ⟨H,H,Er⟩) ?_
  refine Em Y (El (ar Y Y) (El (ar Y Y) (El (ar Y Y) ?_)))
  refine aG (T:=37) Y (ltN Y) (fun b7 => ?_)
  refine aG (T:=37) Y (ltN Y) (fun b8 => ?_)
  refine aA 1 Y Y Y Y Y (leN Y) Y (aA 0 Y Y Y Y Y (leN Y) Y (En Y (Ep (aa (ae (ai (El (ak 3 Y Y Y) (El (ak 1 Y Y Y) (stB Y Y Y ?_)))))))))
  refine BuildK.cons Y Y Y (BuildK.cons Y Y Y (BuildK.nil (aY 5 Y Y Y Y (Ep (aa (aF ?_))))))
  refine aV Tryz.results148 (.cellW 5 Y Y (iS l1 l2))
theorem CK (n d:Int) (hd:d≠0) (hn:bm n) (hds:bm d):Ok Tryz.prog 103 [aL n,aL d] (bv [cD (Rat.divInt n d),one (.int .i64 0)]):=by
 have hlow:=wH n d hd hn hds
 have hs:c6 d≠0:=by unfold c6;rw [if_neg hd]; split <;> decide
 unfold cD dH at *
 refine Ok.enter Tryz.func103 Y Tryz.ntmps103 Y (fun w O => ?_)
 refine ae (ai ?_)
 refine aS Y Y (ltN Y) (fun b2 => ?_)
 refine aS Y Y (ltN Y) (fun b3 => ?_)
 refine bj (T:=58) Y Y Y (fun b4 => ?_)
 refine En Y (Ep (aa (ae (ae (ai (El (aQ 1 Y Y) ?_))))))
 refine El (am (dc _) Y ⟨H,Er⟩) ?_
 refine El (sF (by assumption) (cm Y Y)) (Ep (aa (aB Y (az (aa (ae (ai (El (aQ 2 Y Y) (El (aQ 1 Y Y) ?_)))))))))
 refine stB Y Y Y (BuildK.cons Y Y Y (BuildK.cons Y Y Y (BuildK.nil ?_)))
 refine El (am (hlow) Y ⟨H,Er⟩) ?_
 refine aY 0 Y Y Y Y (En Y (Ep (aa (aF ?_))))
 refine cT Tryz.results103 (.cellW 0 Y Y H) (.tmp Y H)
theorem A0 (n:Int):Ok Tryz.prog 103 [aL n,aL 0] (bv [dH 0 0,one (.int .i64 3)]):=by
 unfold dH at *
 refine Ok.enter Tryz.func103 Y Tryz.ntmps103 Y (fun w O => ?_)
 have hsi:=dc 0
 rw [show c6 0=0 from rfl] at hsi
 refine ae (ai ?_)
 refine aS Y Y (ltN Y) (fun b2 => ?_)
 refine aS Y Y (ltN Y) (fun b3 => ?_)
 refine bj (T:=58) Y Y Y (fun b4 => ?_)
 refine En Y (Ep (aa (ae (ae (ai (El (aQ 1 Y Y) ?_))))))
 refine El (am (hsi) Y ⟨H,Er⟩) ?_
 refine El (sT X (cm Y Y)) (Ep (aa (aH Y (ae (ai (stB Y Y Y (BuildK.nil (aY 0 Y Y Y Y (En Y ?_)))))))))
 refine Ep (aa (aF (aU ?_)))
 refine cT Tryz.results103 (.cellW 0 Y Y (t4)) (.tmp Y H)
theorem A1 (a b c d:Int) (hc:c≠0) (ha:bm a) (hcs:bm c) (hb:bm b) (hd:bm d) (hq:bm (a / c)) (hm:bm (a / c*d)):Ok Tryz.prog 102 [dH a b,dH c d] (dH (a % c) (b - a / c*d)):=by
 unfold dH at *
 refine Ok.enter Tryz.func102 Y Tryz.ntmps102 Y (fun w O => ?_)
 refine ae (ai ?_)
 refine aS Y Y (ltN Y) (fun b2 => ?_)
 refine aS Y Y (ltN Y) (fun b3 => ?_)
 refine bj (T:=137) Y Y Y (fun b4 => ?_)
 refine Ep (aa (ae (ai (El (aj Y) (El (ak 2 Y Y Y) (El (aj Y) (El (ak 1 Y Y Y) ?_)))))))
 refine El (am (dt _ _ (by assumption) (by assumption) (by assumption)) Y ⟨H,H,Er⟩) ?_
 refine Em Y (El (ar Y Y) (El (ar Y Y) (El (ar Y Y) ?_)))
 refine aG (T:=37) Y (ltN Y) (fun b5 => ?_)
 refine aG (T:=37) Y (ltN Y) (fun b6 => ?_)
 refine aA 1 Y Y Y Y Y (leN Y) Y (aA 0 Y Y Y Y Y (leN Y) Y (En Y (Ep (aa (ae (a8 9 a4 Z S (El (ak 0 Y Y Y) (El (aj Y) (El (ak 4 Y Y Y) ?_)))))))))
 refine El (ak 1 Y Y Y) (El (aj Y) (El (ak 3 Y Y Y) ?_))
 refine El (am (eY _ _ (by assumption) (by assumption)) Y ⟨H,H,Er⟩) ?_
 refine El (am (lN _ _ (by assumption) (by assumption)) Y ⟨H,H,Er⟩) ?_
 refine stB Y Y Y (BuildK.cons Y Y Y (BuildK.cons Y Y Y (BuildK.nil (Ep (aY 2 Y Y Y Y (Ep (aa (aF ?_))))))))
 refine aV Tryz.results102 (.cellW 2 Y Y H)
end Tor
end
section
namespace Tor
open Go Go.RowKit Go.Proofs
section
variable {P:Program} {E:Env} {Γ:Ctx} {M:Mem} {d:Option Tmp} {ty:TypeId} {pos:String} {af:Array Edge} {gd:Option (Nat × Bool)}
theorem CL {T T':TypeId} {x y:Operand} {a b:Nat} (hx:aN Γ x=some (one (.int .u32 (a:Int)))) (hy:aN Γ y=some (one (.int .u32 (b:Int)))) (h:a*b<4294967296) :
  aJ P E Γ M ⟨d, .binOp .mul T x y T',ty,pos,af,gd⟩ (one (.int .u32 ((a*b:Nat):Int))) :=
 mS hx hy (by
  rw [kZ, ← Int.natCast_mul]
  generalize a*b=z at *
  omega)
theorem wI {L:Lay} {k m j:Nat} {c c':Array Value} {x:Value} (h:bS (.agg m) c k=some (.agg c')) (hx:bS L c' j=some x):bS L c (k+j)=some x:=by
 simp only [bS] at h
 split at h
 ·rename_i hk
  cases h
  cases L with
  | one =>
   simp only [bS] at hx ⊢
   rw [ct] at hx
   split at hx
   ·exact hx
   ·cases hx
  | agg n =>
   simp only [bS] at hx ⊢
   have hs:(c.extract k (k+m)).size=m:=by simp;omega
   rw [hs] at hx
   split at hx
   ·rename_i hj
    rw [if_pos X]
    rw [← hx]
    congr 2
    apply Array.ext_getElem?
    intro i
    rw [ct,ct,ct]
    by_cases hi:i<n
    ·rw [if_pos hi,if_pos hi,if_pos X,Nat.add_assoc]
    ·rw [if_neg hi,if_neg hi]
   ·cases hx
 ·cases h
theorem fy {T T':TypeId} {L:Lay} [LayOf P T L] {x:Operand} {b o m m':Nat} {cs cs':cn} {φ:VT} (i k j:Nat) (hx:aN Γ x=some (one (.pointer (some ⟨b,o,none⟩)))) (hM:M[i]? = some (aP b T' m cs))
  (hl:eM cs k=some (.agg m',bC m' cs')) (ho:o=k+j) (hl2:eM cs' j=some (L, φ)):aJ P E Γ M ⟨d, .load T x,ty,pos,af,gd⟩ φ :=
 aJ.ofRun fun a w hb hf=>by
  have h1:a.eval x = .pointer (some ⟨b,o,none⟩):=hf x _ (by simp [Op.operands]) hx
  obtain ⟨c,hc,_,_,hcs⟩:=dX hb hM
  obtain ⟨v,hx',c',rfl,hs',_,hcs'⟩:=hcs _ (dY hl)
  obtain ⟨y,hy,hp⟩:=hcs' _ (dY hl2)
  refine ⟨y,?_,hp⟩
  have h2:=wI hx' hy
  subst ho
  simp only [execOp,h1,Instr.loadAt,Instr.sureAddr,Sem.run_bind,Sem.run_pure,Result.andThen_ok,dg hc h2]
theorem qW {b:Nat} {T:TypeId} {m:Nat} {cs:cn} {φ:VT} (h:VT.le (bC m cs) φ):Own.le (aP b T m cs) (aP b T m [(0, .agg m, φ)]) :=
 ⟨rfl,fun g h' ⟨c,hb,hs,ha,hc⟩=>⟨c,hb,hs,ha,fun q hq=>by
  rw [List.mem_singleton.1 hq]
  exact ⟨.agg c,by subst hs;simp [bS],h _ _ ⟨c,rfl,hs,ha,hc⟩⟩⟩⟩
theorem kK {ops:Array Oper} {i:Nat} {os:List Oper} {K:List Deferred→Ctx→Mem→Prop} {D:List Deferred} {t:Nat} {φ ψ:VT} (ht:bR Γ t=some φ) (hle:VT.le φ ψ) (h:Run P E ops false i D ((t, ψ) :: Γ) M os K):Run P E ops false i D Γ M os K :=
 .conv (fun a w hS=>hS.sub (fun s χ hs=>by
  rw [bx] at hs
  split at hs
  ·rename_i e;subst e;cases hs;exact ⟨φ,ht,hle⟩
  ·exact ⟨χ,hs,H⟩) (SubM.refl _)) h
end
attribute [local irreducible] J PJ aJ one slT bQ bC bv exT bZ eP aP aI slV VT.le Ret bJ
theorem pN (l:List Nat) (d:Nat) (hl:bF l) (h1:l.length≤1099511627776) (hd0:0<d) (hd:d<4294967296):Ok Tryz.prog 122 [co l,one (.int .u32 (d:Nat))] (bv [oY (lv l / d),one (.int .u32 ((lv l % d:Nat):Int))]):=by
 refine Ok.enter Tryz.func122 Y Tryz.ntmps122 Y (fun w O => ?_)
 refine ae (ai (En Y (En Y (Ep (aa (ae (ai (Em Y (El (aW Y) ?_)))))))))
 refine bV l.length l.length Y Y Y Y (Nat.le_refl _) Y Y X Y Y (fun bz => ?_)
 refine En Y (En Y (Ep (aa (ae (ae (ai (Em Y (El (aW Y) (El (eo Y Y (aO X X)) ?_)))))))))
 refine En Y (Ep (aa (au (cp (Γ' := [(0,_),(1,_),(4,_),(5,_),(6,_),(7,_),(8,_)]) Eg (SubM.refl _) ?_))))
 refine bD (σ:=List Nat × Nat × Nat) (Γk := [(0,_),(1,_),(4,_),(5,_),(6,_)]) Eg (fun s => [(8,one (.int .i64 ((s.2.1:Nat) - 1:Int))),(7,one (.int .u64 (s.2.2:Nat)))]) (fun s M0=>(M0.set 0 (aI (some bz) 86 .one l.length l.length (fun q=>one (.int .u32 (s.1.getD q 0:Nat)))))) (fun s=>ShortR l d s) (fun s=>s.2.1) ((List.replicate l.length 0,l.length,0)) (ShortR.start hd0) Eh (.keep (bg (fun q _=>by rw [cx]; rfl)) (.nil)) (fun s hs => ?_)
 refine bU (Γ' := [(8,_),(7,_),(0,_),(1,_),(4,_),(5,_),(6,_)]) (M' := [_]) Y Y ?_
 obtain ⟨z,n,r⟩:=s
 dsimp only at hs ⊢
 refine ae (ae (ai (Em Y (El (fh Y Y) (Ep (aa ?_))))))
 cases n with
 | zero =>
  obtain ⟨f1,f2⟩:=hs.finish
  have hlen:z.length=l.length:=hs.len
  have hr:r<d:=hs.r
  rw [← f1, ← f2]
  refine nl Y X (aX (av (av (aE (aa (ae (ai (Em Y (Em Y ?_)))))))))
  refine El (cH Y) (En Y (En Y (Ep (aa (aF (cq (t:=4) (i:=0) Y Y ?_))))))
  refine cT Tryz.results122 (.tmp Y (VT.le_trans (cB (m:=z.length) (ψ:=fun i=>one (.int .u32 (z.getD i 0:Nat))) hlen.symm (fun q hq=>rfl)) (iq (l:=z) hs.lim Y X))) (.tmp Y (aq (by congr 1;omega)))
 | succ n =>
  have hx:=a9 hl n
  have hr:r<d:=hs.r
  have hb:=ShortR.bound hx hr hd
  have hst:=hs.step hl hd
  have hn:n<l.length:=hs.le
  have hzn:n<z.length:=by have:=hs.len;dsimp only at this;omega
  have en:((n+1:Nat):Int) - 1=(n:Nat):=by omega
  rw [en]
  refine nk Y X (az (aa (ae (au (ae (ai (Em Y (El (fK (b:=4294967296) Y Y X) (Em Y ?_)))))))))
  refine Em Y (El (aC Y Y X) (El (aM Y) (El (bT Y X) (El (dK Y Y X) (En Y (Ep (aa (ae (ai ?_)))))))))
  refine Em Y (Em Y (Em Y (Em Y (El (bT Y X) (El (jx Y Y X X) (El (cH Y) (El (ao Y Y X) ?_)))))))
  (refine aw 0 Y Y Y ?_ Y ?_;omega)
  refine Ep (aa (ai (Em Y (Em Y (El (bT Y X) (El (eK _ Y Y Y X) (En Y (Ep (aD ?_)))))))))
  refine aa (ai (Em Y (El (eo Y Y (aO X X)) (En Y (Ep ?_)))))
  refine aR ((z.set n ((r*4294967296+l.getD n 0) / d),n,(r*4294967296+l.getD n 0) % d)) (hst) (by (simp only []; omega)) Eh (.keep (qP hzn (Nat.mod_eq_of_lt hb.2)) (.nil))
def wJ (r d:Nat):Nat :=
 if (aK r).length=(aK d).length then max 1 ((aK r).getD ((aK r).length - 1) 0 / ((aK d).getD ((aK d).length - 1) 0+1))
 else (((aK r).getD ((aK r).length - 1) 0*4294967296+(aK r).getD ((aK r).length - 2) 0) / ((aK d).getD ((aK d).length - 1) 0+1))*4294967296^((aK r).length - (aK d).length - 1)
theorem ka {v:Nat} {n:Nat} (h:(aK v).length=n+1):v=lv ((aK v).take n)+4294967296^n*(aK v).getD n 0∧lv ((aK v).take n)<4294967296^n:=by
 have h1:=bM (l:=aK v) (k:=n) X
 rw [List.take_of_length_le X,bY] at h1
 exact ⟨h1,by have:=kI (a6 v) n;rwa [← se] at this⟩
theorem yH {r d:Nat} (hd:d≠0) (h:d≤r):0<wJ r d∧wJ r d*d≤r:=by
 have hlen:=cd h
 have hdl:(aK d).length≠0:=fun k=>hd (eR k)
 obtain ⟨m,hm⟩ : ∃ m,(aK d).length=m+1:=⟨(aK d).length - 1,by omega⟩
 obtain ⟨e,he⟩ : ∃ e,(aK r).length=m+1+e:=⟨(aK r).length - (m+1),by omega⟩
 have hdt:=a9 (a6 d) m
 obtain ⟨d1,d2⟩:=ka hm
 unfold wJ
 rw [hm,he]
 simp only [Nat.add_sub_cancel] at *
 generalize hx:(aK d).getD m 0=x at *
 generalize lv ((aK d).take m)=dl at *
 have hdlt:d<4294967296^m*(x+1):=by rw [Nat.mul_add]; omega
 cases e with
 | zero =>
  rw [if_pos Y]
  obtain ⟨r1,r2⟩:=ka he
  simp only [Nat.add_zero,Nat.add_sub_cancel] at *
  generalize (aK r).getD m 0=y at *
  generalize lv ((aK r).take m)=rl at *
  refine ⟨by omega,?_⟩
  rcases Nat.eq_zero_or_pos (y / (x+1)) with hq | hq
  ·rw [hq]; simpa using h
  ·rw [Nat.max_eq_right hq]
   have h1:y / (x+1)*d≤y / (x+1)*(4294967296^m*(x+1)):=Nat.mul_le_mul_left _ (Nat.le_of_lt hdlt)
   have h2:y / (x+1)*(4294967296^m*(x+1))=4294967296^m*(y / (x+1)*(x+1)):=by rw [Nat.mul_left_comm]
   have h3:4294967296^m*(y / (x+1)*(x+1))≤4294967296^m*y:=Nat.mul_le_mul_left _ (Nat.div_mul_le_self _ _)
   omega
 | succ e =>
  rw [if_neg X]
  rw [show m+1+(e+1) - 1=m+e+1 by omega,show m+1+(e+1) - 2=m+e by omega,show m+1+(e+1) - (m+1) - 1=e by omega]
  obtain ⟨r1,r2⟩:=ka (show (aK r).length=(m+e+1)+1 by omega)
  have r3:=bM (l:=aK r) (k:=m+e) X
  have hy0:(aK r).getD (m+e+1) 0≠0:=by
   intro hy
   have:=cF (n:=r) (k:=m+e+1) (by rw [hy,Nat.mul_zero,Nat.add_zero] at r1;rw [r1]; exact r2)
   omega
  generalize (aK r).getD (m+e+1) 0=y at *
  generalize (aK r).getD (m+e) 0=y2 at *
  rw [r3] at r1
  generalize lv ((aK r).take (m+e))=rl at *
  have hqp:0<(y*4294967296+y2) / (x+1):=Nat.div_pos X X
  have hle:=Nat.div_mul_le_self (y*4294967296+y2) (x+1)
  generalize (y*4294967296+y2) / (x+1)=q at *
  refine ⟨Nat.mul_pos hqp (Nat.pow_pos S),?_⟩
  have h1:q*4294967296^e*d≤q*4294967296^e*(4294967296^m*(x+1)):=Nat.mul_le_mul_left _ (Nat.le_of_lt hdlt)
  have h2:q*4294967296^e*(4294967296^m*(x+1))=4294967296^(m+e)*(q*(x+1)):=by
   rw [Nat.pow_add]; ac_rfl
  have h3:4294967296^(m+e)*(q*(x+1))≤4294967296^(m+e)*(y*4294967296+y2):=Nat.mul_le_mul_left _ hle
  have h4:4294967296^(m+e+1)*y=4294967296^(m+e)*(y*4294967296):=by rw [Nat.pow_succ]; ac_rfl
  rw [Nat.mul_add (4294967296^(m+e)) (y*4294967296) y2] at h3
  rw [h4] at r1
  rw [h2] at h1
  generalize 4294967296^(m+e)*(y*4294967296)=z1 at *
  generalize 4294967296^(m+e)*y2=z2 at *
  refine Nat.le_trans h1 (Nat.le_trans h3 ?_)
  rw [r1]
  exact Nat.le_trans (Nat.add_comm z1 z2▸Nat.le_refl _) (Nat.add_le_add_right (Nat.le_add_left _ _) _)
end Tor
end
section
namespace Tor
open Go Go.RowKit Go.Proofs
theorem A3 (a b:Nat):VT.le (slT .one 2 (fun q => [one (.int .u32 (b:Int)),one (.int .u32 (a:Int))].reverse.getD q bJ)) (slT .one 2 (fun q=>one (.int .u32 (([a,b].getD q 0:Nat):Int)))) :=
 cB Y (fun q hq=>by
  match q,hq with
  | 0, _ => rfl
  | 1, _ => rfl)
theorem CM {k q:Nat} (hq:q<18446744073709551616) (hk:k≤1099511627776):VT.le (slT .one (k+2) (fun p=>if p<k then one (.int .u32 0) else (fun j=>one (.int .u32 (([q % 4294967296,q / 4294967296 % 4294967296].getD j 0:Nat):Int))) (p - k))) (oY (q*4294967296^k)) :=
 VT.le_trans (cB (m:=(List.replicate k 0 ++ [q % 4294967296,q / 4294967296 % 4294967296]).length) (ψ:=fQ (List.replicate k 0 ++ [q % 4294967296,q / 4294967296 % 4294967296])) (by simp) (fun p hp=>by
  unfold fQ
  by_cases h:p<k
  ·rw [if_pos h]; simp [List.getD,List.getElem?_append,h]
  ·rw [if_neg h]; simp only [List.getD,List.getElem?_append,List.length_replicate,if_neg h])) (iq (fun d hd=>by
   rcases List.mem_append.1 hd with h | h
   ·rw [(List.mem_replicate.1 h).2]; decide
   ·rcases List.mem_cons.1 h with rfl | h
    ·exact Nat.mod_lt _ S
    ·rw [List.mem_singleton.1 h]; exact Nat.mod_lt _ S) (by
   rw [fM,dT,List.length_replicate,Nat.zero_add,Nat.mul_comm]
   congr 1
   simp only [lv]
   omega) (by simp;omega))
attribute [local irreducible] J PJ aJ one slT bQ bC bv exT bZ eP aP aI slV VT.le Ret bJ
theorem su (r d:Nat) (hd:d≠0) (h:d≤r) (hl:(aK r).length≤1099511627776):Ok Tryz.prog 123 [co (aK r),co (aK d)] (aL ((wJ r d:Nat):Int)):=by
 have hlen:=cd h
 have hdl:(aK d).length≠0:=fun k=>hd (eR k)
 have hx:=a9 (a6 d) ((aK d).length - 1)
 have hy:=a9 (a6 r) ((aK r).length - 1)
 have hz:=a9 (a6 r) ((aK r).length - 2)
 unfold wJ
 refine Ok.enter Tryz.func123 Y Tryz.ntmps123 Y (fun w O => ?_)
 by_cases hk:(aK r).length=(aK d).length
 ·rw [if_pos hk]
  refine ae (ai ?_)
  refine aG (T:=37) Y (ltN Y) (fun b4 => ?_)
  refine Ep (aa (ae (a8 17 a4 Z S (Em Y (El (aW Y) (Em Y (El (aW Y) (El (cg _ _ Y Y X X) (Em Y ?_)))))))))
  refine El (aW Y) (Em Y (Em Y (El (aW Y) (El (cg _ 1 Y Y X X) (El (aC Y Y X) (El (aM Y) (El (bT Y X) (El (dK (b:=1) Y Y X) (En Y ?_)))))))))
  refine En Y (Ep (En Y (Ep (aa (ae (ae (ai (Em Y (El (sT X (cm Y Y)) ?_)))))))))
  refine Ep (aa (aH Y (ae (ai (Em Y (Em Y (El (cg _ 1 Y Y X X) (El (aC Y Y X) (El (aM Y) ?_)))))))))
  refine El (bT Y X) (Em Y (El (jx Y Y X X) (El (ph Y Y) ?_)))
  have hq:=Nat.div_le_self ((aK r).getD ((aK r).length - 1) 0) ((aK d).getD ((aK d).length - 1) 0+1)
  generalize (aK r).getD ((aK r).length - 1) 0 / ((aK d).getD ((aK d).length - 1) 0+1)=q at *
  refine El (dG Y X X) ?_
  refine El (am (gZ _ X X) Y ⟨H,Er⟩) ?_
  refine aA 0 Y Y Y Y Y (leN Y) Y (Ep (aa (aF (aU ?_))))
  refine aV Tryz.results123 (.cellB 0 Y Y Y (cf X))
 ·rw [if_neg hk]
  refine ae (ai ?_)
  refine aG (T:=37) Y (ltN Y) (fun b4 => ?_)
  refine Ep (aa (ae (a8 17 a4 Z S (Em Y (El (aW Y) (Em Y (El (aW Y) (El (cg _ _ Y Y X X) (Em Y ?_)))))))))
  refine El (aW Y) (Em Y (Em Y (El (aW Y) (El (cg _ 1 Y Y X X) (El (aC Y Y X) (El (aM Y) (El (bT Y X) (El (dK (b:=1) Y Y X) (En Y ?_)))))))))
  refine En Y (Ep (En Y (Ep (aa (ae (ae (ai (Em Y (El (sF X (cm Y Y)) ?_)))))))))
  refine Ep (aa (aB Y (az (aa (ae (a8 16 a4 Z S (Em Y (Em Y (El (cg _ 1 Y Y X X) ?_)))))))))
  refine El (aC Y Y X) (El (aM Y) (El (bT Y X) (El (fK (b:=4294967296) Y Y X) (Em Y (Em Y (El (cg _ 2 Y Y X X) (El (aC Y Y X) (El (aM Y) (El (bT Y X) ?_)))))))))
  refine El (dK Y Y X) (Em Y (El (jx Y Y X X) (Ep (En Y (Ep (aa (ae (ai (Em Y ?_)))))))))
  refine El (cg _ 1 Y Y X X) ?_
  have hq:=Nat.div_le_self ((aK r).getD ((aK r).length - 1) 0*4294967296+(aK r).getD ((aK r).length - 2) 0) ((aK d).getD ((aK d).length - 1) 0+1)
  generalize ((aK r).getD ((aK r).length - 1) 0*4294967296+(aK r).getD ((aK r).length - 2) 0) / ((aK d).getD ((aK d).length - 1) 0+1)=q at *
  obtain ⟨k,hkk⟩ : ∃ k,k=(aK r).length - (aK d).length - 1:=⟨_,rfl⟩
  rw [← hkk]
  refine bV k k Y Y Y Y (Nat.le_refl _) Y Y X Y Y (fun bz => ?_)
  refine En Y (Ep (aa (ae (ai (Em Y (Em Y (El (cH Y) (Em Y (El (gv Y) ?_)))))))))
  refine El (cH Y) (stS Y Y Y Y (PartsK.cons Y (PartsK.cons Y (PartsK.nil (kK (t:=63) Y (A3 _ _) ?_)))))
  (refine cW 0 Y Y Y (leN Y) ?_ ?_ Y (ltN Y) (fun sv64 cap64 => ?_);omega;omega)
  refine gK (t:=64) (j:=0) Y Y ?_
  have hq64:q<18446744073709551616:=by omega
  have hmd:=dm false (q*4294967296^k)
  rw [if_neg S] at hmd
  refine El (am (hmd) Y ⟨(CM hq64 X),H,Er⟩) ?_
  refine aA 0 Y Y Y Y Y (leN Y) Y (Ep (aa (aF ?_)))
  refine aV Tryz.results123 (.cellB 0 Y Y Y (cf (by rw [hkk])))
theorem sx {d:Nat} (hd:d<4294967296):VT.le (slT .one 1 fun _=>one (.int .u32 (d:Int))) (oY d) :=
 VT.le_trans (cB (m := [d].length) (ψ:=fQ [d]) Y (fun q hq=>by
  have hq:q=0:=by omega
  subst hq;rfl)) (iq (fun x hx=>by rw [List.mem_singleton.1 hx]; exact hd) (by simp [lv]) (by simp))
theorem yI {b:Nat} (hb:b≠0):0<(aK b).getD ((aK b).length - 1) 0:=by
 have hdl:(aK b).length≠0:=fun k=>hb (eR k)
 obtain ⟨m,hm⟩ : ∃ m,(aK b).length=m+1:=⟨(aK b).length - 1,by omega⟩
 obtain ⟨d1,d2⟩:=ka hm
 rw [hm,Nat.add_sub_cancel]
 rcases Nat.eq_zero_or_pos ((aK b).getD m 0) with h | h
 ·rw [h,Nat.mul_zero,Nat.add_zero] at d1
  have:=cF (n:=b) (k:=m) (by rw [d1]; exact d2)
  omega
 ·exact h
theorem oo {a s:Nat} (hs:s<4294967296):(aK (a*s)).length≤(aK a).length+1:=cF (by
 rw [Nat.pow_succ]
 have h1:=cY a
 rcases Nat.eq_zero_or_pos s with h | h
 ·subst h;rw [Nat.mul_zero]; exact Nat.mul_pos (Nat.pow_pos S) S
 ·exact Nat.mul_lt_mul'' h1 hs)
theorem CN {a b s q r:Nat} (hs:0<s) (hb:0<b) (h:q*(b*s)+r=a*s) (hr:r<b*s):q=a / b∧r / s=a % b:=by
 have h1:(a*s) / (b*s)=q:=by rw [← h,Nat.mul_comm q,Nat.mul_add_div X,Nat.div_eq_of_lt hr,Nat.add_zero]
 have h2:(a*s) % (b*s)=r:=by rw [← h,Nat.mul_comm q,Nat.mul_add_mod,Nat.mod_eq_of_lt hr]
 rw [Nat.mul_div_mul_right _ _ hs] at h1
 rw [Nat.mul_mod_mul_right] at h2
 exact ⟨h1.symm,by rw [← h2,Nat.mul_div_cancel _ hs]⟩
theorem t5 (a b:Nat) (hb:b≠0) (ha:(aK a).length≤1099511627700) (hbl:(aK b).length≤1099511627700):Ok Tryz.prog 73 [co (aK a),co (aK b)] (bv [aL ((a / b:Nat):Int),aL ((a % b:Nat):Int)]):=by
 have hbp:0<b:=by omega
 have hdl:(aK b).length≠0:=fun k=>hb (eR k)
 refine Ok.enter Tryz.func73 Y Tryz.ntmps73 Y (fun w O => ?_)
 by_cases h1:(aK b).length=1
 ·have hb1:=si h1
  have hd:=a9 (a6 b) 0
  have hsh:=pN (aK a) b (a6 a) X X X
  rw [bY] at hsh
  have hr:=Nat.mod_lt a hbp
  have hm1:=dm false (a / b)
  have hm2:=dm false (a % b)
  rw [if_neg S] at hm1 hm2
  refine ae (ai ?_)
  refine aG (T:=37) Y (ltN Y) (fun b4 => ?_)
  refine aG (T:=37) Y (ltN Y) (fun b5 => ?_)
  refine Ep (aa (ae (ae (ai (Em Y (El (aW Y) (El (sT X (cm Y Y)) (Ep (aa ?_)))))))))
  refine aH Y (ae (ai (Em Y (Em Y (El (f9 Y Y X X) (El (aM Y) ?_))))))
  refine El (am (hsh) Y ⟨H,(aq (by rw [show (aK b).getD (Int.toNat 0) 0=b from hb1])),Er⟩) ?_
  refine Em Y (El (ar Y Y) (El (ar Y Y) (En Y (En Y (Ep (aa (ae (ai (Em Y ?_)))))))))
  refine El (am (hm1) Y ⟨H,H,Er⟩) ?_
  refine Em Y (gm Y Y Y Y ?_)
  refine El (am (hm2) Y ⟨(sx X),H,Er⟩) ?_
  refine aA 1 Y Y Y Y Y (leN Y) Y (aA 0 Y Y Y Y Y (leN Y) Y (Ep (aa (aF (aU ?_)))))
  refine cT Tryz.results73 (.cellB 1 Y Y Y H) (.cellB 0 Y Y Y H)
 ·have hx:=a9 (a6 b) ((aK b).length - 1)
  have hx0:=yI hb
  refine ae (ai ?_)
  refine aG (T:=37) Y (ltN Y) (fun b4 => ?_)
  refine aG (T:=37) Y (ltN Y) (fun b5 => ?_)
  refine Ep (aa (ae (ae (ai (Em Y (El (aW Y) (El (sF X (cm Y Y)) (Ep (aa ?_)))))))))
  refine aB Y (az (aa (ae (ai (En Y (Ep (aa (ae (au ?_)))))))))
  refine cp (Γ' := [(0,_),(1,_),(4,_),(5,_),(8,_)]) Eg (SubM.refl _) ?_
  refine bD (σ:=Nat) (Γk := [(0,_),(1,_),(4,_),(5,_)]) Eg (fun s => [(8,one (.int .u32 (s:Nat)))]) (fun s M0=>M0) (fun s=>0<s∧s<4294967296) (fun s=>4294967296 - s) (1) (⟨by decide,by decide⟩) Eh (.keep Ek (.keep Ek (.nil))) (fun s hs => ?_)
  refine bU (Γ' := [(8,_),(0,_),(1,_),(4,_),(5,_)]) (M' := [_,_]) Y Y ?_
  obtain ⟨s0,s1⟩:=hs
  have hb1:=Nat.mul_le_mul (show (aK b).getD ((aK b).length - 1) 0≤4294967295 by omega) (show s≤4294967295 by omega)
  have hb2:=Nat.mul_le_mul_right s hx0
  by_cases hc:(aK b).getD ((aK b).length - 1) 0*s<2147483648
  ·refine ae (ae (ai (Em Y (Em Y (El (aW Y) (El (cg _ 1 Y Y X X) (El (aC Y Y X) (El (aM Y) (El (bT Y X) ?_)))))))))
   refine Em Y (El (bT Y X) (El (fK Y Y X) (El (sT X (a7 Y Y)) (Ep (aa (aH Y (az (aa (au ?_)))))))))
   refine ai (Em Y (El (CL (a:=2) Y Y X) (En Y (Ep (aD ?_)))))
   refine aR (2*s) (⟨by omega,by omega⟩) X Eh (.keep Ek (.keep Ek (.nil)))
  ·have hma:=dm false a
   have hmb:=dm false b
   have hms:=dm false s
   rw [if_neg S] at hma hmb hms
   have la:=oo (a:=a) s1
   have lb:=oo (a:=b) s1
   have ls:bm ((s:Nat):Int):=dU (by rw [Int.natAbs_natCast]; exact Nat.lt_trans s1 U)
   have hMa:=d6 (a:Int) (s:Int) (show (aK a).length≤_ by omega) ls
   have hMb:=d6 (b:Int) (s:Int) (show (aK b).length≤_ by omega) ls
   rw [← Int.natCast_mul] at hMa hMb
   refine ae (ae (ai (Em Y (Em Y (El (aW Y) (El (cg _ 1 Y Y X X) (El (aC Y Y X) (El (aM Y) (El (bT Y X) ?_)))))))))
   refine Em Y (El (bT Y X) (El (fK Y Y X) (El (sF X (a7 Y Y)) (Ep (aa (aB Y (aX (av (av ?_)))))))))
   refine aE (aa (ae (ai (Em Y (gm Y Y Y Y ?_)))))
   refine El (am (hms) Y ⟨(sx s1),H,Er⟩) ?_
   refine aG (T:=37) Y (ltN Y) (fun b9 => ?_)
   refine aA 0 Y Y Y Y Y (leN Y) Y (Ep (aa (ae ?_)))
   refine ep a4 Z Z ?_
   refine ux (fun B=>ab Y) Y Y ?_
   refine uxk (hma) Y ⟨(cM X),H,Er⟩ Y ?_
   refine ux (fun B=>ak 0 Y Y Y) Y Y ?_
   refine uxk (hMa) Y ⟨H,H,Er⟩ Y ?_
   refine ux (fun B=>ab Y) Y Y ?_
   refine uxk (hmb) Y ⟨(cM X),H,Er⟩ Y ?_
   refine ux (fun B=>ak 0 Y Y Y) Y Y ?_
   refine uxk (hMb) Y ⟨H,H,Er⟩ Y ?_
   refine uB Y Y Y (BuildK.nil (ua Y (ua Y (ua Y (us Y (us Y (us Y ?_)))))))
   refine RunU.nil (fun γ => ?_)
   refine cK (M' := [_,_,_,_,_,_]) Y (gI (dJ.refl _) (.keep iJ (.keep Ek (.keep Ek (SubM.refl _)))) (aa (ae (au ?_))))
   have hbs:0<b*s:=Nat.mul_pos hbp s0
   refine cp (Γ' := [(4,_),(5,_),(8,_),(10,_),(11,_),(12,_)]) Eg (SubM.refl _) ?_
   refine bD (σ:=Nat × Nat) (Γk := [(4,_),(5,_),(8,_),(10,_),(11,_),(12,_)]) Eg (fun p => []) (fun p M0=>((M0.set 0 (aP (γ 12) 37 (Lay.agg 2).sz [(0,Lay.agg 2,aL (p.1:Int))])).set 2 (aP (γ 10) 37 (Lay.agg 2).sz [(0,Lay.agg 2,aL (p.2:Int))]))) (fun p=>p.1*(b*s)+p.2=a*s) (fun p=>p.2) ((0,a*s)) ((by simp)) Eh (.keep (qW iM) (.keep Ek (.keep Ek (.keep Ek (.keep Ek (.keep Ek (.nil))))))) (fun p hp => ?_)
   refine bU (Γ' := [(4,_),(5,_),(8,_),(10,_),(11,_),(12,_)]) (M' := [_,_,_,_,_,_]) Y Y ?_
   obtain ⟨q,r⟩:=p
   dsimp only at hp ⊢
   have hle:=lL r (b*s)
   by_cases hr:r<b*s
   ·obtain ⟨f1,f2⟩:=CN s0 hbp hp hr
    have lr:(aK r).length≤1099511627776:=by
     have:=cd (show r≤a*s by omega)
     omega
    have hsh:=pN (aK r) s (a6 r) lr s0 s1
    rw [bY,f2] at hsh
    have hm2:=dm false (a % b)
    rw [if_neg S] at hm2
    refine ae (ae (ai (El (aj Y) (El (fy 2 0 1 Y Y Y Y Y) (El (aj Y) (El (fy 1 0 1 Y Y Y Y Y) ?_))))))
    refine El (sT (by assumption) (am (hle) Y ⟨H,H,Er⟩)) ?_
    refine El (cR Y) (Ep (aa (aB Y (aX (av (av (aE (aa (ae ?_)))))))))
    refine ai (El (aj Y) (El (fy 2 0 1 Y Y Y Y Y) (Em Y ?_)))
    refine El (am (hsh) Y ⟨H,H,Er⟩) ?_
    refine Em Y (El (ar Y Y) (El (ar Y Y) (En Y (En Y (Ep (aa (ae (fm 3 a4 Z S (El (ak 0 Y Y Y) ?_)))))))))
    refine Em Y ?_
    refine El (am (hm2) Y ⟨H,H,Er⟩) ?_
    refine Ep (aA 5 Y Y Y Y Y (leN Y) Y (aA 4 Y Y Y Y Y (leN Y) Y (Ep (aa (aF ?_)))))
    refine cT Tryz.results73 (.cellB 5 Y Y Y (cf (by rw [f1]))) (.cellB 4 Y Y Y H)
   ·have lr:(aK r).length≤1099511627776:=by
     have:=cd (show r≤a*s by omega)
     omega
    obtain ⟨e0,e1⟩:=yH (show b*s≠0 by omega) (Nat.le_of_not_lt hr)
    have hes:=su r (b*s) X (Nat.le_of_not_lt hr) lr
    generalize wJ r (b*s)=e at *
    have hq0:q≤q*(b*s):=Nat.le_mul_of_pos_right _ hbs
    have he0:e≤e*(b*s):=Nat.le_mul_of_pos_right _ hbs
    have le0:bm (e:Int):=Nat.le_trans (cd (show (e:Int).natAbs≤r by omega)) lr
    have lq0:bm (q:Int):=Nat.le_trans (cd (show (q:Int).natAbs≤a*s by omega)) X
    have lbs:bm ((b*s:Nat):Int):=Nat.le_trans (cd (show ((b*s:Nat):Int).natAbs≤b*s by omega)) X
    have lrs:bm (r:Int):=Nat.le_trans (cd (show (r:Int).natAbs≤r by omega)) lr
    have les:bm ((e*(b*s):Nat):Int):=Nat.le_trans (cd (show ((e*(b*s):Nat):Int).natAbs≤r by omega)) lr
    have hmu:=d6 (e:Int) ((b*s:Nat):Int) le0 lbs
    rw [← Int.natCast_mul] at hmu
    have hsu:=lO (r:Int) ((e*(b*s):Nat):Int) lrs les
    rw [← Int.ofNat_sub e1] at hsu
    have had:=iN (q:Int) (e:Int) lq0 le0
    rw [← Int.natCast_add] at had
    refine ae (ae (ai (El (aj Y) (El (fy 2 0 1 Y Y Y Y Y) (El (aj Y) (El (fy 1 0 1 Y Y Y Y Y) ?_))))))
    refine El (sF (by assumption) (am (hle) Y ⟨H,H,Er⟩)) ?_
    refine El (cR Y) (Ep (aa (aH Y (az (aa (au (ae (ai (El (aj Y) ?_)))))))))
    refine El (fy 2 0 1 Y Y Y Y Y) (El (aj Y) (El (fy 1 0 1 Y Y Y Y Y) ?_))
    refine El (am (hes) Y ⟨H,H,Er⟩) ?_
    refine aG (T:=37) Y (ltN Y) (fun b13 => ?_)
    refine aA 0 Y Y Y Y Y (leN Y) Y (Ep (aa (ae (ai (El (ak 1 Y Y Y) (El (ak 0 Y Y Y) ?_))))))
    refine El (am (had) Y ⟨H,H,Er⟩) ?_
    refine aA 1 Y Y Y Y Y (leN Y) Y (Ep (aa (a8 5 a4 Z S (El (ak 3 Y Y Y) (El (ak 0 Y Y Y) (El (ak 2 Y Y Y) ?_))))))
    refine El (am (hmu) Y ⟨H,H,Er⟩) ?_
    refine El (am (hsu) Y ⟨H,H,Er⟩) ?_
    refine Ep (aA 3 Y Y Y Y Y (leN Y) Y (Ep (aD ?_)))
    refine aR ((q+e,r - e*(b*s))) ((by dsimp only;rw [Nat.add_mul]; omega)) X Eh (.drop (.keep Ek (.keep Ek (.keep Ek (.keep Ek (.keep Ek (.keep Ek (.nil))))))))
end Tor
end
section
namespace Tor
open Go Go.RowKit Go.Proofs
def dw (x:Int):Prop:=(aK x.natAbs).length≤1099511627700
theorem kb {x:Int} (h:x.natAbs<2^2048):dw x:=by
 have:(aK x.natAbs).length≤64:=cF (Nat.lt_of_lt_of_le h U)
 unfold dw;omega
theorem dw.small {x:Int} (h:dw x):bm x:=by unfold dw at h;unfold Tor.bm;omega
theorem i9 {x y:Int} (h:dw y) (hl:x.natAbs≤y.natAbs):dw x:=Nat.le_trans (cd hl) h
theorem cO {x y:Int} (h:bm y) (hl:x.natAbs≤y.natAbs):bm x:=Nat.le_trans (cd hl) h
theorem o4 (n:Nat):(aK (n+1)).length≤(aK n).length+1:=cF (by
 have h:=cY n
 rw [Nat.pow_succ]
 have h0:0<4294967296^(aK n).length:=Nat.pow_pos S
 generalize 4294967296^(aK n).length=z at *
 omega)
theorem yJ (x y:Int):Nat.gcd y.natAbs (x % y).natAbs=Nat.gcd x.natAbs y.natAbs:=by
 have h:Int.gcd y (x % y)=Int.gcd y x:=by rw [Int.emod_def]; exact Int.gcd_sub_mul_left_right y x (x / y)
 rw [Nat.gcd_comm x.natAbs]; exact h
theorem sy (x:Int) {y:Int} (hy:y≠0):(x % y).natAbs<y.natAbs:=by
 have h1:=Int.emod_nonneg x hy
 have h2:=Int.emod_lt x hy
 omega
attribute [local irreducible] J PJ aJ one slT bQ bC bv exT bZ eP aP aI slV VT.le Ret bJ
theorem pO (x:Int):Ok Tryz.prog 48 [oY x.natAbs,one (.bool (decide (x<0)))] (aL x):=by
 have h:=dm (decide (x<0)) x.natAbs
 have e:(if decide (x<0)=true then -(x.natAbs:Int) else (x.natAbs:Int))=x:=by
  by_cases hx:x<0
  ·rw [if_pos (by simpa using hx)]; omega
  ·rw [if_neg (by simpa using hx)]; omega
 rw [e] at h
 exact h
set_option maxRecDepth 20000 in
theorem fR (a b:Int) (hb:b≠0) (ha:dw a) (hbs:dw b):Ok Tryz.prog 36 [aL a,aL b] (bv [aL (a / b),aL (a % b),one (.int .i64 0)]):=by
 obtain ⟨g1,g2,g3⟩:=vr (a:=a) hb
 have hB:b.natAbs≠0:=by omega
 have ha':(aK a.natAbs).length≤1099511627700:=ha
 have hb':(aK b.natAbs).length≤1099511627700:=hbs
 have hdiv:=t5 a.natAbs b.natAbs hB ha' hb'
 have hlt:=Nat.mod_lt a.natAbs (Nat.pos_of_ne_zero hB)
 have hql:=Nat.div_le_self a.natAbs b.natAbs
 have hma:=pO a
 have hmb:=pO b
 have hsb:c6 b≠0:=by unfold c6;rw [if_neg hb]; split <;> decide
 have hmb2:=dm false b.natAbs
 rw [if_neg S] at hmb2
 have hsg:=dq ((a.natAbs % b.natAbs:Nat):Int)
 have hof:=gZ 1 S S
 have sq:bm ((a.natAbs / b.natAbs:Nat):Int):=cO ha.small (by rw [Int.natAbs_natCast]; exact hql)
 have s1:bm 1:=dU U
 have had:=iN ((a.natAbs / b.natAbs:Nat):Int) 1 sq s1
 have hsu:=lO (b.natAbs:Int) ((a.natAbs % b.natAbs:Nat):Int) (cO hbs.small X) (cO hbs.small (by rw [Int.natAbs_natCast]; exact Nat.le_of_lt hlt))
 have hsu2:=lO b ((a.natAbs % b.natAbs:Nat):Int) hbs.small (cO hbs.small (by rw [Int.natAbs_natCast]; exact Nat.le_of_lt hlt))
 have hn1:=iP ((a.natAbs / b.natAbs:Nat):Int) sq
 have sq1:bm (((a.natAbs / b.natAbs:Nat):Int)+1):=by
  have h1:=o4 (a.natAbs / b.natAbs)
  have h2:=cd hql
  have e:(((a.natAbs / b.natAbs:Nat):Int)+1).natAbs=a.natAbs / b.natAbs+1:=by generalize a.natAbs / b.natAbs=z;omega
  unfold Tor.bm
  rw [e]
  omega
 have hn2:=iP (((a.natAbs / b.natAbs:Nat):Int)+1) sq1
 refine Ok.enter Tryz.func36 Y Tryz.ntmps36 Y (fun w O => ?_)
 by_cases hn:a<0
 ·by_cases hr:a.natAbs % b.natAbs=0
  ·obtain ⟨k1,k2⟩:=g2 hn hr
   have hs0:c6 ((a.natAbs % b.natAbs:Nat):Int)=0:=by rw [hr]; rfl
   by_cases hm:b<0
   ·rw [if_pos hm] at k1
    refine ae (ai ?_)
    refine aS Y Y (ltN Y) (fun b2 => ?_)
    refine aS Y Y (ltN Y) (fun b3 => ?_)
    refine aG (T:=37) Y (ltN Y) (fun b4 => ?_)
    refine aG (T:=37) Y (ltN Y) (fun b5 => ?_)
    refine En Y (Ep (aa (ae (fm 9 a4 Z S (El (aj Y) (El (ak 3 Y Y Y) (El (aj Y) (El (sT (by assumption) (ak 3 Y Y Y)) ?_))))))))
    refine El (am (hma) Y ⟨(cM X),(aq (by rw [decide_eq_true hn])),Er⟩) ?_
    refine El (aj Y) (El (ak 2 Y Y Y) (El (aj Y) (El (sT (by assumption) (ak 2 Y Y Y)) (Ep ?_))))
    refine El (am (hmb) Y ⟨(cM X),(aq (by rw [decide_eq_true hm])),Er⟩) ?_
    refine aY 3 Y Y Y Y (aY 2 Y Y Y Y (Ep (aa (ae (ae (ai (El (aQ 2 Y Y) ?_)))))))
    refine El (am (dq _) Y ⟨H,Er⟩) ?_
    refine El (sF (by assumption) (cm Y Y)) (Ep (aa (aB Y (az (aa (ae (ai (El (aj Y) (El (ak 3 Y Y Y) ?_)))))))))
    refine El (aj Y) (El (ak 2 Y Y Y) ?_)
    refine El (am (hdiv) Y ⟨H,H,Er⟩) ?_
    refine Em Y (El (ar Y Y) (El (ar Y Y) ?_))
    refine aG (T:=37) Y (ltN Y) (fun b7 => ?_)
    refine aG (T:=37) Y (ltN Y) (fun b8 => ?_)
    refine aA 1 Y Y Y Y Y (leN Y) Y (aA 0 Y Y Y Y Y (leN Y) Y (Ep (aa (ae (ae (ai (El (aj Y) (El (sT (by assumption) (ak 5 Y Y Y)) (Em Y ?_)))))))))
    refine Eo (ak 0 Y Y Y) ?_
    refine Eo (am (hsg) Y ⟨H,Er⟩) ?_
    refine Eo (sF X (db Y Y)) (El (bp Y Y) (Ep (aa (aB Y (az (aa (ae (ae (ai ?_)))))))))
    refine El (aj Y) (El (sT (by assumption) (ak 5 Y Y Y)) (El (aj Y) (El (sT (by assumption) (ak 4 Y Y Y)) (El (jq Y Y) (Ep (aa (aB Y (az (aa ?_)))))))))
    refine ae ?_
    refine jW [⟨5,b5,37,Lay.agg 2⟩,⟨4,b4,37,Lay.agg 2⟩] [_,_] [_,_,_,_] a4 Z Y ((cX 2 Y).trans (.cons _ ((cX 2 Y).trans (.cons _ (List.Perm.refl _))))) Y (And.intro Y (And.intro Y (trivial))) ?_
    refine ux (fun B=>ak 1 Y Y Y) Y Y ?_
    refine ux (fun B=>ak 0 Y Y Y) Y Y ?_
    refine us Y (us Y ?_)
    refine ux (fun B=>ah Y) Y Y ?_
    refine RunU.nil ⟨And.intro Y (And.intro Y (And.intro Y (And.intro Y (trivial)))),?_⟩
    refine cK (M' := [_,_,_,_,_,_]) Y (aa (aF ?_))
    refine jk Tryz.results36 (.cellB 1 Y Y Y (cf (by rw [k1]))) (.cellB 0 Y Y Y (cf (by rw [k2,hr]; rfl))) (.tmp Y H)
   ·rw [if_neg hm] at k1
    refine ae (ai ?_)
    refine aS Y Y (ltN Y) (fun b2 => ?_)
    refine aS Y Y (ltN Y) (fun b3 => ?_)
    refine aG (T:=37) Y (ltN Y) (fun b4 => ?_)
    refine aG (T:=37) Y (ltN Y) (fun b5 => ?_)
    refine En Y (Ep (aa (ae (fm 9 a4 Z S (El (aj Y) (El (ak 3 Y Y Y) (El (aj Y) (El (sT (by assumption) (ak 3 Y Y Y)) ?_))))))))
    refine El (am (hma) Y ⟨(cM X),(aq (by rw [decide_eq_true hn])),Er⟩) ?_
    refine El (aj Y) (El (ak 2 Y Y Y) (El (aj Y) (El (sF (by assumption) (ak 2 Y Y Y)) (Ep ?_))))
    refine El (am (hmb) Y ⟨(cM X),(aq (by rw [decide_eq_false hm])),Er⟩) ?_
    refine aY 3 Y Y Y Y (aY 2 Y Y Y Y (Ep (aa (ae (ae (ai (El (aQ 2 Y Y) ?_)))))))
    refine El (am (dq _) Y ⟨H,Er⟩) ?_
    refine El (sF (by assumption) (cm Y Y)) (Ep (aa (aB Y (az (aa (ae (ai (El (aj Y) (El (ak 3 Y Y Y) ?_)))))))))
    refine El (aj Y) (El (ak 2 Y Y Y) ?_)
    refine El (am (hdiv) Y ⟨H,H,Er⟩) ?_
    refine Em Y (El (ar Y Y) (El (ar Y Y) ?_))
    refine aG (T:=37) Y (ltN Y) (fun b7 => ?_)
    refine aG (T:=37) Y (ltN Y) (fun b8 => ?_)
    refine aA 1 Y Y Y Y Y (leN Y) Y (aA 0 Y Y Y Y Y (leN Y) Y (Ep (aa (ae (ae (ai (El (aj Y) (El (sT (by assumption) (ak 5 Y Y Y)) (Em Y ?_)))))))))
    refine Eo (ak 0 Y Y Y) ?_
    refine Eo (am (hsg) Y ⟨H,Er⟩) ?_
    refine Eo (sF X (db Y Y)) (El (bp Y Y) (Ep (aa (aB Y (az (aa (ae (ae (ai ?_)))))))))
    refine El (aj Y) (El (sT (by assumption) (ak 5 Y Y Y)) (El (aj Y) (El (sF (by assumption) (ak 4 Y Y Y)) (El (jq Y Y) (Ep (aa (aH Y (ai (El (ak 1 Y Y Y) ?_)))))))))
    refine El (am (hn1) Y ⟨H,Er⟩) ?_
    refine aA 1 Y Y Y Y Y (leN Y) Y (Ep (aa (ae ?_)))
    refine jW [⟨5,b5,37,Lay.agg 2⟩,⟨4,b4,37,Lay.agg 2⟩] [_,_] [_,_,_,_] a4 Z Y ((cX 2 Y).trans (.cons _ ((cX 2 Y).trans (.cons _ (List.Perm.refl _))))) Y (And.intro Y (And.intro Y (trivial))) ?_
    refine ux (fun B=>ak 1 Y Y Y) Y Y ?_
    refine ux (fun B=>ak 0 Y Y Y) Y Y ?_
    refine us Y (us Y ?_)
    refine ux (fun B=>ah Y) Y Y ?_
    refine RunU.nil ⟨And.intro Y (And.intro Y (And.intro Y (And.intro Y (trivial)))),?_⟩
    refine cK (M' := [_,_,_,_,_,_]) Y (aa (aF ?_))
    refine jk Tryz.results36 (.cellB 1 Y Y Y (cf (by rw [k1]))) (.cellB 0 Y Y Y (cf (by rw [k2,hr]; rfl))) (.tmp Y H)
  ·obtain ⟨k1,k2⟩:=g3 hn hr
   have hs0:c6 ((a.natAbs % b.natAbs:Nat):Int)=1:=by unfold c6;rw [if_neg X,if_neg X]
   by_cases hm:b<0
   ·rw [if_pos hm] at k1
    refine ae (ai ?_)
    refine aS Y Y (ltN Y) (fun b2 => ?_)
    refine aS Y Y (ltN Y) (fun b3 => ?_)
    refine aG (T:=37) Y (ltN Y) (fun b4 => ?_)
    refine aG (T:=37) Y (ltN Y) (fun b5 => ?_)
    refine En Y (Ep (aa (ae (fm 9 a4 Z S (El (aj Y) (El (ak 3 Y Y Y) (El (aj Y) (El (sT (by assumption) (ak 3 Y Y Y)) ?_))))))))
    refine El (am (hma) Y ⟨(cM X),(aq (by rw [decide_eq_true hn])),Er⟩) ?_
    refine El (aj Y) (El (ak 2 Y Y Y) (El (aj Y) (El (sT (by assumption) (ak 2 Y Y Y)) (Ep ?_))))
    refine El (am (hmb) Y ⟨(cM X),(aq (by rw [decide_eq_true hm])),Er⟩) ?_
    refine aY 3 Y Y Y Y (aY 2 Y Y Y Y (Ep (aa (ae (ae (ai (El (aQ 2 Y Y) ?_)))))))
    refine El (am (dq _) Y ⟨H,Er⟩) ?_
    refine El (sF (by assumption) (cm Y Y)) (Ep (aa (aB Y (az (aa (ae (ai (El (aj Y) (El (ak 3 Y Y Y) ?_)))))))))
    refine El (aj Y) (El (ak 2 Y Y Y) ?_)
    refine El (am (hdiv) Y ⟨H,H,Er⟩) ?_
    refine Em Y (El (ar Y Y) (El (ar Y Y) ?_))
    refine aG (T:=37) Y (ltN Y) (fun b7 => ?_)
    refine aG (T:=37) Y (ltN Y) (fun b8 => ?_)
    refine aA 1 Y Y Y Y Y (leN Y) Y (aA 0 Y Y Y Y Y (leN Y) Y (Ep (aa (ae (ae (ai (El (aj Y) (El (sT (by assumption) (ak 5 Y Y Y)) (Em Y ?_)))))))))
    refine Eo (ak 0 Y Y Y) ?_
    refine Eo (am (hsg) Y ⟨H,Er⟩) ?_
    refine Eo (sT X (db Y Y)) (El (bp Y Y) (Ep (aa (aH Y (ae (a8 2 a4 Z S (El (ak 1 Y Y Y) ?_)))))))
    refine El (am (hof) Y ⟨H,Er⟩) ?_
    refine Ep ?_
    refine El (am (had) Y ⟨H,H,Er⟩) ?_
    refine aA 1 Y Y Y Y Y (leN Y) Y (Ep (aa (a8 5 a4 Z S (El (aj Y) (El (ak 4 Y Y Y) ?_)))))
    refine El (am (hmb2) Y ⟨(cM X),H,Er⟩) ?_
    refine El (ak 0 Y Y Y) ?_
    refine El (am (hsu) Y ⟨H,H,Er⟩) ?_
    refine Ep (aA 0 Y Y Y Y Y (leN Y) Y (Ep (aa (ae (ae (ai (El (aj Y) (El (sT (by assumption) (ak 5 Y Y Y)) (El (aj Y) ?_)))))))))
    refine El (sT (by assumption) (ak 4 Y Y Y)) (El (jq Y Y) (Ep (aa (aB Y (az (aa (ae ?_)))))))
    refine jW [⟨5,b5,37,Lay.agg 2⟩,⟨4,b4,37,Lay.agg 2⟩] [_,_] [_,_,_,_] a4 Z Y ((cX 2 Y).trans (.cons _ ((cX 2 Y).trans (.cons _ (List.Perm.refl _))))) Y (And.intro Y (And.intro Y (trivial))) ?_
    refine ux (fun B=>ak 1 Y Y Y) Y Y ?_
    refine ux (fun B=>ak 0 Y Y Y) Y Y ?_
    refine us Y (us Y ?_)
    refine ux (fun B=>ah Y) Y Y ?_
    refine RunU.nil ⟨And.intro Y (And.intro Y (And.intro Y (And.intro Y (trivial)))),?_⟩
    refine cK (M' := [_,_,_,_,_,_]) Y (aa (aF ?_))
    refine jk Tryz.results36 (.cellB 1 Y Y Y (cf (by rw [k1,Int.natCast_add]; rfl))) (.cellB 0 Y Y Y (cf (by rw [k2,Int.ofNat_sub (Nat.le_of_lt hlt)]))) (.tmp Y H)
   ·rw [if_neg hm] at k1
    refine ae (ai ?_)
    refine aS Y Y (ltN Y) (fun b2 => ?_)
    refine aS Y Y (ltN Y) (fun b3 => ?_)
    refine aG (T:=37) Y (ltN Y) (fun b4 => ?_)
    refine aG (T:=37) Y (ltN Y) (fun b5 => ?_)
    refine En Y (Ep (aa (ae (fm 9 a4 Z S (El (aj Y) (El (ak 3 Y Y Y) (El (aj Y) (El (sT (by assumption) (ak 3 Y Y Y)) ?_))))))))
    refine El (am (hma) Y ⟨(cM X),(aq (by rw [decide_eq_true hn])),Er⟩) ?_
    refine El (aj Y) (El (ak 2 Y Y Y) (El (aj Y) (El (sF (by assumption) (ak 2 Y Y Y)) (Ep ?_))))
    refine El (am (hmb) Y ⟨(cM X),(aq (by rw [decide_eq_false hm])),Er⟩) ?_
    refine aY 3 Y Y Y Y (aY 2 Y Y Y Y (Ep (aa (ae (ae (ai (El (aQ 2 Y Y) ?_)))))))
    refine El (am (dq _) Y ⟨H,Er⟩) ?_
    refine El (sF (by assumption) (cm Y Y)) (Ep (aa (aB Y (az (aa (ae (ai (El (aj Y) (El (ak 3 Y Y Y) ?_)))))))))
    refine El (aj Y) (El (ak 2 Y Y Y) ?_)
    refine El (am (hdiv) Y ⟨H,H,Er⟩) ?_
    refine Em Y (El (ar Y Y) (El (ar Y Y) ?_))
    refine aG (T:=37) Y (ltN Y) (fun b7 => ?_)
    refine aG (T:=37) Y (ltN Y) (fun b8 => ?_)
    refine aA 1 Y Y Y Y Y (leN Y) Y (aA 0 Y Y Y Y Y (leN Y) Y (Ep (aa (ae (ae (ai (El (aj Y) (El (sT (by assumption) (ak 5 Y Y Y)) (Em Y ?_)))))))))
    refine Eo (ak 0 Y Y Y) ?_
    refine Eo (am (hsg) Y ⟨H,Er⟩) ?_
    refine Eo (sT X (db Y Y)) (El (bp Y Y) (Ep (aa (aH Y (ae (a8 2 a4 Z S (El (ak 1 Y Y Y) ?_)))))))
    refine El (am (hof) Y ⟨H,Er⟩) ?_
    refine Ep ?_
    refine El (am (had) Y ⟨H,H,Er⟩) ?_
    refine aA 1 Y Y Y Y Y (leN Y) Y (Ep (aa (a8 5 a4 Z S (El (aj Y) (El (ak 4 Y Y Y) ?_)))))
    refine El (am (hmb) Y ⟨(cM X),(aq (by rw [decide_eq_false hm])),Er⟩) ?_
    refine El (ak 0 Y Y Y) ?_
    refine El (am (hsu2) Y ⟨H,H,Er⟩) ?_
    refine Ep (aA 0 Y Y Y Y Y (leN Y) Y (Ep (aa (ae (ae (ai (El (aj Y) (El (sT (by assumption) (ak 5 Y Y Y)) (El (aj Y) ?_)))))))))
    refine El (sF (by assumption) (ak 4 Y Y Y)) (El (jq Y Y) (Ep (aa (aH Y (ai (El (ak 1 Y Y Y) ?_))))))
    refine El (am (hn2) Y ⟨H,Er⟩) ?_
    refine aA 1 Y Y Y Y Y (leN Y) Y (Ep (aa (ae ?_)))
    refine jW [⟨5,b5,37,Lay.agg 2⟩,⟨4,b4,37,Lay.agg 2⟩] [_,_] [_,_,_,_] a4 Z Y ((cX 2 Y).trans (.cons _ ((cX 2 Y).trans (.cons _ (List.Perm.refl _))))) Y (And.intro Y (And.intro Y (trivial))) ?_
    refine ux (fun B=>ak 1 Y Y Y) Y Y ?_
    refine ux (fun B=>ak 0 Y Y Y) Y Y ?_
    refine us Y (us Y ?_)
    refine ux (fun B=>ah Y) Y Y ?_
    refine RunU.nil ⟨And.intro Y (And.intro Y (And.intro Y (And.intro Y (trivial)))),?_⟩
    refine cK (M' := [_,_,_,_,_,_]) Y (aa (aF ?_))
    refine jk Tryz.results36 (.cellB 1 Y Y Y (cf (by rw [k1,Int.natCast_add]; rfl))) (.cellB 0 Y Y Y (cf (by rw [k2,Int.ofNat_sub (Nat.le_of_lt hlt),Int.natAbs_of_nonneg (show 0≤b by omega)]))) (.tmp Y H)
 ·obtain ⟨k1,k2⟩:=g1 X
  by_cases hm:b<0
  ·rw [if_pos hm] at k1
   refine ae (ai ?_)
   refine aS Y Y (ltN Y) (fun b2 => ?_)
   refine aS Y Y (ltN Y) (fun b3 => ?_)
   refine aG (T:=37) Y (ltN Y) (fun b4 => ?_)
   refine aG (T:=37) Y (ltN Y) (fun b5 => ?_)
   refine En Y (Ep (aa (ae (fm 9 a4 Z S (El (aj Y) (El (ak 3 Y Y Y) (El (aj Y) (El (sF (by assumption) (ak 3 Y Y Y)) ?_))))))))
   refine El (am (hma) Y ⟨(cM X),(aq (by rw [decide_eq_false hn])),Er⟩) ?_
   refine El (aj Y) (El (ak 2 Y Y Y) (El (aj Y) (El (sT (by assumption) (ak 2 Y Y Y)) (Ep ?_))))
   refine El (am (hmb) Y ⟨(cM X),(aq (by rw [decide_eq_true hm])),Er⟩) ?_
   refine aY 3 Y Y Y Y (aY 2 Y Y Y Y (Ep (aa (ae (ae (ai (El (aQ 2 Y Y) ?_)))))))
   refine El (am (dq _) Y ⟨H,Er⟩) ?_
   refine El (sF (by assumption) (cm Y Y)) (Ep (aa (aB Y (az (aa (ae (ai (El (aj Y) (El (ak 3 Y Y Y) ?_)))))))))
   refine El (aj Y) (El (ak 2 Y Y Y) ?_)
   refine El (am (hdiv) Y ⟨H,H,Er⟩) ?_
   refine Em Y (El (ar Y Y) (El (ar Y Y) ?_))
   refine aG (T:=37) Y (ltN Y) (fun b7 => ?_)
   refine aG (T:=37) Y (ltN Y) (fun b8 => ?_)
   refine aA 1 Y Y Y Y Y (leN Y) Y (aA 0 Y Y Y Y Y (leN Y) Y (Ep (aa (ae (ae (ai (El (aj Y) (El (sF (by assumption) (ak 5 Y Y Y)) (Em Y ?_)))))))))
   refine sg0 Y Y Y Y (sg0 Y Y Y Y (sg0 Y Y Y Y (El (bE Y Y) (Ep (aa (aB Y (az (aa (ae ?_)))))))))
   refine ae (ai (El (aj Y) (El (sF (by assumption) (ak 5 Y Y Y)) (El (aj Y) (El (sT (by assumption) (ak 4 Y Y Y)) (El (jq Y Y) (Ep (aa (aH Y ?_)))))))))
   refine ai (El (ak 1 Y Y Y) ?_)
   refine El (am (hn1) Y ⟨H,Er⟩) ?_
   refine aA 1 Y Y Y Y Y (leN Y) Y (Ep (aa (ae ?_)))
   refine jW [⟨5,b5,37,Lay.agg 2⟩,⟨4,b4,37,Lay.agg 2⟩] [_,_] [_,_,_,_] a4 Z Y ((cX 2 Y).trans (.cons _ ((cX 2 Y).trans (.cons _ (List.Perm.refl _))))) Y (And.intro Y (And.intro Y (trivial))) ?_
   refine ux (fun B=>ak 1 Y Y Y) Y Y ?_
   refine ux (fun B=>ak 0 Y Y Y) Y Y ?_
   refine us Y (us Y ?_)
   refine ux (fun B=>ah Y) Y Y ?_
   refine RunU.nil ⟨And.intro Y (And.intro Y (And.intro Y (And.intro Y (trivial)))),?_⟩
   refine cK (M' := [_,_,_,_,_,_]) Y (aa (aF ?_))
   refine jk Tryz.results36 (.cellB 1 Y Y Y (cf (by rw [k1]))) (.cellB 0 Y Y Y (cf (by rw [k2]))) (.tmp Y H)
  ·rw [if_neg hm] at k1
   refine ae (ai ?_)
   refine aS Y Y (ltN Y) (fun b2 => ?_)
   refine aS Y Y (ltN Y) (fun b3 => ?_)
   refine aG (T:=37) Y (ltN Y) (fun b4 => ?_)
   refine aG (T:=37) Y (ltN Y) (fun b5 => ?_)
   refine En Y (Ep (aa (ae (fm 9 a4 Z S (El (aj Y) (El (ak 3 Y Y Y) (El (aj Y) (El (sF (by assumption) (ak 3 Y Y Y)) ?_))))))))
   refine El (am (hma) Y ⟨(cM X),(aq (by rw [decide_eq_false hn])),Er⟩) ?_
   refine El (aj Y) (El (ak 2 Y Y Y) (El (aj Y) (El (sF (by assumption) (ak 2 Y Y Y)) (Ep ?_))))
   refine El (am (hmb) Y ⟨(cM X),(aq (by rw [decide_eq_false hm])),Er⟩) ?_
   refine aY 3 Y Y Y Y (aY 2 Y Y Y Y (Ep (aa (ae (ae (ai (El (aQ 2 Y Y) ?_)))))))
   refine El (am (dq _) Y ⟨H,Er⟩) ?_
   refine El (sF (by assumption) (cm Y Y)) (Ep (aa (aB Y (az (aa (ae (ai (El (aj Y) (El (ak 3 Y Y Y) ?_)))))))))
   refine El (aj Y) (El (ak 2 Y Y Y) ?_)
   refine El (am (hdiv) Y ⟨H,H,Er⟩) ?_
   refine Em Y (El (ar Y Y) (El (ar Y Y) ?_))
   refine aG (T:=37) Y (ltN Y) (fun b7 => ?_)
   refine aG (T:=37) Y (ltN Y) (fun b8 => ?_)
   refine aA 1 Y Y Y Y Y (leN Y) Y (aA 0 Y Y Y Y Y (leN Y) Y (Ep (aa (ae (ae (ai (El (aj Y) (El (sF (by assumption) (ak 5 Y Y Y)) (Em Y ?_)))))))))
   refine sg0 Y Y Y Y (sg0 Y Y Y Y (sg0 Y Y Y Y (El (bE Y Y) (Ep (aa (aB Y (az (aa (ae ?_)))))))))
   refine ae (ai (El (aj Y) (El (sF (by assumption) (ak 5 Y Y Y)) (El (aj Y) (El (sF (by assumption) (ak 4 Y Y Y)) (El (jq Y Y) (Ep (aa (aB Y ?_)))))))))
   refine az (aa (ae ?_))
   refine jW [⟨5,b5,37,Lay.agg 2⟩,⟨4,b4,37,Lay.agg 2⟩] [_,_] [_,_,_,_] a4 Z Y ((cX 2 Y).trans (.cons _ ((cX 2 Y).trans (.cons _ (List.Perm.refl _))))) Y (And.intro Y (And.intro Y (trivial))) ?_
   refine ux (fun B=>ak 1 Y Y Y) Y Y ?_
   refine ux (fun B=>ak 0 Y Y Y) Y Y ?_
   refine us Y (us Y ?_)
   refine ux (fun B=>ah Y) Y Y ?_
   refine RunU.nil ⟨And.intro Y (And.intro Y (And.intro Y (And.intro Y (trivial)))),?_⟩
   refine cK (M' := [_,_,_,_,_,_]) Y (aa (aF ?_))
   refine jk Tryz.results36 (.cellB 1 Y Y Y (cf (by rw [k1]))) (.cellB 0 Y Y Y (cf (by rw [k2]))) (.tmp Y H)
theorem vA (a b:Int) (ha:dw a) (hb:dw b):Ok Tryz.prog 117 [aL a,aL b] (aL (Nat.gcd a.natAbs b.natAbs)):=by
 refine Ok.enter Tryz.func117 Y Tryz.ntmps117 Y (fun w O => ?_)
 refine ae (ai ?_)
 refine aS Y Y (ltN Y) (fun b2 => ?_)
 refine aS Y Y (ltN Y) (fun b3 => ?_)
 refine aG (T:=37) Y (ltN Y) (fun b4 => ?_)
 refine Ep (aa (ae (au (cp (Γ' := [(2,_),(3,_),(4,_)]) Eg (SubM.refl _) ?_))))
 refine bD (σ:=Int × Int) (Γk := [(2,_),(3,_),(4,_)]) Eg (fun p => []) (fun p M0=>((M0.set 1 (aP b3 37 (Lay.agg 2).sz [(0,Lay.agg 2,aL p.2)])).set 2 (aP b2 37 (Lay.agg 2).sz [(0,Lay.agg 2,aL p.1)]))) (fun p=>Nat.gcd p.1.natAbs p.2.natAbs=Nat.gcd a.natAbs b.natAbs∧dw p.1∧dw p.2) (fun p=>p.2.natAbs) ((a,b)) (⟨rfl,ha,hb⟩) Eh (.keep Ek (.keep (qW H) (.keep (qW H) (.nil)))) (fun p hp => ?_)
 refine bU (Γ' := [(2,_),(3,_),(4,_)]) (M' := [_,_,_]) Y Y ?_
 obtain ⟨x,y⟩:=p
 dsimp only at hp ⊢
 obtain ⟨p1,p2,p3⟩:=hp
 have hsg:=dq y
 by_cases hy:y=0
 ·have hs0:c6 y=0:=by rw [hy]; rfl
  rw [hy] at p1
  rw [← p1,Int.natAbs_zero,Nat.gcd_zero_right]
  have hx:(aK x.natAbs).length≤1099511627700:=p2
  have hm:=dm false x.natAbs
  rw [if_neg S] at hm
  refine ae (ae (ai (El (ak 1 Y Y Y) ?_)))
  refine El (am (hsg) Y ⟨H,Er⟩) ?_
  refine El (sF X (dy Y Y)) (Ep (aa (aB Y (aX (av (av (aE (aa (ae ?_)))))))))
  refine ai (El (aj Y) (El (fy 2 0 1 Y Y Y Y Y) ?_))
  refine El (am (hm) Y ⟨(cM X),H,Er⟩) ?_
  refine aA 0 Y Y Y Y Y (leN Y) Y (Ep (aa (aF ?_)))
  refine aV Tryz.results117 (.cellB 0 Y Y Y H)
 ·have hs0:c6 y≠0:=by unfold c6;rw [if_neg hy]; split <;> decide
  have hdm:=fR x y hy p2 p3
  have hlt:=sy x hy
  refine ae (ae (ai (El (ak 1 Y Y Y) ?_)))
  refine El (am (hsg) Y ⟨H,Er⟩) ?_
  refine El (sT (by assumption) (dy Y Y)) (Ep (aa (aH Y (az (aa (au (ae (ai (El (ak 2 Y Y Y) ?_)))))))))
  refine El (ak 1 Y Y Y) ?_
  refine El (am (hdm) Y ⟨H,H,Er⟩) ?_
  refine Em Y (El (ar Y Y) (El (ar Y Y) (El (ar Y Y) ?_)))
  refine aG (T:=37) Y (ltN Y) (fun b5 => ?_)
  refine aG (T:=37) Y (ltN Y) (fun b6 => ?_)
  refine aA 1 Y Y Y Y Y (leN Y) Y (aA 0 Y Y Y Y Y (leN Y) Y (En Y (Ep (aa ?_))))
  refine u9 [⟨⟨3,b3,37,Lay.agg 2⟩,_⟩,⟨⟨2,b2,37,Lay.agg 2⟩,_⟩] [_,_,_] a4 Z ((cX 3 Y).trans (.cons _ ((cX 3 Y).trans (.cons _ (List.Perm.refl _))))) Y (And.intro Y (And.intro Y (trivial))) ?_
  refine wl 0 Y Z (fun B=>ak 0 Y Y Y) Y ?_
  refine wx (fun B=>ak 0 Y Y Y) Y ?_
  refine ws Y (ws Y ?_)
  refine RunY.nil ⟨And.intro Y (And.intro Y (And.intro Y (And.intro Y (trivial)))),?_⟩
  refine cK (M' := [_,_,_,_,_]) Y (aD (nj ((cX 4 Y).trans (.cons _ ((cX 0 Y).trans (.cons _ ((cX 0 Y).trans (.cons _ (List.Perm.refl _))))))) ?_))
  refine aR ((y,x % y)) (⟨by rw [← p1]; exact yJ x y,p3,i9 p3 (Nat.le_of_lt hlt)⟩) (by assumption) Eh (.keep Ek (.keep Ek (.keep Ek (SubM.nilR _))))
end Tor
end
section
namespace Tor
open Go Go.RowKit Go.Proofs
attribute [local irreducible] J PJ aJ one slT bQ bC bv exT bZ eP aP aI slV VT.le Ret bJ
theorem vB (n d:Int) (hd:d≠0) (hn:dw n) (hds:dw d):Ok Tryz.prog 118 [aL n,aL d] (bv [cD (Rat.divInt n d),one (.int .i64 0)]):=by
 have hsi:=dq d
 have hn1:=iP n hn.small
 have hd1:=iP d hds.small
 have e1:dw (-n):=i9 hn X
 have e2:dw (-d):=i9 hds X
 have g0:=tZ (n:=n) hd
 have g1:dw ((Nat.gcd n.natAbs d.natAbs:Nat):Int):=i9 hds (by rw [Int.natAbs_natCast]; exact Nat.le_of_dvd X (Nat.gcd_dvd_right _ _))
 unfold cD dH
 refine Ok.enter Tryz.func118 Y Tryz.ntmps118 Y (fun w O => ?_)
 by_cases h:d<0
 ·obtain ⟨l1,l2⟩:=vz (n:=n) h
  have hs:c6 d = -1:=by unfold c6;rw [if_neg hd,if_pos h]
  have hg:=vA (-n) (-d) e1 e2
  rw [Int.natAbs_neg,Int.natAbs_neg] at hg
  have hm1:=fR (-n) _ g0 e1 g1
  have hm2:=fR (-d) _ g0 e2 g1
  have d1:((Nat.gcd n.natAbs d.natAbs:Nat):Int)∣n:=Int.gcd_dvd_left ..
  have d2:((Nat.gcd n.natAbs d.natAbs:Nat):Int)∣d:=Int.gcd_dvd_right ..
  rw [Int.ediv_neg, ← Int.neg_ediv_of_dvd d1] at l1
  rw [Int.ediv_neg, ← Int.neg_ediv_of_dvd d2] at l2
  refine ae (ai ?_)
  refine aS Y Y (ltN Y) (fun b2 => ?_)
  refine aS Y Y (ltN Y) (fun b3 => ?_)
  refine bj (T:=58) Y Y Y (fun b4 => ?_)
  refine En Y (Ep (aa (ae (ae (ai (El (aQ 1 Y Y) ?_))))))
  refine El (am (hsi) Y ⟨H,Er⟩) ?_
  refine El (sF X (cm Y Y)) (Ep (aa (aB Y (az (aa (ae (ae (ai (El (aQ 1 Y Y) ?_)))))))))
  refine El (am (hsi) Y ⟨H,Er⟩) ?_
  refine El (sT X (a7 Y Y)) (Ep (aa (aH Y (fm 3 a4 Z S (El (aQ 2 Y Y) ?_)))))
  refine El (am (hn1) Y ⟨H,Er⟩) ?_
  refine El (aQ 1 Y Y) (Ep ?_)
  refine El (am (hd1) Y ⟨H,Er⟩) ?_
  refine aY 2 Y Y Y Y (aY 1 Y Y Y Y (Ep (aa (ae (ai (El (aQ 2 Y Y) (El (aQ 1 Y Y) ?_)))))))
  refine El (am (hg) Y ⟨H,H,Er⟩) ?_
  refine aG (T:=37) Y (ltN Y) (fun b6 => ?_)
  refine aA 0 Y Y Y Y Y (leN Y) Y (Ep (aa (ae (ai (El (aQ 3 Y Y) (El (ak 0 Y Y Y) ?_))))))
  refine El (am (hm1) Y ⟨H,H,Er⟩) ?_
  refine Em Y (El (ar Y Y) (El (ar Y Y) (El (ar Y Y) ?_)))
  refine aG (T:=37) Y (ltN Y) (fun b7 => ?_)
  refine aG (T:=37) Y (ltN Y) (fun b8 => ?_)
  refine aA 1 Y Y Y Y Y (leN Y) Y (aA 0 Y Y Y Y Y (leN Y) Y (En Y (Ep (aa (ae (ai (El (aQ 4 Y Y) (El (ak 2 Y Y Y) ?_))))))))
  refine El (am (hm2) Y ⟨H,H,Er⟩) ?_
  refine Em Y (El (ar Y Y) (El (ar Y Y) (El (ar Y Y) ?_)))
  refine aG (T:=37) Y (ltN Y) (fun b10 => ?_)
  refine aG (T:=37) Y (ltN Y) (fun b11 => ?_)
  refine aA 1 Y Y Y Y Y (leN Y) Y (aA 0 Y Y Y Y Y (leN Y) Y (En Y (Ep (aa (ae (ai (El (ak 3 Y Y Y) (El (ak 1 Y Y Y) (stB Y Y Y ?_)))))))))
  refine BuildK.cons Y Y Y (BuildK.cons Y Y Y (BuildK.nil (aY 5 Y Y Y Y (En Y (Ep (aa (aF ?_)))))))
  refine cT Tryz.results118 (.cellW 5 Y Y (iS l1 l2)) (.tmp Y H)
 ·obtain ⟨l1,l2⟩:=qV (n:=n) (show 0<d by omega)
  have hs:c6 d=1:=by unfold c6;rw [if_neg hd,if_neg h]
  have hg:=vA n d hn hds
  have hm1:=fR n _ g0 hn g1
  have hm2:=fR d _ g0 hds g1
  refine ae (ai ?_)
  refine aS Y Y (ltN Y) (fun b2 => ?_)
  refine aS Y Y (ltN Y) (fun b3 => ?_)
  refine bj (T:=58) Y Y Y (fun b4 => ?_)
  refine En Y (Ep (aa (ae (ae (ai (El (aQ 1 Y Y) ?_))))))
  refine El (am (hsi) Y ⟨H,Er⟩) ?_
  refine El (sF X (cm Y Y)) (Ep (aa (aB Y (az (aa (ae (ae (ai (El (aQ 1 Y Y) ?_)))))))))
  refine El (am (hsi) Y ⟨H,Er⟩) ?_
  refine El (sF X (a7 Y Y)) (Ep (aa (aB Y (az (aa (ae (ai (El (aQ 2 Y Y) (El (aQ 1 Y Y) ?_)))))))))
  refine El (am (hg) Y ⟨H,H,Er⟩) ?_
  refine aG (T:=37) Y (ltN Y) (fun b6 => ?_)
  refine aA 0 Y Y Y Y Y (leN Y) Y (Ep (aa (ae (ai (El (aQ 3 Y Y) (El (ak 0 Y Y Y) ?_))))))
  refine El (am (hm1) Y ⟨H,H,Er⟩) ?_
  refine Em Y (El (ar Y Y) (El (ar Y Y) (El (ar Y Y) ?_)))
  refine aG (T:=37) Y (ltN Y) (fun b7 => ?_)
  refine aG (T:=37) Y (ltN Y) (fun b8 => ?_)
  refine aA 1 Y Y Y Y Y (leN Y) Y (aA 0 Y Y Y Y Y (leN Y) Y (En Y (Ep (aa (ae (ai (El (aQ 4 Y Y) (El (ak 2 Y Y Y) ?_))))))))
  refine El (am (hm2) Y ⟨H,H,Er⟩) ?_
  refine Em Y (El (ar Y Y) (El (ar Y Y) (El (ar Y Y) ?_)))
  refine aG (T:=37) Y (ltN Y) (fun b10 => ?_)
  refine aG (T:=37) Y (ltN Y) (fun b11 => ?_)
  refine aA 1 Y Y Y Y Y (leN Y) Y (aA 0 Y Y Y Y Y (leN Y) Y (En Y (Ep (aa (ae (ai (El (ak 3 Y Y Y) (El (ak 1 Y Y Y) (stB Y Y Y ?_)))))))))
  refine BuildK.cons Y Y Y (BuildK.cons Y Y Y (BuildK.nil (aY 5 Y Y Y Y (En Y (Ep (aa (aF ?_)))))))
  refine cT Tryz.results118 (.cellW 5 Y Y (iS l1 l2)) (.tmp Y H)
theorem t6 (a b c d:Int):Ok Tryz.prog 41 [dH a b,dH c d] (one (.bool (decide (a=c) && decide (b=d)))):=by
 have h1:=oc a c
 have h2:=oc b d
 unfold dH
 refine Ok.enter Tryz.func41 Y Tryz.ntmps41 Y (fun w O => ?_)
 by_cases c1:a=c
 ·rw [decide_eq_true c1] at h1 ⊢
  refine ae (ai ?_)
  refine aS Y Y (ltN Y) (fun b2 => ?_)
  refine aS Y Y (ltN Y) (fun b3 => ?_)
  refine En Y (Ep (aa (ae (ai (El (aj Y) (El (ak 1 Y Y Y) (El (aj Y) (El (ak 0 Y Y Y) ?_))))))))
  refine El (am (h1) Y ⟨H,H,Er⟩) ?_
  refine Em Y (Eo (aj Y) (Eo (ak 1 Y Y Y) (Eo (aj Y) (Eo (ak 0 Y Y Y) ?_))))
  refine Eo (am (h2) Y ⟨H,H,Er⟩) ?_
  refine El (bp Y Y) (En Y (Ep (aa (aF ?_))))
  refine aV Tryz.results41 (.tmp Y H)
 ·rw [decide_eq_false c1] at h1 ⊢
  refine ae (ai ?_)
  refine aS Y Y (ltN Y) (fun b2 => ?_)
  refine aS Y Y (ltN Y) (fun b3 => ?_)
  refine En Y (Ep (aa (ae (ai (El (aj Y) (El (ak 1 Y Y Y) (El (aj Y) (El (ak 0 Y Y Y) ?_))))))))
  refine El (am (h1) Y ⟨H,H,Er⟩) ?_
  refine Em Y (sg0 Y Y Y Y (sg0 Y Y Y Y (sg0 Y Y Y Y (sg0 Y Y Y Y (sg0 Y Y Y Y (El (bE Y Y) (En Y (Ep (aa ?_)))))))))
  refine aF ?_
  refine aV Tryz.results41 (.tmp Y H)
theorem wK (q r:Rat):Ok Tryz.prog 41 [cD q,cD r] (one (.bool (decide (q=r)))):=by
 have h:=t6 q.num q.den r.num r.den
 have e:(decide (q.num=r.num) && decide ((q.den:Int)=(r.den:Int)))=decide (q=r):=by
  rw [← Bool.decide_and]
  exact decide_eq_decide.2 ⟨fun ⟨h1,h2⟩=>Rat.ext h1 X,fun h=>by rw [h]; exact ⟨rfl,rfl⟩⟩
 rw [e] at h
 exact h
end Tor
end
section
namespace Tor
def mY (n:Nat):Prop := ∀ d,2≤d→d*d≤n→n % d≠0
def iE (n:Nat):Nat→Nat→Bool
 | 0, d => Nat.ble (n + 1) (d * d) || !(Nat.beq (n % d) 0)
 | k + 1, d => iE n k d && iE n k (d + 2 ^ k)
theorem mv {n:Nat} : ∀ {k d:Nat},iE n k d=true → ∀ e,d≤e→e<d+2^k→e*e≤n→n % e≠0
 | 0, d, h, e, h1, h2, h3 => by
  have:e=d:=by simp at h2;omega
  subst this
  simp only [iE,Bool.or_eq_true,Bool.not_eq_true'] at h
  rcases h with h | h
  ·have:=Nat.le_of_ble_eq_true h;omega
  ·intro hz;rw [hz] at h;cases h
 | k + 1, d, h, e, h1, h2, h3 => by
  simp only [iE,Bool.and_eq_true] at h
  rw [Nat.pow_succ] at h2
  rcases Nat.lt_or_ge e (d+2^k) with hl | hl
  ·exact mv h.1 e h1 hl h3
  ·exact mv h.2 e hl X h3
theorem lS {n k:Nat} (h:iE n k 2=true) (hn:n<(2+2^k)*(2+2^k)):mY n:=fun d h1 h2=>by
 rcases Nat.lt_or_ge d (2+2^k) with hl | hl
 ·exact mv h d h1 hl h2
 ·have:=Nat.mul_le_mul hl hl;omega
def mw (p:Nat→Bool):Nat→Nat
 | 0 => 0
 | m + 1 => if p m then m else mw p m
noncomputable def t7 (m:Nat):Bool := @decide (2≤m∧m<2147483648∧mY m) (Classical.propDecidable _)
theorem CO {m:Nat} : t7 m=true↔2≤m∧m<2147483648∧mY m := @decide_eq_true_iff _ (Classical.propDecidable _)
abbrev bf (p:Nat→Bool) (n:Nat):Nat:=mw p (min n 2147483648)
end Tor
end
section
namespace Tor
open Go Go.RowKit Go.Proofs
def Cd:List Nat := [2,3,5,7,11,13,17,19,23,29,31,37,41,43,47,65537,2147483629,2147483647]
theorem A4:iE 2147483629 16 2=true:=by decide +kernel
theorem A5:iE 2147483647 16 2=true:=by decide +kernel
theorem A6:iE 65537 8 2=true:=by decide +kernel
theorem sA : ∀ p∈Cd,mY p:=by
 have h:(([2,3,5,7,11,13,17,19,23,29,31,37,41,43,47]:List Nat).all fun p=>iE p 3 2 && decide (p<100))=true:=by decide +kernel
 intro p hp
 have hs:Cd = [2,3,5,7,11,13,17,19,23,29,31,37,41,43,47] ++ [65537,2147483629,2147483647]:=rfl
 rw [hs] at hp
 rcases List.mem_append.1 hp with hp | hp
 ·have:=List.all_eq_true.1 h p hp
  simp only [Bool.and_eq_true,decide_eq_true_eq] at this
  exact lS (k:=3) this.1 X
 ·rcases List.mem_cons.1 hp with rfl | hp
  ·exact lS (k:=8) A6 S
  ·rcases List.mem_cons.1 hp with rfl | hp
   ·exact lS (k:=16) A4 S
   ·rw [List.mem_singleton.1 hp]
    exact lS (k:=16) A5 S
attribute [local irreducible] J PJ aJ one slT bQ bC bv exT bZ eP aP aI slV VT.le Ret bJ
theorem wL (n:Nat) (h2:2≤n) (hn:n<2147483648) (hT:mY n):Ok Tryz.prog 28 [one (.int .u64 (n:Int))] (one (.bool true)):=by
 refine Ok.enter Tryz.func28 Y Tryz.ntmps28 Y (fun w O => ?_)
 refine ae (ai (En Y (Ep (aa (ae (ae (ai (Em Y (El (sF X (a7 Y Y)) ?_)))))))))
 refine Em Y (Eo (ab Y) (Eo (sF X (fh Y Y)) (El (bE Y Y) (Ep (aa (aB Y (az (aa (ae ?_)))))))))
 refine ae (ai (En Y (Ep (aa (au (cp (Γ' := [(0,_),(2,_),(3,_)]) Eg (SubM.refl _) ?_))))))
 refine bD (σ:=Nat) (Γk := [(0,_)]) Eg (fun d => [(3,one (.int .u64 (d:Nat)))]) (fun d M0=>M0) (fun d=>2≤d∧d≤65536) (fun d=>65537 - d) (2) (⟨by decide,by decide⟩) Eh (.nil) (fun d hd => ?_)
 refine bU (Γ' := [(3,_),(0,_)]) (M' := []) Y Y ?_
 obtain ⟨d1,d2⟩:=hd
 have hb:=Nat.mul_le_mul d2 d2
 by_cases hc:d*d≤n
 ·have hm:=hT d d1 hc
  have hlt:d<65536:=by
   rcases Nat.lt_or_ge d 65536 with h | h
   ·exact h
   ·have:=Nat.mul_le_mul h h;omega
  have hm2 : ¬ n % d=0:=hm
  refine ae (ae (ai (Em Y (Em Y (El (fK Y Y X) (Em Y (El (sT X (m5 Y Y)) (Ep (aa ?_)))))))))
  refine aH Y (az (aa (ae (au (ae (ai (Em Y (Em Y (El (eK _ Y Y Y X) ?_)))))))))
  refine El (sF X (cm Y Y)) (Ep (aa (aB Y (az (aD (aa (ai (Em Y (El (dK (b:=1) Y Y X) ?_)))))))))
  refine En Y (Ep ?_)
  refine aR (d+1) (⟨by omega,by omega⟩) X Eh (.nil)
 ·refine ae (ae (ai (Em Y (Em Y (El (fK Y Y X) (Em Y (El (sF X (m5 Y Y)) (Ep (aa ?_)))))))))
  refine aB Y (aX (av (av (aE (aa (ae (ai (En Y (Ep ?_)))))))))
  refine aa (aF ?_)
  refine aV Tryz.results28 (.tmp Y H)
end Tor
end
section
namespace Tor
open Go Go.RowKit Go.Proofs
attribute [local irreducible] J PJ aJ one slT bQ bC bv exT bZ eP aP aI slV VT.le Ret bJ
attribute [local irreducible] aL
theorem vC (p a b:Nat) (hp0:0<p) (hp:p<4294967296) (ha:a<4294967296) (hb:b<4294967296):Ok Tryz.prog 140 [one (.int .u64 p),one (.int .u64 a),one (.int .u64 b)] (one (.int .u64 (((a+b) % p:Nat):Int))):=by
 have hr:=ol (a+b) p X hp0 X
 refine Ok.enter Tryz.func140 Y Tryz.ntmps140 Y (fun w O => ?_)
 refine ae (ai (En Y (Ep (aa (ae (ai (Em Y (Em Y (El (dK Y Y X) ?_)))))))))
 refine Em Y ?_
 refine El (am (hr) Y ⟨H,H,Er⟩) ?_
 refine En Y (Ep (aa (aF ?_)))
 refine aV Tryz.results140 (.tmp Y H)
end Tor
end
section
namespace Tor
open Go Go.RowKit Go.Proofs
def my (v:List Int):VT:=slT (.agg 2) v.length (fun i=>aL (v.getD i 0))
theorem qX {u v:List Int} {i:Nat} (h:u.take i=v.take i) (hl:u.length=v.length) (hi:i<u.length) (he:u.getD i 0=v.getD i 0):u.take (i+1)=v.take (i+1):=by
 rw [List.take_add_one,List.take_add_one,h,List.getElem?_eq_getElem hi,List.getElem?_eq_getElem (hl▸hi)]
 simp only [List.getD,List.getElem?_eq_getElem hi,List.getElem?_eq_getElem (hl▸hi),Option.getD_some] at he
 rw [he]
attribute [local irreducible] J PJ aJ one slT bQ bC bv exT bZ eP aP aI slV VT.le Ret bJ
attribute [local irreducible] aL
theorem sB (u v:List Int):Ok Tryz.prog 65 [my u,my v] (one (.bool (decide (u=v)))):=by
 unfold my
 refine Ok.enter Tryz.func65 Y Tryz.ntmps65 Y (fun w O => ?_)
 refine iy (t:=0) Y (fun _ _=>eE) (fun hb => ?_)
 refine ae (ai (En Y (Ep (aa (ae (ae (ai (Em Y (El (aW Y) ?_)))))))))
 refine Em Y (El (aW Y) (El (dy Y Y) (Ep (aa ?_))))
 refine a5 Y (fun hc => ?_) (fun hc => ?_) <;> simp only [decide_eq_true_eq,decide_eq_false_iff_not,ne_eq,Decidable.not_not] at hc
 ·refine ae (ai (En Y (Ep (aa (aF (aU ?_))))))
  refine aV Tryz.results65 (.tmp Y (aq ?_))
  have : ¬ (u=v):=by intro e;subst e;exact hc Y
  simp [this]
 ·have hlen:u.length=v.length:=by omega
  refine az (aa (ae (ae (ai (En Y (Ep (aa (au ?_))))))))
  refine cw (σ:=Nat) (fun i => [(0,my u),(1,my v),(5,one (.int .i64 (i:Nat)))]) (fun _ => []) (fun i=>i≤u.length∧u.take i=v.take i) (fun i=>u.length - i) 0 ⟨Nat.zero_le _,rfl⟩ Ei (SubM.refl _) (fun i ⟨hi,ht⟩ => ?_)
  unfold my
  refine ae (ae (ai (Em Y (Em Y (El (aW Y) (El (a7 Y Y) (Ep (aa ?_))))))))
  refine a5 Y (fun hc => ?_) (fun hc => ?_) <;> simp at hc
  ·refine az (aa (ae (au (ae (a8 10 a4 Z S (Em Y (Em Y ?_)))))))
   (refine El (aC Y Y ?_) ?_;omega)
   refine El (aM Y) (Em Y (Em Y ?_))
   (refine El (aC Y Y ?_) ?_;omega)
   refine El (aM Y) ?_
   refine El (am (oc _ _) Y ⟨H,H,Er⟩) ?_
   refine El (cR Y) (Ep (Ep (aa ?_)))
   refine a5 Y (fun hc2 => ?_) (fun hc2 => ?_)
   ·simp at hc2
    refine ae (ai (En Y (Ep (aa (aF (bK (aU (aU (bK ?_)))))))))
    refine aU ?_
    refine aV Tryz.results65 (.tmp Y (aq ?_))
    have : ¬ (u=v):=by intro e;subst e;exact hc2 Y
    simp [this]
   ·have he:u.getD i 0=v.getD i 0:=by simpa using hc2
    refine az (aD (aa (ai (Em Y ?_))))
    (refine El (ci Y Y (aO ?_ ?_)) ?_;omega;omega)
    refine En Y (Ep ?_)
    exact bO (s:=i) (i+1) ⟨by omega,qX ht hlen X he⟩ (by show u.length - (i+1)<u.length - i;omega) Ei (SubM.refl _)
  ·refine aX (av (av (aE (aa (ae (ai (En Y (Ep (aa ?_)))))))))
   refine aF ?_
   refine aV Tryz.results65 (.tmp Y (aq ?_))
   rw [List.take_of_length_le X,List.take_of_length_le X] at ht
   simp [ht]
end Tor
end
section
namespace Tor
open Go Go.RowKit Go.Proofs
def yK (a:List (List Int)):VT:=slT .one a.length (fun i=>my (a.getD i []))
def CP (r c:Int) (a:List (List Int)):VT:=bC 3 [(0, .one,one (.int .i64 r)),(1, .one,one (.int .i64 c)),(2, .one,yK a)]
attribute [local irreducible] J PJ aJ one slT bQ bC bv exT bZ eP aP aI slV VT.le Ret bJ
attribute [local irreducible] aL my
end Tor
end
section
namespace Tor
open Go Go.RowKit Go.Proofs
def ef (v:List (Bool × List Nat)):VT:=slT (.agg 2) v.length (fun i=>kG (v.getD i (false, [])).1 (v.getD i (false, [])).2)
def jG (x:Int):Bool × List Nat:=(decide (x<0),aK x.natAbs)
theorem sC (v:List Int):VT.le (my v) (ef (v.map jG)):=by
 unfold my ef
 refine VT.le_trans (dZ (ψ:=fun i=>kG ((v.map jG).getD i (false, [])).1 ((v.map jG).getD i (false, [])).2) (fun i hi => ?_)) (by rw [List.length_map]; exact VT.le_refl _)
 simp only [List.getD,List.getElem?_map,List.getElem?_eq_getElem hi,Option.map_some,Option.getD_some]
 exact yv _
theorem lT : ∀ {l:List Nat},gy l→0<l.length→l.getD (l.length - 1) 0≠0
 | [], _, h => absurd h S
 | [d], h, _ => h
 | _ :: d :: l, h, _ => lT (l := d :: l) h (by simp)
theorem oq (x:Int):fx (jG x).1 (jG x).2=true:=by
 unfold fx jG
 simp only
 split
 ·rename_i h
  have e:=List.eq_nil_of_length_eq_zero h
  have:x.natAbs=0:=by rw [← bY x.natAbs,e]; rfl
  have : ¬ x<0:=by omega
  simp [this]
 ·rename_i h
  have:=lT (lH x.natAbs) X
  simpa using this
theorem eF (x:Int):c6 x=0↔x=0:=by
 unfold c6
 constructor
 ·intro h;split at h
  ·assumption
  ·split at h <;> omega
 ·intro h;rw [if_pos h]
theorem qY {α:Type} {p:α→Bool} {v:List α} {d:α} {i:Nat} (h:(v.take i).all p=true) (hi:i<v.length) (he:p (v.getD i d)=true):(v.take (i+1)).all p=true:=by
 rw [List.take_add_one,List.all_append,h,List.getElem?_eq_getElem hi]
 simp only [List.getD,List.getElem?_eq_getElem hi,Option.getD_some] at he
 simp [he]
theorem qZ {α:Type} {p:α→Bool} {v:List α} {d:α} {i:Nat} (hi:i<v.length) (he:p (v.getD i d)=false):v.all p=false:=by
 simp only [List.getD,List.getElem?_eq_getElem hi,Option.getD_some] at he
 rw [List.all_eq_false]; exact ⟨_,List.getElem_mem hi,by simp [he]⟩
attribute [local irreducible] J PJ aJ one slT bQ bC bv exT bZ eP aP aI slV VT.le Ret bJ
attribute [local irreducible] aL kG
theorem q6 (v:List (Bool × List Nat)) (hv : ∀ p∈v,p.2.length≤4398046511104):Ok Tryz.prog 31 [ef v] (one (.bool (v.all fun p=>fx p.1 p.2))):=by
 unfold ef
 refine Ok.enter Tryz.func31 Y Tryz.ntmps31 Y (fun w O => ?_)
 refine iy (t:=0) Y (fun _ _=>eE) (fun hb => ?_)
 refine ae (ai (En Y (Ep (aa (ae (ae (ai (En Y (Ep ?_)))))))))
 refine aa (au ?_)
 refine cw (σ:=Nat) (fun i => [(0,ef v),(3,one (.int .i64 (i:Nat)))]) (fun _ => []) (fun i=>i≤v.length∧(v.take i).all (fun p=>fx p.1 p.2)=true) (fun i=>v.length - i) 0 ⟨Nat.zero_le _,rfl⟩ Ei (SubM.refl _) (fun i ⟨hi,ht⟩ => ?_)
 unfold ef
 refine ae (ae (ai (Em Y (Em Y (El (aW Y) (El (a7 Y Y) (Ep (aa ?_))))))))
 refine a5 Y (fun hc => ?_) (fun hc => ?_) <;> simp at hc
 ·have hm:(v.getD i (false, [])).2.length≤4398046511104:=by
   simp only [List.getD,List.getElem?_eq_getElem hc,Option.getD_some]
   exact hv _ (List.getElem_mem hc)
  refine az (aa (ae (au (ae (ai (Em Y (Em Y ?_)))))))
  (refine El (aC Y Y ?_) ?_;omega)
  refine El (aM Y) ?_
  refine El (am (ww _ _ hm) Y ⟨H,Er⟩) ?_
  refine El (cR Y) (Ep (aa ?_))
  refine a5 Y (fun hc2 => ?_) (fun hc2 => ?_)
  ·refine ae (ai (En Y (Ep (aa (aF (bK (aU (aU (bK ?_)))))))))
   refine aU ?_
   refine aV Tryz.results31 (.tmp Y (aq ?_))
   rw [qZ (d:=(false, [])) hc (by simpa using hc2)]
  ·refine az (aD (aa (ai (Em Y ?_))))
   (refine El (ci Y Y (aO ?_ ?_)) ?_;omega;omega)
   refine En Y (Ep ?_)
   exact bO (s:=i) (i+1) ⟨by omega,qY (d:=(false, [])) ht hc (by simpa using hc2)⟩ (by show v.length - (i+1)<v.length - i;omega) Ei (SubM.refl _)
 ·refine aX (av (av (aE (aa (ae (ai (En Y (Ep (aa ?_)))))))))
  refine aF ?_
  refine aV Tryz.results31 (.tmp Y (aq ?_))
  rw [List.take_of_length_le X] at ht
  rw [ht]
end Tor
end
section
namespace Tor
open Go Go.RowKit Go.Proofs
abbrev t8:=List (Bool × List Nat)
def ez (a:List t8):VT:=slT .one a.length (fun i=>ef (a.getD i []))
def lU (r c:Int) (a:List t8):VT:=bC 3 [(0, .one,one (.int .i64 r)),(1, .one,one (.int .i64 c)),(2, .one,ez a)]
def jH (c:Int) (v:t8):Bool:=decide ((v.length:Int)=c) && v.all fun p=>fx p.1 p.2
def ja (r c:Int) (a:List t8):Bool:=decide (0≤r∧0≤c∧(a.length:Int)=r) && a.all (jH c)
attribute [local irreducible] J PJ aJ one slT bQ bC bv exT bZ eP aP aI slV VT.le Ret bJ
attribute [local irreducible] aL kG ef
end Tor
end
section
namespace Tor
open Go Go.RowKit Go.Proofs
def tab (r c:Nat) (F:Nat→Nat→Int):List (List Int):=(List.range r).map fun i=>(List.range c).map (F i)
@[simp] theorem tab_length (r c:Nat) (F:Nat→Nat→Int):(tab r c F).length=r:=by simp [tab]
theorem A7 {r c i:Nat} (F:Nat→Nat→Int) (hi:i<r):(tab r c F).getD i []=(List.range c).map (F i):=by simp [tab,List.getD,hi]
theorem CQ {c j:Nat} (f:Nat→Int) (hj:j<c):((List.range c).map f).getD j 0=f j:=by simp [List.getD,hj]
def bA (c:Nat) (f:Nat→Int):VT:=slT (.agg 2) c (fun j=>aL (f j))
theorem lV (c:Nat) (f:Nat→Int):VT.le (bA c f) (my ((List.range c).map f)):=by
 unfold bA my
 refine VT.le_trans (dZ (ψ:=fun j=>aL (((List.range c).map f).getD j 0)) (fun j hj => ?_)) (gN (by simp))
 rw [CQ f hj]; exact VT.le_refl _
def bP (r c:Nat) (F:Nat→Nat→Int):VT:=bC 3 [(0, .one,one (.int .i64 r)),(1, .one,one (.int .i64 c)),(2, .one,slT .one r (fun i=>bA c (F i)))]
theorem yL (r c:Nat) (F:Nat→Nat→Int):VT.le (bP r c F) (CP r c (tab r c F)):=by
 unfold bP CP yK
 refine eW (fun q hq => ?_)
 rcases List.mem_cons.1 hq with rfl | hq
 ·exact ⟨_,List.mem_cons_self,H⟩
 rcases List.mem_cons.1 hq with rfl | hq
 ·exact ⟨_,List.mem_cons_of_mem _ List.mem_cons_self,H⟩
 rcases List.mem_cons.1 hq with rfl | hq
 ·refine ⟨_,List.mem_cons_of_mem _ (List.mem_cons_of_mem _ List.mem_cons_self),VT.le_trans (dZ (ψ:=fun i=>my ((tab r c F).getD i [])) (fun i hi => ?_)) (gN (by simp))⟩
  rw [A7 F hi]; exact lV _ _
 ·cases hq
theorem lW {r c:Nat} {F G:Nat→Nat→Int} (h : ∀ i j,i<r→j<c→F i j=G i j):VT.le (bP r c F) (bP r c G):=by
 unfold bP
 refine eW (fun q hq => ?_)
 rcases List.mem_cons.1 hq with rfl | hq
 ·exact ⟨_,List.mem_cons_self,H⟩
 rcases List.mem_cons.1 hq with rfl | hq
 ·exact ⟨_,List.mem_cons_of_mem _ List.mem_cons_self,H⟩
 rcases List.mem_cons.1 hq with rfl | hq
 ·refine ⟨_,List.mem_cons_of_mem _ (List.mem_cons_of_mem _ List.mem_cons_self),dZ fun i hi=>dZ fun j hj=>gN (by rw [h i j hi hj])⟩
 ·cases hq
theorem iT:VT.le (one (.agg #[.bool false, .slice none 0 0])) (aL 0):=by
 intro v h e
 have e:v = .agg #[.bool false, .slice none 0 0]:=e
 subst e
 refine ⟨_,rfl,rfl,by simp [Value.oneCell'],fun q hq => ?_⟩
 rcases List.mem_cons.1 hq with rfl | hq
 ·exact ⟨.bool false,rfl,rfl⟩
 ·rcases List.mem_cons.1 hq with rfl | hq
  ·exact ⟨.slice none 0 0,rfl,⟨none,0,rfl,Nat.le_refl _,by decide,fun i hi=>absurd hi (Nat.not_lt_zero _)⟩⟩
  ·cases hq
theorem iU {sv:Option Nat} {T:TypeId} {L:Lay} {cap n:Nat} {φ:Nat→VT} {g:RH} {h:Hp} (hp:(aI sv T L cap n φ).p g h) (he:sv=none):n=0:=by
 obtain ⟨h1,h2,h3,_⟩:=hp;have:=h3 he;omega
theorem sD {bs:List Nat} {i:Nat} (h:i<bs.length):bs[i]? = some (bs.getD i 0):=by simp [List.getD,h]
def gB (sv:Option Nat) (cap r c:Nat) (bs:List Nat):Own:=aI sv 32 .one cap r (fun q=>one (slV (some (bs.getD q 0)) c c))
def fd (c:Nat) (bs:List Nat) (F:Nat→Nat→Int):Own:=dD 37 (.agg 2) c bs (fun q k=>aL (F q k))
theorem fY {c:Nat} {bs:List Nat} {F G:Nat→Nat→Int} (h : ∀ i j,i<bs.length→j<c→F i j=G i j):Own.le (fd c bs F) (fd c bs G):=jy fun i j hi hj=>by rw [h i j hi hj]
abbrev DH (r:Nat) := {s:List Nat × Option Nat × Nat // s.1.length=r∧(s.2.1=none→r=0)}
def mz (r c:Nat) (s:DH r):VT:=bC 3 [(0, .one,one (.int .i64 r)),(1, .one,one (.int .i64 c)),(2, .one,one (slV s.1.2.1 r s.1.2.2))]
theorem gF {r c:Nat} {sv:Option Nat} {cap:Nat} {bs:List Nat} {F:Nat→Nat→Int} {cs:cn} (hb:bs.length=r) (hc:(0,Lay.one,one (.int .i64 r))∈cs∧(1,Lay.one,one (.int .i64 c))∈cs∧(2,Lay.one,one (slV sv r cap))∈cs) :
  qm [gB sv cap r c bs,fd c bs F] cs [(0, .one,one (.int .i64 r)),(1, .one,one (.int .i64 c)),(2, .one,slT .one r (fun i=>bA c (F i)))]:=by
 refine .cons hc.1 (Ent.refl _) (.cons hc.2.1 (Ent.refl _) (.cons hc.2.2 ?_ .nil))
 refine Ent.slE List.mem_cons_self fun q hq => ?_
 exact Ent.row (List.mem_cons_of_mem _ List.mem_cons_self) (sD X)
attribute [local irreducible] J PJ aJ one slT bQ bC bv exT bZ eP aP aI slV VT.le Ret bJ
attribute [local irreducible] dD
theorem kc (r c:Nat) (hr:r≤1048576) (hc:c≤1048576):OkM Tryz.prog 45 [one (.int .i64 r),one (.int .i64 c)] (mz r c) (fun s => [gB s.1.2.1 s.1.2.2 r c s.1.1,fd c s.1.1 (fun _ _=>0)]):=by
 refine OkM.enter Tryz.func45 Y Tryz.ntmps45 Y (fun w O => ?_)
 refine ae (ai ?_)
 refine bj (T:=30) Y Y Y (fun b => ?_)
 refine Ep (aa (ae (ai (nJ (n:=0) Y Y Y Y Y ?_))))
 refine PartsK.nil (fun b => ?_)
 refine En Y (Ep (aa (ae (ae (ai (En Y (Ep (aa (au ?_)))))))))
 rename_i bc
 refine gn (ConvM.rows0 (T:=37) (L := .agg 2) (c:=c) (φ:=fun _ _=>aL 0) _) ?_
 refine cw (σ:=List Nat × Option Nat × Nat) (fun s => [(0,one (.int .i64 r)),(1,one (.int .i64 c)),(4,one (.pointer (some ⟨bc,0,none⟩))),(5,one (slV s.2.1 s.1.length s.2.2)),(6,one (.int .i64 s.1.length))])
  (fun s => [aI s.2.1 32 .one s.2.2 s.1.length (fun q=>one (slV (some (s.1.getD q 0)) c c)),aP bc 30 3 (dk #[Value.int IntKind.i64 0,Value.int IntKind.i64 0,Value.slice none 0 0] [(0,Lay.one),(1,Lay.one),(2,Lay.one)]),fd c s.1 (fun _ _=>0)])
  (fun s=>s.1.length≤r) (fun s=>r - s.1.length) ([],some b,0) (Nat.zero_le _) Ei (.keep (bg (fun q hq=>by omega)) (SubM.refl _)) (fun s hk => ?_)
 obtain ⟨bs,sv0,cap0⟩:=s
 simp only at hk ⊢
 refine ae (ae (ai (Em Y (Em Y (El (a7 Y Y) (Ep (aa ?_)))))))
 refine a5 Y (fun hc => ?_) (fun hc => ?_) <;> simp at hc
 ·refine az (aa (ae (au (ai (Em Y (Em Y ?_))))))
  refine bV c c Y Y Y Y (Nat.le_refl _) Y Y X Y Y (fun bz => ?_)
  refine gm Y Y Y Y ?_
  (refine cW 1 Y Y Y (leN Y) ?_ ?_ Y (ltN Y) (fun sv cap => ?_);omega;omega)
  refine En Y (Ep (aD (aa (ai (Em Y ?_)))))
  (refine El (ci Y Y (aO ?_ ?_)) ?_;omega;omega)
  refine En Y (Ep (fl (ConvM.row (k:=2) Y) (bO (s:=(bs,sv0,cap0)) (bs ++ [bz],sv,cap) (by simp;omega) (by simp;omega) (.cons Y H (.cons Y H (.cons Y H (.cons Y (lM (by simp)) (.cons Y (aq (by simp)) .nil))))) ?_)))
  refine .keep (gY (by simp) (fun q hq => ?_)) (.keep Ek (.keep (nK fun i j hi hj => ?_) .nil))
  ·by_cases h:q<bs.length
   ·rw [if_pos h]; simp [List.getElem?_append_left h]
   ·have:q=bs.length:=by omega
    subst this;rw [if_neg h]; simp
  ·simp only
   split
   ·exact VT.le_refl _
   ·exact iT
 ·have hlen:bs.length=r:=by omega
  subst hlen
  refine ni (i:=0) (F:=sv0=none→bs.length=0) Y (fun g h hp he=>iU hp he) (fun hF => ?_)
  refine aX (av (av (aE (aa (ae (ai (Em Y (Em Y (Em Y ?_)))))))))
  refine stB Y Y Y (BuildK.cons Y Y Y (BuildK.cons Y Y Y (BuildK.cons Y Y Y (BuildK.nil (aY 1 Y Y Y Y (Ep (aa (aF ?_))))))))
  refine ks ⟨(bs,sv0,cap0),rfl,hF⟩ Tryz.results45 (.cellW 1 Y Y H) ?_
  exact .keep Ek (.drop (SubM.refl _))
end Tor
end
section
namespace Tor
open Go Go.RowKit Go.Proofs
def ib (k:IntKind) (l:List Int):VT:=slT .one l.length (fun i=>one (.int k (l.getD i 0)))
theorem fZ {sv:Option Nat} {r:Nat} (h:sv=none→r=0) (hr:0<r) : ∃ b,sv=some b:=by
 cases sv with
 | none => have := h Y; omega
 | some b => exact ⟨b, rfl⟩
theorem o5 (i c j:Nat):((i:Int)*c+j).toNat=i*c+j:=by
 have:((i:Int)*c+j)=((i*c+j:Nat):Int):=by simp
 rw [this,Int.toNat_natCast]
def gq (f:Nat→Int) (c i j:Nat):Nat→Nat→Int:=fun q k=>if q<i∨(q=i∧k<j) then f (q*c+k) else 0
theorem yM {l:List Int} {i:Nat} {p:Int→Prop} (h : ∀ x∈l,p x) (h0:p 0):p (l.getD i 0):=by
 rcases Nat.lt_or_ge i l.length with hi | hi
 ·simp only [List.getD,List.getElem?_eq_getElem hi,Option.getD_some]; exact h _ (List.getElem_mem hi)
 ·simp only [List.getD,List.getElem?_eq_none hi,Option.getD_none]; exact h0
theorem sE {T:TypeId} {c:Nat} {bs:List Nat} {f:Nat→Int} {i j:Nat} (x:Int) (hx:x=f (i*c+j)) :
  Own.le (dD T (.agg 2) c bs (ld (fun q k=>aL (gq f c i j q k)) i j (aL x))) (dD T (.agg 2) c bs (fun q k=>aL (gq f c i (j+1) q k))):=by
 subst hx
 refine jy fun q k hq hk => ?_
 unfold ld gq
 by_cases h:q=i∧k=j
 ·obtain ⟨rfl,rfl⟩:=h;simp
 ·rw [if_neg h]
  have e:(q<i∨q=i∧k<j+1)↔(q<i∨q=i∧k<j):=by omega
  simp only [e]
attribute [local irreducible] J PJ aJ one slT bQ bC bv exT bZ eP aP aI slV VT.le Ret bJ
attribute [local irreducible] aL dD
theorem yN (r c:Nat) (l:List Int) (hr0:r≤1048576) (hc0:c≤1048576) (hl : ∀ x∈l, -9223372036854775808≤x∧x≤9223372036854775807):Ok Tryz.prog 43 [one (.int .i64 r),one (.int .i64 c),ib .i64 l] (bP r c (fun i j=>l.getD (i*c+j) 0)):=by
 unfold ib
 refine Ok.enter Tryz.func43 Y Tryz.ntmps43 Y (fun w O => ?_)
 refine ae (ai ?_)
 refine bj (T:=30) Y Y Y (fun b => ?_)
 refine Ep (aa (ae (ai (Em Y (Em Y ?_)))))
 refine fU (kc r c hr0 hc0) Y ⟨H,H,Er⟩ Y Y (fun s => ?_)
 obtain ⟨⟨bs,sv1,cap1⟩,hlen,hsv⟩:=s
 simp only at hlen hsv
 unfold mz
 refine bj (T:=30) Y Y Y (fun b => ?_)
 refine aY 0 Y Y Y Y (Ep (aa (ae (ae (ai (En Y (Ep (aa (au ?_)))))))))
 rename_i b2
 refine cw (σ:=Nat) (fun i => [(0,one (.int .i64 r)),(1,one (.int .i64 c)),(2,slT .one l.length (fun i=>one (.int .i64 (l.getD i 0)))),(6,one (.pointer (some ⟨b2,0,none⟩))),(7,one (.pointer (some ⟨b,0,none⟩))),(8,one (.int .i64 (i:Nat)))])
  (fun i => [aP b 30 3 [(0, .one,one (.int .i64 r)),(1, .one,one (.int .i64 c)),(2, .one,one (slV sv1 r cap1))],gB sv1 cap1 r c bs,fd c bs (gq (fun n=>l.getD n 0) c i 0),
   aP b2 30 3 (dk #[Value.int IntKind.i64 0,Value.int IntKind.i64 0,Value.slice none 0 0] [(0,Lay.one),(1,Lay.one),(2,Lay.one)])])
  (fun i=>i≤r) (fun i=>r - i) 0 (Nat.zero_le _) Ei (.keep Ek (.keep Ek (.keep (fY fun i j hi hj=>by simp [gq]) (SubM.refl _)))) (fun i hi => ?_)
 refine ae (ae (ai (Em Y (Em Y (El (a7 Y Y) (Ep (aa ?_)))))))
 refine a5 Y (fun hc => ?_) (fun hc => ?_) <;> simp at hc
 ·have hir:i<r:=by omega
  obtain ⟨bo,rfl⟩:=fZ hsv X
  refine az (aa (ae (au (ae (ai (En Y (Ep (aa (au ?_)))))))))
  refine cw (σ:=Nat) (fun j => [(0,one (.int .i64 r)),(1,one (.int .i64 c)),(2,slT .one l.length (fun i=>one (.int .i64 (l.getD i 0)))),(6,one (.pointer (some ⟨b2,0,none⟩))),(7,one (.pointer (some ⟨b,0,none⟩))),(8,one (.int .i64 (i:Nat))),(9,one (.int .i64 (j:Nat)))])
   (fun j => [aP b 30 3 [(0, .one,one (.int .i64 r)),(1, .one,one (.int .i64 c)),(2, .one,one (slV (some bo) r cap1))],gB (some bo) cap1 r c bs,fd c bs (gq (fun n=>l.getD n 0) c i j),
   aP b2 30 3 (dk #[Value.int IntKind.i64 0,Value.int IntKind.i64 0,Value.slice none 0 0] [(0,Lay.one),(1,Lay.one),(2,Lay.one)])])
   (fun j=>j≤c) (fun j=>c - j) 0 (Nat.zero_le _) Ei (SubM.refl _) (fun j hj => ?_)
  have hm:i*c≤1048576*1048576:=Nat.mul_le_mul X hc0
  have hm2:(i:Int)*c≤1099511627776:=by omega
  have hm3:0≤(i:Int)*c:=by have:=Nat.zero_le (i*c);omega
  refine ae (ae ?_)
  refine fJ (σ:=Unit) (fun _ => [(0,one (.int .i64 r)),(1,one (.int .i64 c)),(2,slT .one l.length (fun i=>one (.int .i64 (l.getD i 0)))),(6,one (.pointer (some ⟨b2,0,none⟩))),(7,one (.pointer (some ⟨b,0,none⟩))),(8,one (.int .i64 (i:Nat))),(9,one (.int .i64 (j:Nat))),(30,one (.bool (decide (j<c∧i*c+j<l.length))))])
   (fun _ => [aP b 30 3 [(0, .one,one (.int .i64 r)),(1, .one,one (.int .i64 c)),(2, .one,one (slV (some bo) r cap1))],gB (some bo) cap1 r c bs,fd c bs (gq (fun n=>l.getD n 0) c i j),
   aP b2 30 3 (dk #[Value.int IntKind.i64 0,Value.int IntKind.i64 0,Value.slice none 0 0] [(0,Lay.one),(1,Lay.one),(2,Lay.one)])]) (fun _=>True) ?_ (fun _ _ => ?_)
  ·refine ai (Em Y (Em Y (El (a7 Y Y) (Em Y ?_))))
   refine m6 (t:=21) Y (fun b h1 => ?_)
   rw [h1]
   cases b
   ·simp at h1
    refine sg0 Y Y Y Y (sg0 Y Y Y Y (sg0 Y Y Y Y (sg0 Y Y Y Y (sg0 Y Y Y Y (sg0 Y Y Y Y (sg0 Y Y Y Y (sg0 Y Y Y Y (El (bE Y Y) (Ep ?_)))))))))
    refine cU () trivial (.cons Y H (.cons Y H (.cons Y H (.cons Y H (.cons Y H (.cons Y H (.cons Y H (.cons Y (aq ?_) .nil)))))))) (SubM.refl _)
    congr 1;symm;rw [decide_eq_false_iff_not]; omega
   ·simp at h1
    refine Eo (ab Y) (Eo (ab Y) ?_)
    (refine Eo (mS Y Y (aO ?_ ?_)) ?_;omega;omega)
    refine Eo (ab Y) ?_
    (refine Eo (ci Y Y (aO ?_ ?_)) ?_;omega;omega)
    refine Eo (ab Y) (Eo (aW Y) (Eo (a7 Y Y) (El (bp Y Y) (Ep ?_))))
    refine cU () trivial (.cons Y H (.cons Y H (.cons Y H (.cons Y H (.cons Y H (.cons Y H (.cons Y H (.cons Y (aq ?_) .nil)))))))) (SubM.refl _)
    congr 1;rw [decide_eq_decide]
    have:((i*c:Nat):Int)=(i:Int)*c:=by simp
    omega
  ·refine aa ?_
   refine a5 Y (fun hc2 => ?_) (fun hc2 => ?_) <;> simp only [decide_eq_true_eq,decide_eq_false_iff_not] at hc2
   ·have hm4:((i*c:Nat):Int)=(i:Int)*c:=by simp
    refine az (aa (ae (au (a8 16 a4 Z S (El (aj Y) (El (ak 0 Y Y Y) (Em Y ?_)))))))
    (refine El (ao Y Y ?_) ?_;omega)
    (refine El (be 1 Y Y ?_) ?_;omega)
    refine Em Y (Em Y (Em Y (Em Y ?_)))
    (refine El (mS Y Y (aO ?_ ?_)) ?_;omega;omega)
    refine Em Y ?_
    (refine El (ci Y Y (aO ?_ ?_)) ?_;omega;omega)
    (refine El (aC Y Y ?_) ?_;omega)
    refine El (aM Y) ?_
    have hv:=yM (i:=((i:Int)*c+j).toNat) hl S
    refine El (am (gZ _ hv.1 hv.2) Y ⟨H,Er⟩) ?_
    (refine El (ao Y Y ?_) ?_;omega)
    refine Ep ?_
    (refine iI 2 Y Y Y (sD ?_) ?_ Y ?_;omega;omega)
    refine Ep (aD (aa (ai (Em Y ?_))))
    (refine El (ci Y Y (aO ?_ ?_)) ?_;omega;omega)
    refine En Y (Ep ?_)
    refine bO (s:=j) (j+1) (show _ from by omega) X Ei (.keep Ek (.keep Ek (.keep (sE _ (by rw [o5])) (SubM.refl _))))
   ·refine aX (av (av (aE (aD (aa (ai (Em Y ?_)))))))
    (refine El (ci Y Y (aO ?_ ?_)) ?_;omega;omega)
    refine En Y (Ep ?_)
    refine bO (s:=i) (i+1) (show _ from by omega) X Ei (.keep Ek (.keep Ek (.keep (fY fun q k hq hk => ?_) (SubM.refl _))))
    unfold gq
    by_cases h:q<i∨(q=i∧k<j)
    ·rw [if_pos h,if_pos X]
    ·rw [if_neg h]
     by_cases h2:q=i
     ·subst h2;rw [if_pos X]
      have:l.length≤q*c+k:=by omega
      simp [List.getD,List.getElem?_eq_none this]
     ·rw [if_neg X]
 ·have hin:i=r:=by omega
  subst hin
  refine aX (av (av (aE (aa (ae (ai (El (aQ 0 Y Y) (aY 3 Y Y Y Y (Ep ?_)))))))))
  refine aa (aF ?_)
  have hperm : ∀ (x y z u:Own), [x,y,z,u].Perm ([y,z] ++ [x,u]):=fun x y z u=>(List.Perm.swap y x _).trans (List.Perm.cons y (List.Perm.swap z x _))
  refine fV [gB sv1 cap1 i c bs,fd c bs (gq (fun n=>l.getD n 0) c i 0)] (hperm _ _ _ _) (.keep (wd.refl _) (.keep (wd.box (gF hlen ⟨by simp,by simp,by simp⟩)) .nil)) (we.refl _) ?_
  refine aV Tryz.results43 (.cellW 1 Y Y ?_)
  exact lW fun a b ha hb=>by simp [gq,ha]
end Tor
end
section
namespace Tor
open Go Go.RowKit Go.Proofs
theorem CR (x:Int) : -10<x.tmod 10∧x.tmod 10<10:=⟨by
 have:=Int.tmod_lt_of_pos (-x) (show (0:Int)<10 by decide)
 rw [Int.neg_tmod] at this;omega,Int.tmod_lt_of_pos x S⟩
def dig (l:List Int) (n:Nat):Int:=(l.getD n 0).tmod 10
attribute [local irreducible] J PJ aJ one slT bQ bC bv exT bZ eP aP aI slV VT.le Ret bJ
attribute [local irreducible] aL dD
theorem sG (r c:Nat) (l:List Int) (hr0:r≤16) (hc0:c≤16):OkM Tryz.prog 47 [one (.int .i64 r),one (.int .i64 c),ib .i8 l] (mz r c) (fun s => [gB s.1.2.1 s.1.2.2 r c s.1.1,fd c s.1.1 (fun i j=>dig l (i*c+j))]):=by
 unfold ib
 refine OkM.enter Tryz.func47 Y Tryz.ntmps47 Y (fun w O => ?_)
 refine ae (ai ?_)
 refine bj (T:=30) Y Y Y (fun b => ?_)
 refine Ep (aa (ae (ai (Em Y (El (ph Y Y) (El (xJ Y Y) (Em Y (El (ph Y Y) (El (xJ Y Y) ?_)))))))))
 refine fU (kc r c X X) Y ⟨aq (by congr 1;omega),aq (by congr 1;omega),Er⟩ Y Y (fun s => ?_)
 obtain ⟨⟨bs,sv1,cap1⟩,hlen,hsv⟩:=s
 simp only at hlen hsv
 unfold mz
 refine bj (T:=30) Y Y Y (fun b => ?_)
 refine aY 0 Y Y Y Y (Ep (aa (ae (ae (ai (En Y (Ep (aa (au ?_)))))))))
 rename_i b2
 refine cw (σ:=Nat) (fun i => [(2,slT .one l.length (fun i=>one (.int .i8 (l.getD i 0)))),(6,one (.pointer (some ⟨b2,0,none⟩))),(7,one (.pointer (some ⟨b,0,none⟩))),(8,one (.int .i64 (i:Nat)))])
  (fun i => [aP b 30 3 [(0, .one,one (.int .i64 r)),(1, .one,one (.int .i64 c)),(2, .one,one (slV sv1 r cap1))],gB sv1 cap1 r c bs,fd c bs (gq (dig l) c i 0),
   aP b2 30 3 (dk #[Value.int IntKind.i64 0,Value.int IntKind.i64 0,Value.slice none 0 0] [(0,Lay.one),(1,Lay.one),(2,Lay.one)])])
  (fun i=>i≤r) (fun i=>r - i) 0 (Nat.zero_le _) Ei (.keep Ek (.keep Ek (.keep (fY fun i j hi hj=>by simp [gq]) (SubM.refl _)))) (fun i hi => ?_)
 refine ae (ae (ai (Em Y (El (aj Y) (El (ak 0 Y Y Y) (El (a7 Y Y) (Ep (aa ?_))))))))
 refine a5 Y (fun hc => ?_) (fun hc => ?_) <;> simp at hc
 ·have hir:i<r:=by omega
  obtain ⟨bo,rfl⟩:=fZ hsv X
  refine az (aa (ae (au (ae (ai (En Y (Ep (aa (au ?_)))))))))
  refine cw (σ:=Nat) (fun j => [(2,slT .one l.length (fun i=>one (.int .i8 (l.getD i 0)))),(6,one (.pointer (some ⟨b2,0,none⟩))),(7,one (.pointer (some ⟨b,0,none⟩))),(8,one (.int .i64 (i:Nat))),(9,one (.int .i64 (j:Nat)))])
   (fun j => [aP b 30 3 [(0, .one,one (.int .i64 r)),(1, .one,one (.int .i64 c)),(2, .one,one (slV (some bo) r cap1))],gB (some bo) cap1 r c bs,fd c bs (gq (dig l) c i j),
   aP b2 30 3 (dk #[Value.int IntKind.i64 0,Value.int IntKind.i64 0,Value.slice none 0 0] [(0,Lay.one),(1,Lay.one),(2,Lay.one)])])
   (fun j=>j≤c) (fun j=>c - j) 0 (Nat.zero_le _) Ei (SubM.refl _) (fun j hj => ?_)
  have hm:i*c≤16*16:=Nat.mul_le_mul X hc0
  have hm2:(i:Int)*c≤256:=by omega
  have hm3:0≤(i:Int)*c:=by have:=Nat.zero_le (i*c);omega
  refine ae (ae ?_)
  refine fJ (σ:=Unit) (fun _ => [(2,slT .one l.length (fun i=>one (.int .i8 (l.getD i 0)))),(6,one (.pointer (some ⟨b2,0,none⟩))),(7,one (.pointer (some ⟨b,0,none⟩))),(8,one (.int .i64 (i:Nat))),(9,one (.int .i64 (j:Nat))),(37,one (.bool (decide (j<c∧i*c+j<l.length))))])
   (fun _ => [aP b 30 3 [(0, .one,one (.int .i64 r)),(1, .one,one (.int .i64 c)),(2, .one,one (slV (some bo) r cap1))],gB (some bo) cap1 r c bs,fd c bs (gq (dig l) c i j),
   aP b2 30 3 (dk #[Value.int IntKind.i64 0,Value.int IntKind.i64 0,Value.slice none 0 0] [(0,Lay.one),(1,Lay.one),(2,Lay.one)])]) (fun _=>True) ?_ (fun _ _ => ?_)
  ·refine ai (Em Y (El (aj Y) (El (ak 0 Y Y Y) (El (a7 Y Y) (Em Y ?_)))))
   refine m6 (t:=27) Y (fun b h1 => ?_)
   rw [h1]
   cases b
   ·simp at h1
    refine sg0 Y Y Y Y (sg0 Y Y Y Y (sg0 Y Y Y Y (sg0 Y Y Y Y (sg0 Y Y Y Y (sg0 Y Y Y Y (sg0 Y Y Y Y (sg0 Y Y Y Y (sg0 Y Y Y Y (El (bE Y Y) ?_)))))))))
    refine Ep ?_
    refine cU () trivial (.cons Y H (.cons Y H (.cons Y H (.cons Y H (.cons Y H (.cons Y (aq ?_) .nil)))))) (SubM.refl _)
    congr 1;symm;rw [decide_eq_false_iff_not]; omega
   ·simp at h1
    refine Eo (ab Y) (Eo (aj Y) (Eo (ak 0 Y Y Y) ?_))
    (refine Eo (mS Y Y (aO ?_ ?_)) ?_;omega;omega)
    refine Eo (ab Y) ?_
    (refine Eo (ci Y Y (aO ?_ ?_)) ?_;omega;omega)
    refine Eo (ab Y) (Eo (aW Y) (Eo (a7 Y Y) (El (bp Y Y) (Ep ?_))))
    refine cU () trivial (.cons Y H (.cons Y H (.cons Y H (.cons Y H (.cons Y H (.cons Y (aq ?_) .nil)))))) (SubM.refl _)
    congr 1;rw [decide_eq_decide]
    have:((i*c:Nat):Int)=(i:Int)*c:=by simp
    omega
  ·refine aa ?_
   refine a5 Y (fun hc2 => ?_) (fun hc2 => ?_) <;> simp only [decide_eq_true_eq,decide_eq_false_iff_not] at hc2
   ·have hm4:((i*c:Nat):Int)=(i:Int)*c:=by simp
    refine az (aa (ae (au (a8 19 a4 Z S (El (aj Y) (El (ak 0 Y Y Y) (Em Y ?_)))))))
    (refine El (ao Y Y ?_) ?_;omega)
    (refine El (be 1 Y Y ?_) ?_;omega)
    refine Em Y (Em Y (Em Y (El (aj Y) (El (ak 0 Y Y Y) ?_))))
    (refine El (mS Y Y (aO ?_ ?_)) ?_;omega;omega)
    refine Em Y ?_
    (refine El (ci Y Y (aO ?_ ?_)) ?_;omega;omega)
    (refine El (aC Y Y ?_) ?_;omega)
    refine El (aM Y) (El (B7 Y Y S Y) ?_)
    have hv:=CR (l.getD (i*c+j) 0)
    refine El (dG Y ?_ ?_) ?_; · omega
    ·omega
    refine El (am (gZ _ X X) Y ⟨H,Er⟩) ?_
    (refine El (ao Y Y ?_) ?_;omega)
    refine Ep ?_
    (refine iI 2 Y Y Y (sD ?_) ?_ Y ?_;omega;omega)
    refine Ep (aD (aa (ai (Em Y ?_))))
    (refine El (ci Y Y (aO ?_ ?_)) ?_;omega;omega)
    refine En Y (Ep ?_)
    refine bO (s:=j) (j+1) (show _ from by omega) X Ei (.keep Ek (.keep Ek (.keep (sE _ Y) (SubM.refl _))))
   ·refine aX (av (av (aE (aD (aa (ai (Em Y ?_)))))))
    (refine El (ci Y Y (aO ?_ ?_)) ?_;omega;omega)
    refine En Y (Ep ?_)
    refine bO (s:=i) (i+1) (show _ from by omega) X Ei (.keep Ek (.keep Ek (.keep (fY fun q k hq hk => ?_) (SubM.refl _))))
    unfold gq
    by_cases h:q<i∨(q=i∧k<j)
    ·rw [if_pos h,if_pos X]
    ·rw [if_neg h]
     by_cases h2:q=i
     ·subst h2;rw [if_pos X]
      have:l.length≤q*c+k:=by omega
      simp [dig,List.getD,List.getElem?_eq_none this]
     ·rw [if_neg X]
 ·have hin:i=r:=by omega
  subst hin
  refine aX (av (av (aE (aa (ae (ai (El (aQ 0 Y Y) (aY 3 Y Y Y Y (Ep ?_)))))))))
  refine aa (aF ?_)
  refine ks ⟨(bs,sv1,cap1),hlen,hsv⟩ Tryz.results47 (.cellW 3 Y Y ?_) ?_
  ·show VT.le _ (mz i c _)
   unfold mz
   exact VT.le_refl _
  ·refine .drop (.keep Ek (.keep (fY fun a b ha hb => ?_) (.drop .nil)))
   have:a<i:=by have:a<bs.length:=ha;omega
   simp [gq,this]
theorem sH {r c:Nat} (F:Nat→Nat→Int) (s:DH r):Ent [gB s.1.2.1 s.1.2.2 r c s.1.1,fd c s.1.1 F] (mz r c s) (bP r c F):=by
 unfold mz bP
 exact Ent.agg (gF s.2.1 ⟨by simp,by simp,by simp⟩)
theorem ot (r c:Nat) (l:List Int) (hr0:r≤16) (hc0:c≤16):Ok Tryz.prog 47 [one (.int .i64 r),one (.int .i64 c),ib .i8 l] (bP r c (fun i j=>dig l (i*c+j))) :=
 (sG r c l hr0 hc0).ok fun s=>sH _ s
end Tor
end
section
namespace Tor
open Go Go.RowKit Go.Proofs
instance {neg:Bool} {l:List Nat} : Flat (kG neg l) (.agg 2):=by unfold kG;infer_instance
theorem t9 {neg:Bool} {l:List Nat} {v:Value} {h:Hp} (Ef:(kG neg l).p v h):l.length≤281474976710656:=by
 obtain ⟨c,_,_,_,h4⟩:=Ef
 obtain ⟨x,_,hp⟩:=h4 _ (List.mem_cons_of_mem _ List.mem_cons_self)
 exact eE hp
theorem o6 {r c:Int} {a:List t8} {v:Value} {h:Hp} (Ef:(lU r c a).p v h):a.length≤2^48:=by
 obtain ⟨c,_,_,_,h4⟩:=Ef
 obtain ⟨x,_,hp⟩:=h4 _ (List.mem_cons_of_mem _ (List.mem_cons_of_mem _ List.mem_cons_self))
 exact eE hp
def ou (r c:Nat) (F:Nat→Nat→Int):List t8:=(tab r c F).map (·.map jG)
theorem yP (r c:Nat) (F:Nat→Nat→Int):VT.le (bP r c F) (lU r c (ou r c F)):=by
 refine VT.le_trans (yL r c F) ?_
 unfold CP lU
 refine eW (fun q hq => ?_)
 rcases List.mem_cons.1 hq with rfl | hq
 ·exact ⟨_,List.mem_cons_self,H⟩
 rcases List.mem_cons.1 hq with rfl | hq
 ·exact ⟨_,List.mem_cons_of_mem _ List.mem_cons_self,H⟩
 rcases List.mem_cons.1 hq with rfl | hq
 ·refine ⟨_,List.mem_cons_of_mem _ (List.mem_cons_of_mem _ List.mem_cons_self),?_⟩
  unfold yK ez ou
  refine VT.le_trans (dZ (ψ:=fun i=>ef (((tab r c F).map (·.map jG)).getD i [])) (fun i hi => ?_)) (gN (by simp))
  refine VT.le_trans (sC _) (gN ?_)
  simp [List.getD,List.getElem?_eq_getElem hi]
 ·cases hq
theorem ub (r c:Nat) (F:Nat→Nat→Int):ja r c (ou r c F)=true:=by
 unfold ja ou
 simp only [List.length_map,tab_length,Bool.and_eq_true,decide_eq_true_eq,List.all_map]
 refine ⟨⟨by omega,by omega,Er⟩,?_⟩
 rw [List.all_eq_true]
 intro x hx
 simp only [tab,List.mem_map,List.mem_range] at hx
 obtain ⟨i,hi,rfl⟩:=hx
 simp only [jH,Function.comp,List.length_map,List.length_range,List.all_map,Bool.and_eq_true,decide_eq_true_eq]
 refine ⟨trivial,?_⟩
 rw [List.all_eq_true]
 intro y hy
 exact oq _
attribute [local irreducible] J PJ aJ one slT bQ bC bv exT bZ eP aP aI slV VT.le Ret bJ
theorem yQ (neg:Bool) (l:List Nat):Ok Tryz.prog 124 [kG neg l] (one (.bool (fx neg l))):=by
 refine Ok.enter Tryz.func124 Y Tryz.ntmps124 Y (fun w O => ?_)
 refine iy (t:=0) Y (fun _ _=>t9) (fun hl => ?_)
 unfold kG
 by_cases h0:l.length=0
 ·refine ae (ai ?_)
  refine aS Y Y (ltN Y) (fun b => ?_)
  refine En Y (Ep (aa (ae (ae (ai (El (aj Y) (El (ak 0 Y Y Y) (El (aW Y) (En Y ?_)))))))))
  refine Ep (aa (ae (ai (Em Y (El (db Y Y) (Ep (aa ?_)))))))
  refine a5 Y (fun hc => ?_) (fun hc => ?_) <;> simp only [decide_eq_true_eq,decide_eq_false_iff_not,ne_eq,Decidable.not_not] at hc
  ·omega
  ·refine az (aa (ae (ai (El (aj Y) (El (ak 0 Y Y Y) (El (cR Y) (En Y (Ep (aa ?_)))))))))
   refine aF ?_
   exact aV Tryz.results124 (.tmp Y (aq (by unfold fx;rw [if_pos h0])))
 ·refine ae (ai ?_)
  refine aS Y Y (ltN Y) (fun b => ?_)
  refine En Y (Ep (aa (ae (ae (ai (El (aj Y) (El (ak 0 Y Y Y) (El (aW Y) (En Y ?_)))))))))
  refine Ep (aa (ae (ai (Em Y (El (db Y Y) (Ep (aa ?_)))))))
  refine a5 Y (fun hc => ?_) (fun hc => ?_) <;> simp only [decide_eq_true_eq,decide_eq_false_iff_not,ne_eq,Decidable.not_not] at hc
  ·refine ae (ai (El (aj Y) (El (ak 0 Y Y Y) (Em Y ?_))))
   (refine El (eo Y Y (aO ?_ ?_)) ?_;omega;omega)
   (refine El (f9 Y Y ?_ ?_) ?_;omega;omega)
   refine El (aM Y) (El (dy Y Y) (En Y (Ep (aa (aF (aU ?_))))))
   refine aV Tryz.results124 (.tmp Y (aq ?_))
   have e:(↑l.length - 1:Int).toNat=l.length - 1:=by omega
   unfold fx;rw [if_neg h0,e]; congr 1;rw [decide_eq_decide]; omega
  ·omega
attribute [local irreducible] aL kG
attribute [local irreducible] ef
theorem sI (r c:Int) (a:List t8):Ok Tryz.prog 77 [lU r c a] (one (.bool (ja r c a))):=by
 refine Ok.enter Tryz.func77 Y Tryz.ntmps77 Y (fun w O => ?_)
 refine iy (t:=0) Y (fun _ _=>o6) (fun ha => ?_)
 unfold lU
 unfold ez
 refine ae (ai ?_)
 refine aS Y Y (ltN Y) (fun b => ?_)
 refine En Y (Ep (aa (ae (ae (ai (El (aj Y) (El (ak 0 Y Y Y) (El (a7 Y Y) (Em Y ?_)))))))))
 refine m6 (t:=10) Y (fun bo hb => ?_)
 rw [hb]
 cases bo
 ·have e1:0≤r:=by simpa using hb
  refine Eo (aj Y) (Eo (ak 0 Y Y Y) (Eo (a7 Y Y) (El (bE Y Y) (Em Y ?_))))
  refine m6 (t:=15) Y (fun bo hb2 => ?_)
  rw [hb2]
  cases bo
  ·have e2:0≤c:=by simpa using hb2
   refine Eo (aj Y) (Eo (ak 0 Y Y Y) (Eo (aW Y) (Eo (aj Y) (Eo (ak 0 Y Y Y) (Eo (dy Y Y) (El (bE Y Y) (Ep (aa ?_))))))))
   refine a5 Y (fun hc => ?_) (fun hc => ?_) <;> simp only [decide_eq_true_eq,decide_eq_false_iff_not,ne_eq,Decidable.not_not] at hc
   ·refine ae (ai (En Y (Ep (aa (aF (aU ?_))))))
    refine aV Tryz.results77 (.tmp Y (aq ?_))
    simp [ja,hc]
   ·have e3:(a.length:Int)=r:=hc
    refine az (aa (ae (ae (ai (El (aj Y) (El (ak 0 Y Y Y) (El (aW Y) (Em Y (Ep ?_)))))))))
    refine aa (au ?_)
    refine cw (σ:=Nat) (fun i => [(1,one (.pointer (some ⟨b,0,none⟩))),(24,ez a),(25,one (.int .i64 a.length)),(26,one (.int .i64 (i:Nat)))])
     (fun _ => [aP b 30 3 [(0, .one,one (.int .i64 r)),(1, .one,one (.int .i64 c)),(2, .one,ez a)]])
     (fun i=>i≤a.length∧(a.take i).all (jH c)=true) (fun i=>a.length - i) 0 ⟨Nat.zero_le _,rfl⟩ Ei (SubM.refl _) (fun i ⟨hi,ht⟩ => ?_)
    unfold ez
    refine ae (ai (El (a7 Y Y) (Ep (aa (ae ?_)))))
    refine a5 Y (fun hc => ?_) (fun hc => ?_) <;> simp at hc
    ·refine az (aa (ae (au (ae (ai ?_)))))
     (refine El (aC Y Y ?_) ?_;omega)
     refine El (aM Y) (En Y (Ep (aa (ae (ae (ai (Em Y ?_)))))))
     unfold ef
     refine El (aW Y) (El (aj Y) (El (ak 0 Y Y Y) (El (dy Y Y) (Ep (aa ?_)))))
     refine a5 Y (fun hc2 => ?_) (fun hc2 => ?_) <;> simp only [decide_eq_true_eq,decide_eq_false_iff_not,ne_eq,Decidable.not_not] at hc2
     ·refine ae (ai (En Y (Ep (aa (aF (aU (bK (aU (aU ?_)))))))))
      refine bK (aU ?_)
      refine aV Tryz.results77 (.tmp Y (aq ?_))
      have:=qZ (p:=jH c) (d := []) hc (by simp only [jH,Bool.and_eq_false_iff]; left;simpa using hc2)
      simp [ja,this]
     ·refine iy (t:=29) Y (fun _ _=>eE) (fun hlb => ?_)
      refine az (aa (ae (ai (Em Y (El (aW Y) (Em Y (Ep (aa (au ?_)))))))))
      refine cw (σ:=Nat) (fun j => [(1,one (.pointer (some ⟨b,0,none⟩))),(24,ez a),(25,one (.int .i64 a.length)),(26,one (.int .i64 (i:Nat))),(35,ef (a.getD i [])),(36,one (.int .i64 (a.getD i []).length)),(37,one (.int .i64 (j:Nat)))])
       (fun _ => [aP b 30 3 [(0, .one,one (.int .i64 r)),(1, .one,one (.int .i64 c)),(2, .one,ez a)]])
       (fun j=>j≤(a.getD i []).length∧((a.getD i []).take j).all (fun p=>fx p.1 p.2)=true) (fun j=>(a.getD i []).length - j) 0 ⟨Nat.zero_le _,rfl⟩ (by unfold ez ef;repeat (first | exact dJ.nil | refine dJ.cons Y H ?_ | (refine dJ.cons Y (aq ?_) ?_;(congr 1;first | omega | (simp;omega) | simp)))) (by unfold ez ef;exact SubM.refl _) (fun j ⟨hj,hu⟩ => ?_)
      unfold ez ef
      refine ae (ai (El (a7 Y Y) (Ep (aa (ae ?_)))))
      refine a5 Y (fun hc3 => ?_) (fun hc3 => ?_) <;> simp only [decide_eq_true_eq,decide_eq_false_iff_not,Int.ofNat_lt] at hc3
      ·refine az (aa (ae (au (ae (ai ?_)))))
       (refine El (aC Y Y ?_) ?_;omega)
       refine El (aM Y) ?_
       refine aG (T:=37) Y (ltN Y) (fun b => ?_)
       refine aA 0 Y Y Y Y Y (leN Y) Y (Ep (aa (ae (ai (El (ak 0 Y Y Y) ?_)))))
       refine El (am (yQ ((a.getD i []).getD j (false, [])).1 ((a.getD i []).getD j (false, [])).2) Y ⟨H,Er⟩) ?_
       refine El (cR Y) (Ep (aa ?_))
       refine a5 Y (fun hc4 => ?_) (fun hc4 => ?_)
       ·refine ae (ai (En Y (Ep (aa (aF (bK (aU (aU (bK ?_)))))))))
        refine bK (aU (aU (bK (aU ?_))))
        refine aV Tryz.results77 (.tmp Y (aq ?_))
        have h1:=qZ (p:=fun p:Bool × List Nat=>fx p.1 p.2) (d:=(false, [])) (v:=a.getD i []) hc3 (by simpa using hc4)
        have h2:=qZ (p:=jH c) (d := []) hc (by simp only [jH,Bool.and_eq_false_iff]; right;exact h1)
        simp [ja,h2]
       ·refine az (aD (aa (ai ?_)))
        (refine El (ci Y Y (aO ?_ ?_)) ?_;omega;omega)
        refine Em Y (Ep ?_)
        exact bO (s:=j) (j+1) ⟨by omega,qY (d:=(false, [])) hu hc3 (by simpa using hc4)⟩ (by show (a.getD i []).length - (j+1)<(a.getD i []).length - j;omega) Ei (.drop (SubM.refl _))
      ·refine aX (av (av (aE (aD (aa (ai ?_))))))
       (refine El (ci Y Y (aO ?_ ?_)) ?_;omega;omega)
       refine Em Y (Ep ?_)
       rw [List.take_of_length_le X] at hu
       exact bO (s:=i) (i+1) ⟨by omega,qY (d := []) ht hc (by simp only [jH,Bool.and_eq_true]; exact ⟨by simpa using hc2,hu⟩)⟩ (by show a.length - (i+1)<a.length - i;omega) Ei (SubM.refl _)
    ·refine aX (av (av (aE (aa (ae (ai (En Y (Ep (aa ?_)))))))))
     refine aF ?_
     refine aV Tryz.results77 (.tmp Y (aq ?_))
     rw [List.take_of_length_le X] at ht
     simp [ja,ht,e1,e2,e3]
  ·have e2 : ¬ (0≤r∧0≤c):=by simp at hb2;omega
   refine sg0 Y Y Y Y (sg0 Y Y Y Y (sg0 Y Y Y Y (sg0 Y Y Y Y (sg0 Y Y Y Y (sg0 Y Y Y Y (El (bp Y Y) (Ep (aa ?_))))))))
   refine a5 Y (fun hc => ?_) (fun hc => ?_)
   ·refine ae (ai (En Y (Ep (aa (aF (aU ?_))))))
    refine aV Tryz.results77 (.tmp Y (aq ?_))
    simp only [ja]; rw [decide_eq_false X]; rfl
   ·cases hc
 ·have e1 : ¬ 0≤r:=by simpa using hb
  refine sg0 Y Y Y Y (sg0 Y Y Y Y (sg0 Y Y Y Y (El (bp Y Y) (Em Y (sg0 Y Y Y Y (sg0 Y Y Y Y (sg0 Y Y Y Y (sg0 Y Y Y Y (sg0 Y Y Y Y ?_)))))))))
  refine sg0 Y Y Y Y (El (bp Y Y) (Ep (aa ?_)))
  refine a5 Y (fun hc => ?_) (fun hc => ?_)
  ·refine ae (ai (En Y (Ep (aa (aF (aU ?_))))))
   refine aV Tryz.results77 (.tmp Y (aq ?_))
   simp [ja,e1]
  ·cases hc
end Tor
end
section
namespace Tor
open Go Go.RowKit Go.Proofs
def vD (φ ψ:VT):VT:=slT (.agg 3) 2 (fun i=>if i=0 then φ else ψ)
theorem sJ {φ ψ:VT} : VT.le (slT (.agg 3) 2 (fun q => [φ, ψ].getD q bJ)) (vD φ ψ):=by
 unfold vD
 refine dZ fun i hi => ?_
 rcases i with _ | _ | i
 ·exact VT.le_refl _
 ·exact VT.le_refl _
 ·omega
instance {r c:Nat} {F:Nat→Nat→Int} : Flat (bP r c F) (.agg 3):=by unfold bP;infer_instance
attribute [local irreducible] J PJ aJ one slT bQ bC bv exT bZ eP aP aI slV VT.le Ret bJ
attribute [local irreducible] aL bP
theorem fz (r c:Nat) (F:Nat→Nat→Int):Ok Tryz.prog 77 [bP r c F] (one (.bool true)):=by
 have h:=sI r c (ou r c F)
 rw [ub] at h
 exact h.le ⟨yP r c F,Er⟩ H
theorem pP (ra ca:Nat) (F:Nat→Nat→Int) (rb cb:Nat) (G:Nat→Nat→Int):Ok Tryz.prog 82 [vD (bP ra ca F) (bP rb cb G)] (one (.bool true)):=by
 unfold vD
 refine Ok.enter Tryz.func82 Y Tryz.ntmps82 Y (fun w O => ?_)
 refine ae (ai (En Y (Ep (aa (ae (ae (ai (Em Y (El (aW Y) ?_)))))))))
 refine Em Y (Ep (aa (au ?_)))
 refine cw (σ:=Nat) (fun i => [(5,slT (.agg 3) 2 (fun i=>if i=0 then bP ra ca F else bP rb cb G)),(6,one (.int .i64 (2:Nat))),(7,one (.int .i64 (i:Nat)))]) (fun _ => []) (fun i=>i≤2) (fun i=>2 - i) 0 (Nat.zero_le _) Ei (SubM.refl _) (fun i hi => ?_)
 refine ae (ai (El (a7 Y Y) (Ep (aa (ae ?_)))))
 refine a5 Y (fun hc => ?_) (fun hc => ?_) <;> simp only [decide_eq_true_eq,decide_eq_false_iff_not,ne_eq,Decidable.not_not] at hc
 ·have h2:i<2:=by omega
  have hF:Flat (if i=0 then bP ra ca F else bP rb cb G) (.agg 3):=by split <;> infer_instance
  refine az (aa (ae (au (ae (ai ?_)))))
  (refine El (aC Y Y ?_) ?_;omega)
  refine El (aM Y) ?_
  refine bj (T:=30) Y Y Y (fun b => ?_)
  refine lh 0 Y Y Y Y (Ep (aa (ae (ai (El (ak 0 Y Y Y) ?_)))))
  have hcall:Ok Tryz.prog 77 [if i=0 then bP ra ca F else bP rb cb G] (one (.bool true)):=by
   split
   ·exact fz _ _ _
   ·exact fz _ _ _
  refine El (am hcall Y ⟨H,Er⟩) ?_
  refine El (cR Y) (Ep (aa ?_))
  refine a5 Y (fun hc2 => ?_) (fun hc2 => ?_)
  ·cases hc2
  ·refine az (aD (aa (ai ?_)))
   (refine El (ci Y Y (aO ?_ ?_)) ?_;omega;omega)
   refine Em Y (Ep ?_)
   exact bO (s:=i) (i+1) (show _ from by omega) (by show 2 - (i+1)<2 - i;omega) Ei (.drop .nil)
 ·refine aX (av (av (aE (aa (ae (ai (En Y (Ep (aa ?_)))))))))
  refine aF ?_
  exact aV Tryz.results82 (.tmp Y H)
end Tor
end
section
namespace Tor
open Go Go.RowKit Go.Proofs
attribute [local irreducible] J PJ aJ one slT bQ bC bv exT bZ eP aP aI slV VT.le Ret bJ
theorem yR (x:Int) (hx:bm x):Ok Tryz.prog 129 [aL x] (aL x):=by
 unfold aL
 refine Ok.enter Tryz.func129 Y Tryz.ntmps129 Y (fun w O => ?_)
 refine ae (ai ?_)
 refine aS Y Y (ltN Y) (fun b => ?_)
 refine aG (T:=37) Y (ltN Y) (fun b => ?_)
 refine Ep (aa (ae (a8 6 a4 Z S (El (aj Y) (El (ak 1 Y Y Y) (El (aj Y) (El (ak 1 Y Y Y) ?_)))))))
 refine El (am (jF _ hx) Y ⟨H,Er⟩) ?_
 refine stB Y Y Y (BuildK.cons Y Y Y (BuildK.cons Y Y Y (BuildK.nil (Ep (aA 0 Y Y Y Y Y (leN Y) Y (Ep (aa (aF ?_))))))))
 refine aV Tryz.results129 (.cellB 0 Y Y Y H)
attribute [local irreducible] aL
theorem pQ (n m:Nat) (f g:Nat→Int) (hn:n≤1048576) (hm:m≤1048576) (hf : ∀ i,bm (f i)) (hg : ∀ i,bm (g i)):Ok Tryz.prog 83 [bA n f,bA m g] (bA (n+m) (fun k=>if k<n then f k else g (k - n))):=by
 unfold bA
 refine Ok.enter Tryz.func83 Y Tryz.ntmps83 Y (fun w O => ?_)
 refine ae (ai (En Y (Ep (aa (ae (ai (Em Y (El (aW Y) (Em Y ?_)))))))))
 refine El (aW Y) ?_
 (refine El (ci Y Y (aO ?_ ?_)) ?_;omega;omega)
 refine bV 0 (n+m) Y Y Y (by simp) (Nat.zero_le _) Y Y X Y Y (fun bz => ?_)
 refine En Y (Ep (aa (ae (ae (ai (Em Y (El (aW Y) (Em Y (Ep ?_)))))))))
 refine aa (au ?_)
 refine cw (σ:=Nat × Option Nat × Nat) (fun s => [(1,slT (.agg 2) m (fun j=>aL (g j))),(5,one (slV s.2.1 s.1 s.2.2)),(16,slT (.agg 2) n (fun j=>aL (f j))),(17,one (.int .i64 n)),(18,one (.int .i64 (s.1:Nat)))])
  (fun s => [aI s.2.1 37 (.agg 2) s.2.2 s.1 (fun q=>aL (f q))]) (fun s=>s.1≤n) (fun s=>n - s.1) (0,some bz,n+m) (Nat.zero_le _) Ei (.keep (bg fun q hq=>by omega) .nil) (fun s hs => ?_)
 obtain ⟨k,sv0,cap0⟩:=s
 simp only at hs ⊢
 refine ae (ai (El (a7 Y Y) (Ep (aa (ae ?_)))))
 refine a5 Y (fun hc => ?_) (fun hc => ?_) <;> simp only [decide_eq_true_eq,decide_eq_false_iff_not,ne_eq,Decidable.not_not] at hc
 ·refine az (aa (ae (au (ae (ai ?_)))))
  (refine El (aC Y Y ?_) ?_;omega)
  refine El (aM Y) ?_
  refine aG (T:=37) Y (ltN Y) (fun b => ?_)
  refine aA 0 Y Y Y Y Y (leN Y) Y (Ep (aa (ai (Em Y (El (ak 0 Y Y Y) ?_)))))
  refine El (am (yR (f k) (hf k)) Y ⟨H,Er⟩) ?_
  refine gm Y Y Y Y ?_
  (refine cW 1 Y Y Y (leN Y) ?_ ?_ Y (ltN Y) (fun sv cap => ?_);omega;omega)
  refine En Y (Ep (aD (aa (ai ?_))))
  (refine El (ci Y Y (aO ?_ ?_)) ?_;omega;omega)
  refine Em Y (Ep ?_)
  refine bO (s:=(k,sv0,cap0)) (k+1,sv,cap) (show _ from by simp only;omega) (by show n - (k+1)<n - k;omega) Ei (.drop (.keep (bg fun q hq => ?_) .nil))
  by_cases h:q<k
  ·rw [if_pos h]
  ·have:q=k:=by omega
   subst this;rw [if_neg h]
 ·have hk:k=n:=by omega
  subst hk
  refine aX (av (av (aE (aa (ae (ae (ai (Em Y (El (aW Y) ?_)))))))))
  refine Em Y (Ep (aa (au ?_)))
  refine cw (σ:=Nat × Option Nat × Nat) (fun s => [(5,one (slV s.2.1 (k+s.1) s.2.2)),(28,slT (.agg 2) m (fun j=>aL (g j))),(29,one (.int .i64 m)),(30,one (.int .i64 (s.1:Nat)))])
   (fun s => [aI s.2.1 37 (.agg 2) s.2.2 (k+s.1) (fun q=>aL (if q<k then f q else g (q - k)))]) (fun s=>s.1≤m) (fun s=>m - s.1) (0,sv0,cap0) (Nat.zero_le _) Ei (.keep (bg fun q hq=>by rw [if_pos hq]) .nil) (fun s hs => ?_)
  obtain ⟨j,sv1,cap1⟩:=s
  simp only at hs ⊢
  refine ae (ai (El (a7 Y Y) (Ep (aa (ae ?_)))))
  refine a5 Y (fun hc2 => ?_) (fun hc2 => ?_) <;> simp only [decide_eq_true_eq,decide_eq_false_iff_not] at hc2
  ·refine az (aa (ae (au (ae (ai ?_)))))
   (refine El (aC Y Y ?_) ?_;omega)
   refine El (aM Y) ?_
   refine aG (T:=37) Y (ltN Y) (fun b => ?_)
   refine aA 0 Y Y Y Y Y (leN Y) Y (Ep (aa (ai (Em Y (El (ak 0 Y Y Y) ?_)))))
   refine El (am (yR (g j) (hg j)) Y ⟨H,Er⟩) ?_
   refine gm Y Y Y Y ?_
   (refine cW 1 Y Y Y (leN Y) ?_ ?_ Y (ltN Y) (fun sv cap => ?_);omega;omega)
   refine En Y (Ep (aD (aa (ai ?_))))
   (refine El (ci Y Y (aO ?_ ?_)) ?_;omega;omega)
   refine Em Y (Ep ?_)
   refine bO (s:=(j,sv1,cap1)) (j+1,sv,cap) (show _ from by simp only;omega) (by show m - (j+1)<m - j;omega) Ei (.drop (.keep (bg fun q hq => ?_) .nil))
   by_cases h:q<k+j
   ·rw [if_pos h]
   ·have:q=k+j:=by omega
    subst this;rw [if_neg h,if_neg X]; simp
  ·have hk:j=m:=by omega
   subst hk
   refine aX (av (av (aE (aa (ae (ai (Em Y (En Y (Ep ?_)))))))))
   refine aa (aF (cq (t:=4) (i:=0) Y Y ?_))
   refine aV Tryz.results83 (.tmp Y H)
end Tor
end
