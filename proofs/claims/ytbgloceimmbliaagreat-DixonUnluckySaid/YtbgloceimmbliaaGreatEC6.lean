/-
  Theorems that the proofs of laws of this seat rest on.
  No condition.
-/
import Derived.Test.YtbgloceimmbliaaGreatEC5
import Init
set_option maxHeartbeats 20000000
set_option linter.unusedVariables false
set_option linter.unusedSimpArgs false
section
namespace Tor
open Go Go.RowKit Go.Proofs
def dE (n d:Int):VT:=bC 4 [(0, .agg 2,aL n),(2, .agg 2,aL d)]
def cB (q:Rat):VT:=dE q.num q.den
theorem iQ {n n' d d':Int} (h:n=n') (h':d=d'):VT.le (bC 4 [(0, .agg 2,aL n),(2, .agg 2,aL d)]) (dE n' d'):=h▸h'▸VT.le_refl _
instance {n d:Int} : Flat (dE n d) (.agg 4):=by unfold dE;infer_instance
instance {q:Rat} : Flat (cB q) (.agg 4):=by unfold cB;infer_instance
theorem q7 {n d:Int} (h:0<d):n / ((Nat.gcd n.natAbs d.natAbs:Nat):Int)=(Rat.divInt n d).num∧d / ((Nat.gcd n.natAbs d.natAbs:Nat):Int)=((Rat.divInt n d).den:Int):=by
 have e:Int.gcd d n=Nat.gcd n.natAbs d.natAbs:=Nat.gcd_comm _ _
 rw [Rat.num_divInt,Rat.den_divInt,if_neg X,e,Int.sign_eq_one_of_pos h,Int.one_mul]
 refine ⟨rfl,?_⟩
 rw [Int.natCast_ediv,Int.natAbs_of_nonneg (Int.le_of_lt h)]
theorem vK {n d:Int} (h:d<0):n / -((Nat.gcd n.natAbs d.natAbs:Nat):Int)=(Rat.divInt n d).num∧d / -((Nat.gcd n.natAbs d.natAbs:Nat):Int)=((Rat.divInt n d).den:Int):=by
 have e:Int.gcd d n=Nat.gcd n.natAbs d.natAbs:=Nat.gcd_comm _ _
 have h1:((Nat.gcd n.natAbs d.natAbs:Nat):Int)∣n:=Int.gcd_dvd_left ..
 have h2:((Nat.gcd n.natAbs d.natAbs:Nat):Int)∣d:=Int.gcd_dvd_right ..
 rw [Rat.num_divInt,Rat.den_divInt,if_neg X,e,Int.sign_eq_neg_one_of_neg h,Int.ediv_neg,Int.ediv_neg]
 refine ⟨?_,?_⟩
 ·rw [Int.neg_mul,Int.one_mul,Int.neg_ediv_of_dvd h1]
 ·rw [Int.natCast_ediv, ← Int.neg_ediv_of_dvd h2]; congr 1;omega
theorem wT {n d:Int} (h:d≠0) (hs:bm d):bm ((Nat.gcd n.natAbs d.natAbs:Nat):Int):=by
 have h1:Nat.gcd n.natAbs d.natAbs≤d.natAbs:=Nat.le_of_dvd X (Nat.gcd_dvd_right _ _)
 unfold bm at *
 rw [Int.natAbs_natCast]
 exact Nat.le_trans (cf h1) hs
theorem t8 {n d:Int} (h:d≠0):((Nat.gcd n.natAbs d.natAbs:Nat):Int)≠0:=by
 have:=Nat.gcd_pos_of_pos_right n.natAbs (show 0<d.natAbs by omega)
 omega
theorem ss:VT.le (one (.agg #[.bool false, .slice none 0 0])) (aL 0):=by
 intro v h e
 have e:v = .agg #[.bool false, .slice none 0 0]:=e
 subst e
 exact iN _ _ ⟨_,rfl,rfl,by simp [Value.oneCell'],fun q hq=>by
  rcases List.mem_cons.1 hq with rfl | hq
  ·exact ⟨_,rfl,rfl⟩
  ·rcases List.mem_cons.1 hq with rfl | hq
   ·exact ⟨_,rfl,rfl⟩
   ·cases hq⟩
theorem t9:VT.le (bC 4 (dX #[Value.bool false,Value.slice none 0 0,Value.bool false,Value.slice none 0 0] [(0,Lay.agg 2),(2,Lay.agg 2)])) (bC 4 [(0, .agg 2,aL 0),(2, .agg 2,aL 0)]):=fj (fun q hq=>by
 rcases List.mem_cons.1 hq with rfl | hq
 ·exact ⟨_,List.mem_cons_self,ss⟩
 ·rcases List.mem_cons.1 hq with rfl | hq
  ·exact ⟨_,List.mem_cons_of_mem _ List.mem_cons_self,ss⟩
  ·cases hq)
attribute [local irreducible] J PJ aK one slT bR bC bv exT cj eP aT aI slV VT.le Ret bL
theorem su:Ok Tryz.prog 101 [aL 0] (bv [aL 0,one (.int .i64 0)]):=by
 have hsi:=dc 0
 rw [show c9 0=0 from rfl] at hsi
 refine Ok.enter Tryz.func101 Y Tryz.ntmps101 Y (fun w O => ?_)
 refine ae (ai ?_)
 refine aV Y Y (ltN Y) (fun b1 => ?_)
 refine aH (T:=37) Y (ltN Y) (fun b2 => ?_)
 refine En Y (Ep (aa (ae (ae (ai (El (aN 1 Y Y) ?_))))))
 refine El (am (hsi) Y ⟨H,Er⟩) ?_
 refine Ep (aa (au (ae (ai (El (sF X (cg Y Y)) (En Y (Ep (aa (aB Y ?_)))))))))
 refine ae (ai (El (sT X (cg Y Y)) (En Y (Ep (aa (aG Y (ae (ai (stB Y Y Y ?_)))))))))
 refine BuildK.nil (aA 0 Y Y Y Y Y (leN Y) Y (En Y (Ep (aa (aD (bI (aR ?_)))))))
 refine dg Tryz.results101 (.cellB 0 Y Y Y (iN)) (.tmp Y H)
theorem wU (n d:Int) (hd:d≠0) (hn:bm n) (hds:bm d):Ok Tryz.prog 148 [dE n d] (cB (Rat.divInt n d)):=by
 have hg:=yS n d hn hds
 have hgs:=wT (n:=n) hd hds
 have hg0:=t8 (n:=n) hd
 have hsi:=dc d
 unfold cB dE
 refine Ok.enter Tryz.func148 Y Tryz.ntmps148 Y (fun w O => ?_)
 by_cases h:d<0
 ·obtain ⟨l1,l2⟩:=vK (n:=n) h
  have hs:c9 d = -1:=by unfold c9;rw [if_neg hd,if_pos h]
  rw [hs] at hsi
  refine ae (ai ?_)
  refine aV Y Y (ltN Y) (fun b1 => ?_)
  refine bD (T:=58) Y Y Y (fun b2 => ?_)
  refine Ep (aa (ae (ae (ai (El (aj Y) (El (ak 1 Y Y Y) ?_))))))
  refine El (am (hsi) Y ⟨H,Er⟩) ?_
  refine El (sF X (cg Y Y)) (Ep (aa (aB Y (az (aa (ae (ai (El (aj Y) (El (ak 1 Y Y Y) ?_)))))))))
  refine El (aj Y) (El (ak 1 Y Y Y) ?_)
  refine El (am (hg) Y ⟨H,H,Er⟩) ?_
  refine aH (T:=37) Y (ltN Y) (fun b3 => ?_)
  refine aA 0 Y Y Y Y Y (leN Y) Y (Ep (aa (ae (ae (ai (El (aj Y) (El (ak 2 Y Y Y) ?_)))))))
  refine El (am (hsi) Y ⟨H,Er⟩) ?_
  refine El (sT X (a6 Y Y)) (Ep (aa (aG Y (ai (El (ak 0 Y Y Y) ?_)))))
  refine El (am (vA _ (by assumption)) Y ⟨H,Er⟩) ?_
  refine aA 0 Y Y Y Y Y (leN Y) Y (Ep (aa (ae (ai (El (aj Y) (El (ak 2 Y Y Y) (El (ak 0 Y Y Y) ?_)))))))
  refine El (am (dt _ _ X (by assumption) (mu ‹_›)) Y ⟨H,H,Er⟩) ?_
  refine Em Y (El (ar Y Y) (El (ar Y Y) (El (ar Y Y) ?_)))
  refine aH (T:=37) Y (ltN Y) (fun b4 => ?_)
  refine aH (T:=37) Y (ltN Y) (fun b5 => ?_)
  refine aA 1 Y Y Y Y Y (leN Y) Y (aA 0 Y Y Y Y Y (leN Y) Y (En Y (Ep (aa (ae (ai (El (aj Y) (El (ak 4 Y Y Y) (El (ak 2 Y Y Y) ?_)))))))))
  refine El (am (dt _ _ X (by assumption) (mu ‹_›)) Y ⟨H,H,Er⟩) ?_
  refine Em Y (El (ar Y Y) (El (ar Y Y) (El (ar Y Y) ?_)))
  refine aH (T:=37) Y (ltN Y) (fun b7 => ?_)
  refine aH (T:=37) Y (ltN Y) (fun b8 => ?_)
  refine aA 1 Y Y Y Y Y (leN Y) Y (aA 0 Y Y Y Y Y (leN Y) Y (En Y (Ep (aa (ae (ai (El (ak 3 Y Y Y) (El (ak 1 Y Y Y) (stB Y Y Y ?_)))))))))
  refine BuildK.cons Y Y Y (BuildK.cons Y Y Y (BuildK.nil (a4 5 Y Y Y Y (Ep (aa (aD ?_))))))
  refine aS Tryz.results148 (.cellW 5 Y Y (iQ l1 l2))
 ·obtain ⟨l1,l2⟩:=q7 (n:=n) (show 0<d by omega)
  have hs:c9 d=1:=by unfold c9;rw [if_neg hd,if_neg h]
  rw [hs] at hsi
  refine ae (ai ?_)
  refine aV Y Y (ltN Y) (fun b1 => ?_)
  refine bD (T:=58) Y Y Y (fun b2 => ?_)
  refine Ep (aa (ae (ae (ai (El (aj Y) (El (ak 1 Y Y Y) ?_))))))
  refine El (am (hsi) Y ⟨H,Er⟩) ?_
  refine El (sF X (cg Y Y)) (Ep (aa (aB Y (az (aa (ae (ai (El (aj Y) (El (ak 1 Y Y Y) ?_)))))))))
  refine El (aj Y) (El (ak 1 Y Y Y) ?_)
  refine El (am (hg) Y ⟨H,H,Er⟩) ?_
  refine aH (T:=37) Y (ltN Y) (fun b3 => ?_)
  refine aA 0 Y Y Y Y Y (leN Y) Y (Ep (aa (ae (ae (ai (El (aj Y) (El (ak 2 Y Y Y) ?_)))))))
  refine El (am (hsi) Y ⟨H,Er⟩) ?_
  refine El (sF X (a6 Y Y)) (Ep (aa (aB Y (az (aa (ae (ai (El (aj Y) (El (ak 2 Y Y Y) ?_)))))))))
  refine El (ak 0 Y Y Y) ?_
  refine El (am (dt _ _ (by assumption) (by assumption) (by assumption)) Y ⟨H,H,Er⟩) ?_
  refine Em Y (El (ar Y Y) (El (ar Y Y) (El (ar Y Y) ?_)))
  refine aH (T:=37) Y (ltN Y) (fun b4 => ?_)
  refine aH (T:=37) Y (ltN Y) (fun b5 => ?_)
  refine aA 1 Y Y Y Y Y (leN Y) Y (aA 0 Y Y Y Y Y (leN Y) Y (En Y (Ep (aa (ae (ai (El (aj Y) (El (ak 4 Y Y Y) (El (ak 2 Y Y Y) ?_)))))))))
  refine El (am (dt _ _ (by assumption) (by assumption) (by assumption)) Y ⟨H,H,Er⟩) ?_
  refine Em Y (El (ar Y Y) (El (ar Y Y) (El (ar Y Y) ?_)))
  refine aH (T:=37) Y (ltN Y) (fun b7 => ?_)
  refine aH (T:=37) Y (ltN Y) (fun b8 => ?_)
  refine aA 1 Y Y Y Y Y (leN Y) Y (aA 0 Y Y Y Y Y (leN Y) Y (En Y (Ep (aa (ae (ai (El (ak 3 Y Y Y) (El (ak 1 Y Y Y) (stB Y Y Y ?_)))))))))
  refine BuildK.cons Y Y Y (BuildK.cons Y Y Y (BuildK.nil (a4 5 Y Y Y Y (Ep (aa (aD ?_))))))
  refine aS Tryz.results148 (.cellW 5 Y Y (iQ l1 l2))
theorem CK (n d:Int) (hd:d≠0) (hn:bm n) (hds:bm d):Ok Tryz.prog 103 [aL n,aL d] (bv [cB (Rat.divInt n d),one (.int .i64 0)]):=by
 have hlow:=wU n d hd hn hds
 have hs:c9 d≠0:=by unfold c9;rw [if_neg hd]; split <;> decide
 unfold cB dE at *
 refine Ok.enter Tryz.func103 Y Tryz.ntmps103 Y (fun w O => ?_)
 refine ae (ai ?_)
 refine aV Y Y (ltN Y) (fun b2 => ?_)
 refine aV Y Y (ltN Y) (fun b3 => ?_)
 refine bD (T:=58) Y Y Y (fun b4 => ?_)
 refine En Y (Ep (aa (ae (ae (ai (El (aN 1 Y Y) ?_))))))
 refine El (am (dc _) Y ⟨H,Er⟩) ?_
 refine El (sF (by assumption) (cg Y Y)) (Ep (aa (aB Y (az (aa (ae (ai (El (aN 2 Y Y) (El (aN 1 Y Y) ?_)))))))))
 refine stB Y Y Y (BuildK.cons Y Y Y (BuildK.cons Y Y Y (BuildK.nil ?_)))
 refine El (am (hlow) Y ⟨H,Er⟩) ?_
 refine a4 0 Y Y Y Y (En Y (Ep (aa (aD ?_))))
 refine dg Tryz.results103 (.cellW 0 Y Y H) (.tmp Y H)
theorem Bb (n:Int):Ok Tryz.prog 103 [aL n,aL 0] (bv [dE 0 0,one (.int .i64 3)]):=by
 unfold dE at *
 refine Ok.enter Tryz.func103 Y Tryz.ntmps103 Y (fun w O => ?_)
 have hsi:=dc 0
 rw [show c9 0=0 from rfl] at hsi
 refine ae (ai ?_)
 refine aV Y Y (ltN Y) (fun b2 => ?_)
 refine aV Y Y (ltN Y) (fun b3 => ?_)
 refine bD (T:=58) Y Y Y (fun b4 => ?_)
 refine En Y (Ep (aa (ae (ae (ai (El (aN 1 Y Y) ?_))))))
 refine El (am (hsi) Y ⟨H,Er⟩) ?_
 refine El (sT X (cg Y Y)) (Ep (aa (aG Y (ae (ai (stB Y Y Y (BuildK.nil (a4 0 Y Y Y Y (En Y ?_)))))))))
 refine Ep (aa (aD (aR ?_)))
 refine dg Tryz.results103 (.cellW 0 Y Y (t9)) (.tmp Y H)
theorem Bc (a b c d:Int) (hc:c≠0) (ha:bm a) (hcs:bm c) (hb:bm b) (hd:bm d) (hq:bm (a / c)) (hm:bm (a / c*d)):Ok Tryz.prog 102 [dE a b,dE c d] (dE (a % c) (b - a / c*d)):=by
 unfold dE at *
 refine Ok.enter Tryz.func102 Y Tryz.ntmps102 Y (fun w O => ?_)
 refine ae (ai ?_)
 refine aV Y Y (ltN Y) (fun b2 => ?_)
 refine aV Y Y (ltN Y) (fun b3 => ?_)
 refine bD (T:=137) Y Y Y (fun b4 => ?_)
 refine Ep (aa (ae (ai (El (aj Y) (El (ak 2 Y Y Y) (El (aj Y) (El (ak 1 Y Y Y) ?_)))))))
 refine El (am (dt _ _ (by assumption) (by assumption) (by assumption)) Y ⟨H,H,Er⟩) ?_
 refine Em Y (El (ar Y Y) (El (ar Y Y) (El (ar Y Y) ?_)))
 refine aH (T:=37) Y (ltN Y) (fun b5 => ?_)
 refine aH (T:=37) Y (ltN Y) (fun b6 => ?_)
 refine aA 1 Y Y Y Y Y (leN Y) Y (aA 0 Y Y Y Y Y (leN Y) Y (En Y (Ep (aa (ae (a7 9 aZ Z S (El (ak 0 Y Y Y) (El (aj Y) (El (ak 4 Y Y Y) ?_)))))))))
 refine El (ak 1 Y Y Y) (El (aj Y) (El (ak 3 Y Y Y) ?_))
 refine El (am (eW _ _ (by assumption) (by assumption)) Y ⟨H,H,Er⟩) ?_
 refine El (am (lP _ _ (by assumption) (by assumption)) Y ⟨H,H,Er⟩) ?_
 refine stB Y Y Y (BuildK.cons Y Y Y (BuildK.cons Y Y Y (BuildK.nil (Ep (a4 2 Y Y Y Y (Ep (aa (aD ?_))))))))
 refine aS Tryz.results102 (.cellW 2 Y Y H)
end Tor
end
section
namespace Tor
open Go Go.RowKit Go.Proofs
section
variable {P:Program} {E:Env} {Γ:Ctx} {M:Mem} {d:Option Tmp} {ty:TypeId} {pos:String} {af:Array Edge} {gd:Option (Nat × Bool)}
theorem CL {T T':TypeId} {x y:Operand} {a b:Nat} (hx:aM Γ x=some (one (.int .u32 (a:Int)))) (hy:aM Γ y=some (one (.int .u32 (b:Int)))) (h:a*b<4294967296) :
  aK P E Γ M ⟨d, .binOp .mul T x y T',ty,pos,af,gd⟩ (one (.int .u32 ((a*b:Nat):Int))) :=
 mS hx hy (by
  rw [ld, ← Int.natCast_mul]
  generalize a*b=z at *
  omega)
theorem wV {L:Lay} {k m j:Nat} {c c':Array Value} {x:Value} (h:bS (.agg m) c k=some (.agg c')) (hx:bS L c' j=some x):bS L c (k+j)=some x:=by
 simp only [bS] at h
 split at h
 ·rename_i hk
  cases h
  cases L with
  | one =>
   simp only [bS] at hx ⊢
   rw [cu] at hx
   split at hx
   ·exact hx
   ·cases hx
  | agg n =>
   simp only [bS] at hx ⊢
   have hs:(c.extract k (k+m)).size=m:=by simp;omega
   rw [hs] at hx
   split at hx
   ·rename_i hj
    rw [if_pos X]
    rw [← hx]
    congr 2
    apply Array.ext_getElem?
    intro i
    rw [cu,cu,cu]
    by_cases hi:i<n
    ·rw [if_pos hi,if_pos hi,if_pos X,Nat.add_assoc]
    ·rw [if_neg hi,if_neg hi]
   ·cases hx
 ·cases h
theorem fy {T T':TypeId} {L:Lay} [LayOf P T L] {x:Operand} {b o m m':Nat} {cs cs':cm} {φ:VT} (i k j:Nat) (hx:aM Γ x=some (one (.pointer (some ⟨b,o,none⟩)))) (hM:M[i]? = some (aT b T' m cs))
  (hl:eM cs k=some (.agg m',bC m' cs')) (ho:o=k+j) (hl2:eM cs' j=some (L, φ)):aK P E Γ M ⟨d, .load T x,ty,pos,af,gd⟩ φ :=
 aK.ofRun fun a w hb hf=>by
  have h1:a.eval x = .pointer (some ⟨b,o,none⟩):=hf x _ (by simp [Op.operands]) hx
  obtain ⟨c,hc,_,_,hcs⟩:=dY hb hM
  obtain ⟨v,hx',c',rfl,hs',_,hcs'⟩:=hcs _ (d4 hl)
  obtain ⟨y,hy,hp⟩:=hcs' _ (d4 hl2)
  refine ⟨y,?_,hp⟩
  have h2:=wV hx' hy
  subst ho
  simp only [execOp,h1,Instr.loadAt,Instr.sureAddr,Sem.run_bind,Sem.run_pure,Result.andThen_ok,dh hc h2]
theorem q8 {b:Nat} {T:TypeId} {m:Nat} {cs:cm} {φ:VT} (h:VT.le (bC m cs) φ):Own.le (aT b T m cs) (aT b T m [(0, .agg m, φ)]) :=
 ⟨rfl,fun g h' ⟨c,hb,hs,ha,hc⟩=>⟨c,hb,hs,ha,fun q hq=>by
  rw [List.mem_singleton.1 hq]
  exact ⟨.agg c,by subst hs;simp [bS],h _ _ ⟨c,rfl,hs,ha,hc⟩⟩⟩⟩
theorem jd {ops:Array Oper} {i:Nat} {os:List Oper} {K:List Deferred→Ctx→Mem→Prop} {D:List Deferred} {t:Nat} {φ ψ:VT} (ht:bP Γ t=some φ) (hle:VT.le φ ψ) (h:Run P E ops false i D ((t, ψ) :: Γ) M os K):Run P E ops false i D Γ M os K :=
 .conv (fun a w hS=>hS.sub (fun s χ hs=>by
  rw [bp] at hs
  split at hs
  ·rename_i e;subst e;cases hs;exact ⟨φ,ht,hle⟩
  ·exact ⟨χ,hs,H⟩) (SubM.refl _)) h
end
attribute [local irreducible] J PJ aK one slT bR bC bv exT cj eP aT aI slV VT.le Ret bL
theorem pT (l:List Nat) (d:Nat) (hl:bF l) (h1:l.length≤1099511627776) (hd0:0<d) (hd:d<4294967296):Ok Tryz.prog 122 [cp l,one (.int .u32 (d:Nat))] (bv [o8 (lv l / d),one (.int .u32 ((lv l % d:Nat):Int))]):=by
 refine Ok.enter Tryz.func122 Y Tryz.ntmps122 Y (fun w O => ?_)
 refine ae (ai (En Y (En Y (Ep (aa (ae (ai (Em Y (El (aX Y) ?_)))))))))
 refine bV l.length l.length Y Y Y Y (Nat.le_refl _) Y Y X Y Y (fun bz => ?_)
 refine En Y (En Y (Ep (aa (ae (ae (ai (Em Y (El (aX Y) (El (et Y Y (aQ X X)) ?_)))))))))
 refine En Y (Ep (aa (au (co (Γ' := [(0,_),(1,_),(4,_),(5,_),(6,_),(7,_),(8,_)]) Eg (SubM.refl _) ?_))))
 refine bB (σ:=List Nat × Nat × Nat) (Γk := [(0,_),(1,_),(4,_),(5,_),(6,_)]) Eg (fun s => [(8,one (.int .i64 ((s.2.1:Nat) - 1:Int))),(7,one (.int .u64 (s.2.2:Nat)))]) (fun s M0=>(M0.set 0 (aI (some bz) 86 .one l.length l.length (fun q=>one (.int .u32 (s.1.getD q 0:Nat)))))) (fun s=>ShortR l d s) (fun s=>s.2.1) ((List.replicate l.length 0,l.length,0)) (ShortR.start hd0) Eh (.keep (bh (fun q _=>by rw [cy]; rfl)) (.nil)) (fun s hs => ?_)
 refine bQ (Γ' := [(8,_),(7,_),(0,_),(1,_),(4,_),(5,_),(6,_)]) (M' := [_]) Y Y ?_
 obtain ⟨z,n,r⟩:=s
 dsimp only at hs ⊢
 refine ae (ae (ai (Em Y (El (ff Y Y) (Ep (aa ?_))))))
 cases n with
 | zero =>
  obtain ⟨f1,f2⟩:=hs.finish
  have hlen:z.length=l.length:=hs.len
  have hr:r<d:=hs.r
  rw [← f1, ← f2]
  refine nl Y X (aY (av (av (aF (aa (ae (ai (Em Y (Em Y ?_)))))))))
  refine El (cH Y) (En Y (En Y (Ep (aa (aD (cq (t:=4) (i:=0) Y Y ?_))))))
  refine dg Tryz.results122 (.tmp Y (VT.le_trans (cC (m:=z.length) (ψ:=fun i=>one (.int .u32 (z.getD i 0:Nat))) hlen.symm (fun q hq=>rfl)) (iq (l:=z) hs.lim Y X))) (.tmp Y (aq (by congr 1;omega)))
 | succ n =>
  have hx:=a8 hl n
  have hr:r<d:=hs.r
  have hb:=ShortR.bound hx hr hd
  have hst:=hs.step hl hd
  have hn:n<l.length:=hs.le
  have hzn:n<z.length:=by have:=hs.len;dsimp only at this;omega
  have en:((n+1:Nat):Int) - 1=(n:Nat):=by omega
  rw [en]
  refine nk Y X (az (aa (ae (au (ae (ai (Em Y (El (fk (b:=4294967296) Y Y X) (Em Y ?_)))))))))
  refine Em Y (El (aC Y Y X) (El (aO Y) (El (bT Y X) (El (dJ Y Y X) (En Y (Ep (aa (ae (ai ?_)))))))))
  refine Em Y (Em Y (Em Y (Em Y (El (bT Y X) (El (jE Y Y X X) (El (cH Y) (El (ao Y Y X) ?_)))))))
  (refine aw 0 Y Y Y ?_ Y ?_;omega)
  refine Ep (aa (ai (Em Y (Em Y (El (bT Y X) (El (eK _ Y Y Y X) (En Y (Ep (aE ?_)))))))))
  refine aa (ai (Em Y (El (et Y Y (aQ X X)) (En Y (Ep ?_)))))
  refine aP ((z.set n ((r*4294967296+l.getD n 0) / d),n,(r*4294967296+l.getD n 0) % d)) (hst) (by (simp only []; omega)) Eh (.keep (qV hzn (Nat.mod_eq_of_lt hb.2)) (.nil))
def wW (r d:Nat):Nat :=
 if (aJ r).length=(aJ d).length then max 1 ((aJ r).getD ((aJ r).length - 1) 0 / ((aJ d).getD ((aJ d).length - 1) 0+1))
 else (((aJ r).getD ((aJ r).length - 1) 0*4294967296+(aJ r).getD ((aJ r).length - 2) 0) / ((aJ d).getD ((aJ d).length - 1) 0+1))*4294967296^((aJ r).length - (aJ d).length - 1)
theorem kf {v:Nat} {n:Nat} (h:(aJ v).length=n+1):v=lv ((aJ v).take n)+4294967296^n*(aJ v).getD n 0∧lv ((aJ v).take n)<4294967296^n:=by
 have h1:=bN (l:=aJ v) (k:=n) X
 rw [List.take_of_length_le X,bY] at h1
 exact ⟨h1,by have:=kM (a5 v) n;rwa [← sf] at this⟩
theorem yV {r d:Nat} (hd:d≠0) (h:d≤r):0<wW r d∧wW r d*d≤r:=by
 have hlen:=cf h
 have hdl:(aJ d).length≠0:=fun k=>hd (eC k)
 obtain ⟨m,hm⟩ : ∃ m,(aJ d).length=m+1:=⟨(aJ d).length - 1,by omega⟩
 obtain ⟨e,he⟩ : ∃ e,(aJ r).length=m+1+e:=⟨(aJ r).length - (m+1),by omega⟩
 have hdt:=a8 (a5 d) m
 obtain ⟨d1,d2⟩:=kf hm
 unfold wW
 rw [hm,he]
 simp only [Nat.add_sub_cancel] at *
 generalize hx:(aJ d).getD m 0=x at *
 generalize lv ((aJ d).take m)=dl at *
 have hdlt:d<4294967296^m*(x+1):=by rw [Nat.mul_add]; omega
 cases e with
 | zero =>
  rw [if_pos Y]
  obtain ⟨r1,r2⟩:=kf he
  simp only [Nat.add_zero,Nat.add_sub_cancel] at *
  generalize (aJ r).getD m 0=y at *
  generalize lv ((aJ r).take m)=rl at *
  refine ⟨by omega,?_⟩
  rcases Nat.eq_zero_or_pos (y / (x+1)) with hq | hq
  ·rw [hq]; simpa using h
  ·rw [Nat.max_eq_right hq]
   have h1:y / (x+1)*d≤y / (x+1)*(4294967296^m*(x+1)):=Nat.mul_le_mul_left _ (Nat.le_of_lt hdlt)
   have h2:y / (x+1)*(4294967296^m*(x+1))=4294967296^m*(y / (x+1)*(x+1)):=by rw [Nat.mul_left_comm]
   have h3:4294967296^m*(y / (x+1)*(x+1))≤4294967296^m*y:=Nat.mul_le_mul_left _ (Nat.div_mul_le_self _ _)
   omega
 | succ e =>
  rw [if_neg X]
  rw [show m+1+(e+1) - 1=m+e+1 by omega,show m+1+(e+1) - 2=m+e by omega,show m+1+(e+1) - (m+1) - 1=e by omega]
  obtain ⟨r1,r2⟩:=kf (show (aJ r).length=(m+e+1)+1 by omega)
  have r3:=bN (l:=aJ r) (k:=m+e) X
  have hy0:(aJ r).getD (m+e+1) 0≠0:=by
   intro hy
   have:=cx (n:=r) (k:=m+e+1) (by rw [hy,Nat.mul_zero,Nat.add_zero] at r1;rw [r1]; exact r2)
   omega
  generalize (aJ r).getD (m+e+1) 0=y at *
  generalize (aJ r).getD (m+e) 0=y2 at *
  rw [r3] at r1
  generalize lv ((aJ r).take (m+e))=rl at *
  have hqp:0<(y*4294967296+y2) / (x+1):=Nat.div_pos X X
  have hle:=Nat.div_mul_le_self (y*4294967296+y2) (x+1)
  generalize (y*4294967296+y2) / (x+1)=q at *
  refine ⟨Nat.mul_pos hqp (Nat.pow_pos S),?_⟩
  have h1:q*4294967296^e*d≤q*4294967296^e*(4294967296^m*(x+1)):=Nat.mul_le_mul_left _ (Nat.le_of_lt hdlt)
  have h2:q*4294967296^e*(4294967296^m*(x+1))=4294967296^(m+e)*(q*(x+1)):=by
   rw [Nat.pow_add]; ac_rfl
  have h3:4294967296^(m+e)*(q*(x+1))≤4294967296^(m+e)*(y*4294967296+y2):=Nat.mul_le_mul_left _ hle
  have h4:4294967296^(m+e+1)*y=4294967296^(m+e)*(y*4294967296):=by rw [Nat.pow_succ]; ac_rfl
  rw [Nat.mul_add (4294967296^(m+e)) (y*4294967296) y2] at h3
  rw [h4] at r1
  rw [h2] at h1
  generalize 4294967296^(m+e)*(y*4294967296)=z1 at *
  generalize 4294967296^(m+e)*y2=z2 at *
  refine Nat.le_trans h1 (Nat.le_trans h3 ?_)
  rw [r1]
  exact Nat.le_trans (Nat.add_comm z1 z2▸Nat.le_refl _) (Nat.add_le_add_right (Nat.le_add_left _ _) _)
end Tor
end
section
namespace Tor
open Go Go.RowKit Go.Proofs
theorem Bd (a b:Nat):VT.le (slT .one 2 (fun q => [one (.int .u32 (b:Int)),one (.int .u32 (a:Int))].reverse.getD q bL)) (slT .one 2 (fun q=>one (.int .u32 (([a,b].getD q 0:Nat):Int)))) :=
 cC Y (fun q hq=>by
  match q,hq with
  | 0, _ => rfl
  | 1, _ => rfl)
theorem CM {k q:Nat} (hq:q<18446744073709551616) (hk:k≤1099511627776):VT.le (slT .one (k+2) (fun p=>if p<k then one (.int .u32 0) else (fun j=>one (.int .u32 (([q % 4294967296,q / 4294967296 % 4294967296].getD j 0:Nat):Int))) (p - k))) (o8 (q*4294967296^k)) :=
 VT.le_trans (cC (m:=(List.replicate k 0 ++ [q % 4294967296,q / 4294967296 % 4294967296]).length) (ψ:=fP (List.replicate k 0 ++ [q % 4294967296,q / 4294967296 % 4294967296])) (by simp) (fun p hp=>by
  unfold fP
  by_cases h:p<k
  ·rw [if_pos h]; simp [List.getD,List.getElem?_append,h]
  ·rw [if_neg h]; simp only [List.getD,List.getElem?_append,List.length_replicate,if_neg h])) (iq (fun d hd=>by
   rcases List.mem_append.1 hd with h | h
   ·rw [(List.mem_replicate.1 h).2]; decide
   ·rcases List.mem_cons.1 h with rfl | h
    ·exact Nat.mod_lt _ S
    ·rw [List.mem_singleton.1 h]; exact Nat.mod_lt _ S) (by
   rw [fL,dS,List.length_replicate,Nat.zero_add,Nat.mul_comm]
   congr 1
   simp only [lv]
   omega) (by simp;omega))
attribute [local irreducible] J PJ aK one slT bR bC bv exT cj eP aT aI slV VT.le Ret bL
theorem sx (r d:Nat) (hd:d≠0) (h:d≤r) (hl:(aJ r).length≤1099511627776):Ok Tryz.prog 123 [cp (aJ r),cp (aJ d)] (aL ((wW r d:Nat):Int)):=by
 have hlen:=cf h
 have hdl:(aJ d).length≠0:=fun k=>hd (eC k)
 have hx:=a8 (a5 d) ((aJ d).length - 1)
 have hy:=a8 (a5 r) ((aJ r).length - 1)
 have hz:=a8 (a5 r) ((aJ r).length - 2)
 unfold wW
 refine Ok.enter Tryz.func123 Y Tryz.ntmps123 Y (fun w O => ?_)
 by_cases hk:(aJ r).length=(aJ d).length
 ·rw [if_pos hk]
  refine ae (ai ?_)
  refine aH (T:=37) Y (ltN Y) (fun b4 => ?_)
  refine Ep (aa (ae (a7 17 aZ Z S (Em Y (El (aX Y) (Em Y (El (aX Y) (El (ck _ _ Y Y X X) (Em Y ?_)))))))))
  refine El (aX Y) (Em Y (Em Y (El (aX Y) (El (ck _ 1 Y Y X X) (El (aC Y Y X) (El (aO Y) (El (bT Y X) (El (dJ (b:=1) Y Y X) (En Y ?_)))))))))
  refine En Y (Ep (En Y (Ep (aa (ae (ae (ai (Em Y (El (sT X (cg Y Y)) ?_)))))))))
  refine Ep (aa (aG Y (ae (ai (Em Y (Em Y (El (ck _ 1 Y Y X X) (El (aC Y Y X) (El (aO Y) ?_)))))))))
  refine El (bT Y X) (Em Y (El (jE Y Y X X) (El (pp Y Y) ?_)))
  have hq:=Nat.div_le_self ((aJ r).getD ((aJ r).length - 1) 0) ((aJ d).getD ((aJ d).length - 1) 0+1)
  generalize (aJ r).getD ((aJ r).length - 1) 0 / ((aJ d).getD ((aJ d).length - 1) 0+1)=q at *
  refine El (dZ Y X X) ?_
  refine El (am (gZ _ X X) Y ⟨H,Er⟩) ?_
  refine aA 0 Y Y Y Y Y (leN Y) Y (Ep (aa (aD (aR ?_))))
  refine aS Tryz.results123 (.cellB 0 Y Y Y (ci X))
 ·rw [if_neg hk]
  refine ae (ai ?_)
  refine aH (T:=37) Y (ltN Y) (fun b4 => ?_)
  refine Ep (aa (ae (a7 17 aZ Z S (Em Y (El (aX Y) (Em Y (El (aX Y) (El (ck _ _ Y Y X X) (Em Y ?_)))))))))
  refine El (aX Y) (Em Y (Em Y (El (aX Y) (El (ck _ 1 Y Y X X) (El (aC Y Y X) (El (aO Y) (El (bT Y X) (El (dJ (b:=1) Y Y X) (En Y ?_)))))))))
  refine En Y (Ep (En Y (Ep (aa (ae (ae (ai (Em Y (El (sF X (cg Y Y)) ?_)))))))))
  refine Ep (aa (aB Y (az (aa (ae (a7 16 aZ Z S (Em Y (Em Y (El (ck _ 1 Y Y X X) ?_)))))))))
  refine El (aC Y Y X) (El (aO Y) (El (bT Y X) (El (fk (b:=4294967296) Y Y X) (Em Y (Em Y (El (ck _ 2 Y Y X X) (El (aC Y Y X) (El (aO Y) (El (bT Y X) ?_)))))))))
  refine El (dJ Y Y X) (Em Y (El (jE Y Y X X) (Ep (En Y (Ep (aa (ae (ai (Em Y ?_)))))))))
  refine El (ck _ 1 Y Y X X) ?_
  have hq:=Nat.div_le_self ((aJ r).getD ((aJ r).length - 1) 0*4294967296+(aJ r).getD ((aJ r).length - 2) 0) ((aJ d).getD ((aJ d).length - 1) 0+1)
  generalize ((aJ r).getD ((aJ r).length - 1) 0*4294967296+(aJ r).getD ((aJ r).length - 2) 0) / ((aJ d).getD ((aJ d).length - 1) 0+1)=q at *
  obtain ⟨k,hkk⟩ : ∃ k,k=(aJ r).length - (aJ d).length - 1:=⟨_,rfl⟩
  rw [← hkk]
  refine bV k k Y Y Y Y (Nat.le_refl _) Y Y X Y Y (fun bz => ?_)
  refine En Y (Ep (aa (ae (ai (Em Y (Em Y (El (cH Y) (Em Y (El (gu Y) ?_)))))))))
  refine El (cH Y) (stS Y Y Y Y (PartsK.cons Y (PartsK.cons Y (PartsK.nil (jd (t:=63) Y (Bd _ _) ?_)))))
  (refine cT 0 Y Y Y (leN Y) ?_ ?_ Y (ltN Y) (fun sv64 cap64 => ?_);omega;omega)
  refine fG (t:=64) (j:=0) Y Y ?_
  have hq64:q<18446744073709551616:=by omega
  have hmd:=dk false (q*4294967296^k)
  rw [if_neg S] at hmd
  refine El (am (hmd) Y ⟨(CM hq64 X),H,Er⟩) ?_
  refine aA 0 Y Y Y Y Y (leN Y) Y (Ep (aa (aD ?_)))
  refine aS Tryz.results123 (.cellB 0 Y Y Y (ci (by rw [hkk])))
theorem sy {d:Nat} (hd:d<4294967296):VT.le (slT .one 1 fun _=>one (.int .u32 (d:Int))) (o8 d) :=
 VT.le_trans (cC (m := [d].length) (ψ:=fP [d]) Y (fun q hq=>by
  have hq:q=0:=by omega
  subst hq;rfl)) (iq (fun x hx=>by rw [List.mem_singleton.1 hx]; exact hd) (by simp [lv]) (by simp))
theorem sA {b:Nat} (hb:b≠0):0<(aJ b).getD ((aJ b).length - 1) 0:=by
 have hdl:(aJ b).length≠0:=fun k=>hb (eC k)
 obtain ⟨m,hm⟩ : ∃ m,(aJ b).length=m+1:=⟨(aJ b).length - 1,by omega⟩
 obtain ⟨d1,d2⟩:=kf hm
 rw [hm,Nat.add_sub_cancel]
 rcases Nat.eq_zero_or_pos ((aJ b).getD m 0) with h | h
 ·rw [h,Nat.mul_zero,Nat.add_zero] at d1
  have:=cx (n:=b) (k:=m) (by rw [d1]; exact d2)
  omega
 ·exact h
theorem ox {a s:Nat} (hs:s<4294967296):(aJ (a*s)).length≤(aJ a).length+1:=cx (by
 rw [Nat.pow_succ]
 have h1:=cX a
 rcases Nat.eq_zero_or_pos s with h | h
 ·subst h;rw [Nat.mul_zero]; exact Nat.mul_pos (Nat.pow_pos S) S
 ·exact Nat.mul_lt_mul'' h1 hs)
theorem CN {a b s q r:Nat} (hs:0<s) (hb:0<b) (h:q*(b*s)+r=a*s) (hr:r<b*s):q=a / b∧r / s=a % b:=by
 have h1:(a*s) / (b*s)=q:=by rw [← h,Nat.mul_comm q,Nat.mul_add_div X,Nat.div_eq_of_lt hr,Nat.add_zero]
 have h2:(a*s) % (b*s)=r:=by rw [← h,Nat.mul_comm q,Nat.mul_add_mod,Nat.mod_eq_of_lt hr]
 rw [Nat.mul_div_mul_right _ _ hs] at h1
 rw [Nat.mul_mod_mul_right] at h2
 exact ⟨h1.symm,by rw [← h2,Nat.mul_div_cancel _ hs]⟩
theorem ub (a b:Nat) (hb:b≠0) (ha:(aJ a).length≤1099511627700) (hbl:(aJ b).length≤1099511627700):Ok Tryz.prog 73 [cp (aJ a),cp (aJ b)] (bv [aL ((a / b:Nat):Int),aL ((a % b:Nat):Int)]):=by
 have hbp:0<b:=by omega
 have hdl:(aJ b).length≠0:=fun k=>hb (eC k)
 refine Ok.enter Tryz.func73 Y Tryz.ntmps73 Y (fun w O => ?_)
 by_cases h1:(aJ b).length=1
 ·have hb1:=sj h1
  have hd:=a8 (a5 b) 0
  have hsh:=pT (aJ a) b (a5 a) X X X
  rw [bY] at hsh
  have hr:=Nat.mod_lt a hbp
  have hm1:=dk false (a / b)
  have hm2:=dk false (a % b)
  rw [if_neg S] at hm1 hm2
  refine ae (ai ?_)
  refine aH (T:=37) Y (ltN Y) (fun b4 => ?_)
  refine aH (T:=37) Y (ltN Y) (fun b5 => ?_)
  refine Ep (aa (ae (ae (ai (Em Y (El (aX Y) (El (sT X (cg Y Y)) (Ep (aa ?_)))))))))
  refine aG Y (ae (ai (Em Y (Em Y (El (fX Y Y X X) (El (aO Y) ?_))))))
  refine El (am (hsh) Y ⟨H,(aq (by rw [show (aJ b).getD (Int.toNat 0) 0=b from hb1])),Er⟩) ?_
  refine Em Y (El (ar Y Y) (El (ar Y Y) (En Y (En Y (Ep (aa (ae (ai (Em Y ?_)))))))))
  refine El (am (hm1) Y ⟨H,H,Er⟩) ?_
  refine Em Y (gv Y Y Y Y ?_)
  refine El (am (hm2) Y ⟨(sy X),H,Er⟩) ?_
  refine aA 1 Y Y Y Y Y (leN Y) Y (aA 0 Y Y Y Y Y (leN Y) Y (Ep (aa (aD (aR ?_)))))
  refine dg Tryz.results73 (.cellB 1 Y Y Y H) (.cellB 0 Y Y Y H)
 ·have hx:=a8 (a5 b) ((aJ b).length - 1)
  have hx0:=sA hb
  refine ae (ai ?_)
  refine aH (T:=37) Y (ltN Y) (fun b4 => ?_)
  refine aH (T:=37) Y (ltN Y) (fun b5 => ?_)
  refine Ep (aa (ae (ae (ai (Em Y (El (aX Y) (El (sF X (cg Y Y)) (Ep (aa ?_)))))))))
  refine aB Y (az (aa (ae (ai (En Y (Ep (aa (ae (au ?_)))))))))
  refine co (Γ' := [(0,_),(1,_),(4,_),(5,_),(8,_)]) Eg (SubM.refl _) ?_
  refine bB (σ:=Nat) (Γk := [(0,_),(1,_),(4,_),(5,_)]) Eg (fun s => [(8,one (.int .u32 (s:Nat)))]) (fun s M0=>M0) (fun s=>0<s∧s<4294967296) (fun s=>4294967296 - s) (1) (⟨by decide,by decide⟩) Eh (.keep Ek (.keep Ek (.nil))) (fun s hs => ?_)
  refine bQ (Γ' := [(8,_),(0,_),(1,_),(4,_),(5,_)]) (M' := [_,_]) Y Y ?_
  obtain ⟨s0,s1⟩:=hs
  have hb1:=Nat.mul_le_mul (show (aJ b).getD ((aJ b).length - 1) 0≤4294967295 by omega) (show s≤4294967295 by omega)
  have hb2:=Nat.mul_le_mul_right s hx0
  by_cases hc:(aJ b).getD ((aJ b).length - 1) 0*s<2147483648
  ·refine ae (ae (ai (Em Y (Em Y (El (aX Y) (El (ck _ 1 Y Y X X) (El (aC Y Y X) (El (aO Y) (El (bT Y X) ?_)))))))))
   refine Em Y (El (bT Y X) (El (fk Y Y X) (El (sT X (a6 Y Y)) (Ep (aa (aG Y (az (aa (au ?_)))))))))
   refine ai (Em Y (El (CL (a:=2) Y Y X) (En Y (Ep (aE ?_)))))
   refine aP (2*s) (⟨by omega,by omega⟩) X Eh (.keep Ek (.keep Ek (.nil)))
  ·have hma:=dk false a
   have hmb:=dk false b
   have hms:=dk false s
   rw [if_neg S] at hma hmb hms
   have la:=ox (a:=a) s1
   have lb:=ox (a:=b) s1
   have ls:bm ((s:Nat):Int):=dm (by rw [Int.natAbs_natCast]; exact Nat.lt_trans s1 U)
   have hMa:=ef (a:Int) (s:Int) (show (aJ a).length≤_ by omega) ls
   have hMb:=ef (b:Int) (s:Int) (show (aJ b).length≤_ by omega) ls
   rw [← Int.natCast_mul] at hMa hMb
   refine ae (ae (ai (Em Y (Em Y (El (aX Y) (El (ck _ 1 Y Y X X) (El (aC Y Y X) (El (aO Y) (El (bT Y X) ?_)))))))))
   refine Em Y (El (bT Y X) (El (fk Y Y X) (El (sF X (a6 Y Y)) (Ep (aa (aB Y (aY (av (av ?_)))))))))
   refine aF (aa (ae (ai (Em Y (gv Y Y Y Y ?_)))))
   refine El (am (hms) Y ⟨(sy s1),H,Er⟩) ?_
   refine aH (T:=37) Y (ltN Y) (fun b9 => ?_)
   refine aA 0 Y Y Y Y Y (leN Y) Y (Ep (aa (ae ?_)))
   refine eG aZ Z Z ?_
   refine ux (fun B=>ab Y) Y Y ?_
   refine uxk (hma) Y ⟨(cM X),H,Er⟩ Y ?_
   refine ux (fun B=>ak 0 Y Y Y) Y Y ?_
   refine uxk (hMa) Y ⟨H,H,Er⟩ Y ?_
   refine ux (fun B=>ab Y) Y Y ?_
   refine uxk (hmb) Y ⟨(cM X),H,Er⟩ Y ?_
   refine ux (fun B=>ak 0 Y Y Y) Y Y ?_
   refine uxk (hMb) Y ⟨H,H,Er⟩ Y ?_
   refine uB Y Y Y (BuildK.nil (ua Y (ua Y (ua Y (us Y (us Y (us Y ?_)))))))
   refine RunU.nil (fun γ => ?_)
   refine cU (M' := [_,_,_,_,_,_]) Y (iz (dI.refl _) (.keep jK (.keep Ek (.keep Ek (SubM.refl _)))) (aa (ae (au ?_))))
   have hbs:0<b*s:=Nat.mul_pos hbp s0
   refine co (Γ' := [(4,_),(5,_),(8,_),(10,_),(11,_),(12,_)]) Eg (SubM.refl _) ?_
   refine bB (σ:=Nat × Nat) (Γk := [(4,_),(5,_),(8,_),(10,_),(11,_),(12,_)]) Eg (fun p => []) (fun p M0=>((M0.set 0 (aT (γ 12) 37 (Lay.agg 2).sz [(0,Lay.agg 2,aL (p.1:Int))])).set 2 (aT (γ 10) 37 (Lay.agg 2).sz [(0,Lay.agg 2,aL (p.2:Int))]))) (fun p=>p.1*(b*s)+p.2=a*s) (fun p=>p.2) ((0,a*s)) ((by simp)) Eh (.keep (q8 iN) (.keep Ek (.keep Ek (.keep Ek (.keep Ek (.keep Ek (.nil))))))) (fun p hp => ?_)
   refine bQ (Γ' := [(4,_),(5,_),(8,_),(10,_),(11,_),(12,_)]) (M' := [_,_,_,_,_,_]) Y Y ?_
   obtain ⟨q,r⟩:=p
   dsimp only at hp ⊢
   have hle:=lN r (b*s)
   by_cases hr:r<b*s
   ·obtain ⟨f1,f2⟩:=CN s0 hbp hp hr
    have lr:(aJ r).length≤1099511627776:=by
     have:=cf (show r≤a*s by omega)
     omega
    have hsh:=pT (aJ r) s (a5 r) lr s0 s1
    rw [bY,f2] at hsh
    have hm2:=dk false (a % b)
    rw [if_neg S] at hm2
    refine ae (ae (ai (El (aj Y) (El (fy 2 0 1 Y Y Y Y Y) (El (aj Y) (El (fy 1 0 1 Y Y Y Y Y) ?_))))))
    refine El (sT (by assumption) (am (hle) Y ⟨H,H,Er⟩)) ?_
    refine El (cS Y) (Ep (aa (aB Y (aY (av (av (aF (aa (ae ?_)))))))))
    refine ai (El (aj Y) (El (fy 2 0 1 Y Y Y Y Y) (Em Y ?_)))
    refine El (am (hsh) Y ⟨H,H,Er⟩) ?_
    refine Em Y (El (ar Y Y) (El (ar Y Y) (En Y (En Y (Ep (aa (ae (fo 3 aZ Z S (El (ak 0 Y Y Y) ?_)))))))))
    refine Em Y ?_
    refine El (am (hm2) Y ⟨H,H,Er⟩) ?_
    refine Ep (aA 5 Y Y Y Y Y (leN Y) Y (aA 4 Y Y Y Y Y (leN Y) Y (Ep (aa (aD ?_)))))
    refine dg Tryz.results73 (.cellB 5 Y Y Y (ci (by rw [f1]))) (.cellB 4 Y Y Y H)
   ·have lr:(aJ r).length≤1099511627776:=by
     have:=cf (show r≤a*s by omega)
     omega
    obtain ⟨e0,e1⟩:=yV (show b*s≠0 by omega) (Nat.le_of_not_lt hr)
    have hes:=sx r (b*s) X (Nat.le_of_not_lt hr) lr
    generalize wW r (b*s)=e at *
    have hq0:q≤q*(b*s):=Nat.le_mul_of_pos_right _ hbs
    have he0:e≤e*(b*s):=Nat.le_mul_of_pos_right _ hbs
    have le0:bm (e:Int):=Nat.le_trans (cf (show (e:Int).natAbs≤r by omega)) lr
    have lq0:bm (q:Int):=Nat.le_trans (cf (show (q:Int).natAbs≤a*s by omega)) X
    have lbs:bm ((b*s:Nat):Int):=Nat.le_trans (cf (show ((b*s:Nat):Int).natAbs≤b*s by omega)) X
    have lrs:bm (r:Int):=Nat.le_trans (cf (show (r:Int).natAbs≤r by omega)) lr
    have les:bm ((e*(b*s):Nat):Int):=Nat.le_trans (cf (show ((e*(b*s):Nat):Int).natAbs≤r by omega)) lr
    have hmu:=ef (e:Int) ((b*s:Nat):Int) le0 lbs
    rw [← Int.natCast_mul] at hmu
    have hsu:=lS (r:Int) ((e*(b*s):Nat):Int) lrs les
    rw [← Int.ofNat_sub e1] at hsu
    have had:=lQ (q:Int) (e:Int) lq0 le0
    rw [← Int.natCast_add] at had
    refine ae (ae (ai (El (aj Y) (El (fy 2 0 1 Y Y Y Y Y) (El (aj Y) (El (fy 1 0 1 Y Y Y Y Y) ?_))))))
    refine El (sF (by assumption) (am (hle) Y ⟨H,H,Er⟩)) ?_
    refine El (cS Y) (Ep (aa (aG Y (az (aa (au (ae (ai (El (aj Y) ?_)))))))))
    refine El (fy 2 0 1 Y Y Y Y Y) (El (aj Y) (El (fy 1 0 1 Y Y Y Y Y) ?_))
    refine El (am (hes) Y ⟨H,H,Er⟩) ?_
    refine aH (T:=37) Y (ltN Y) (fun b13 => ?_)
    refine aA 0 Y Y Y Y Y (leN Y) Y (Ep (aa (ae (ai (El (ak 1 Y Y Y) (El (ak 0 Y Y Y) ?_))))))
    refine El (am (had) Y ⟨H,H,Er⟩) ?_
    refine aA 1 Y Y Y Y Y (leN Y) Y (Ep (aa (a7 5 aZ Z S (El (ak 3 Y Y Y) (El (ak 0 Y Y Y) (El (ak 2 Y Y Y) ?_))))))
    refine El (am (hmu) Y ⟨H,H,Er⟩) ?_
    refine El (am (hsu) Y ⟨H,H,Er⟩) ?_
    refine Ep (aA 3 Y Y Y Y Y (leN Y) Y (Ep (aE ?_)))
    refine aP ((q+e,r - e*(b*s))) ((by dsimp only;rw [Nat.add_mul]; omega)) X Eh (.drop (.keep Ek (.keep Ek (.keep Ek (.keep Ek (.keep Ek (.keep Ek (.nil))))))))
end Tor
end
section
namespace Tor
open Go Go.RowKit Go.Proofs
def c6 (x:Int):Prop:=(aJ x.natAbs).length≤1099511627700
theorem pU {x:Int} (h:x.natAbs<2^2048):c6 x:=by
 have:(aJ x.natAbs).length≤64:=cx (Nat.lt_of_lt_of_le h U)
 unfold c6;omega
theorem c6.small {x:Int} (h:c6 x):bm x:=by unfold c6 at h;unfold Tor.bm;omega
theorem je {x y:Int} (h:c6 y) (hl:x.natAbs≤y.natAbs):c6 x:=Nat.le_trans (cf hl) h
theorem cO {x y:Int} (h:bm y) (hl:x.natAbs≤y.natAbs):bm x:=Nat.le_trans (cf hl) h
theorem pa (n:Nat):(aJ (n+1)).length≤(aJ n).length+1:=cx (by
 have h:=cX n
 rw [Nat.pow_succ]
 have h0:0<4294967296^(aJ n).length:=Nat.pow_pos S
 generalize 4294967296^(aJ n).length=z at *
 omega)
theorem yW (x y:Int):Nat.gcd y.natAbs (x % y).natAbs=Nat.gcd x.natAbs y.natAbs:=by
 have h:Int.gcd y (x % y)=Int.gcd y x:=by rw [Int.emod_def]; exact Int.gcd_sub_mul_left_right y x (x / y)
 rw [Nat.gcd_comm x.natAbs]; exact h
theorem sB (x:Int) {y:Int} (hy:y≠0):(x % y).natAbs<y.natAbs:=by
 have h1:=Int.emod_nonneg x hy
 have h2:=Int.emod_lt x hy
 omega
attribute [local irreducible] J PJ aK one slT bR bC bv exT cj eP aT aI slV VT.le Ret bL
theorem pV (x:Int):Ok Tryz.prog 48 [o8 x.natAbs,one (.bool (decide (x<0)))] (aL x):=by
 have h:=dk (decide (x<0)) x.natAbs
 have e:(if decide (x<0)=true then -(x.natAbs:Int) else (x.natAbs:Int))=x:=by
  by_cases hx:x<0
  ·rw [if_pos (by simpa using hx)]; omega
  ·rw [if_neg (by simpa using hx)]; omega
 rw [e] at h
 exact h
set_option maxRecDepth 20000 in
theorem ib (a b:Int) (hb:b≠0) (ha:c6 a) (hbs:c6 b):Ok Tryz.prog 36 [aL a,aL b] (bv [aL (a / b),aL (a % b),one (.int .i64 0)]):=by
 obtain ⟨g1,g2,g3⟩:=vF (a:=a) hb
 have hB:b.natAbs≠0:=by omega
 have ha':(aJ a.natAbs).length≤1099511627700:=ha
 have hb':(aJ b.natAbs).length≤1099511627700:=hbs
 have hdiv:=ub a.natAbs b.natAbs hB ha' hb'
 have hlt:=Nat.mod_lt a.natAbs (Nat.pos_of_ne_zero hB)
 have hql:=Nat.div_le_self a.natAbs b.natAbs
 have hma:=pV a
 have hmb:=pV b
 have hsb:c9 b≠0:=by unfold c9;rw [if_neg hb]; split <;> decide
 have hmb2:=dk false b.natAbs
 rw [if_neg S] at hmb2
 have hsg:=dA ((a.natAbs % b.natAbs:Nat):Int)
 have hof:=gZ 1 S S
 have sq:bm ((a.natAbs / b.natAbs:Nat):Int):=cO ha.small (by rw [Int.natAbs_natCast]; exact hql)
 have s1:bm 1:=dm U
 have had:=lQ ((a.natAbs / b.natAbs:Nat):Int) 1 sq s1
 have hsu:=lS (b.natAbs:Int) ((a.natAbs % b.natAbs:Nat):Int) (cO hbs.small X) (cO hbs.small (by rw [Int.natAbs_natCast]; exact Nat.le_of_lt hlt))
 have hsu2:=lS b ((a.natAbs % b.natAbs:Nat):Int) hbs.small (cO hbs.small (by rw [Int.natAbs_natCast]; exact Nat.le_of_lt hlt))
 have hn1:=iO ((a.natAbs / b.natAbs:Nat):Int) sq
 have sq1:bm (((a.natAbs / b.natAbs:Nat):Int)+1):=by
  have h1:=pa (a.natAbs / b.natAbs)
  have h2:=cf hql
  have e:(((a.natAbs / b.natAbs:Nat):Int)+1).natAbs=a.natAbs / b.natAbs+1:=by generalize a.natAbs / b.natAbs=z;omega
  unfold Tor.bm
  rw [e]
  omega
 have hn2:=iO (((a.natAbs / b.natAbs:Nat):Int)+1) sq1
 refine Ok.enter Tryz.func36 Y Tryz.ntmps36 Y (fun w O => ?_)
 by_cases hn:a<0
 ·by_cases hr:a.natAbs % b.natAbs=0
  ·obtain ⟨k1,k2⟩:=g2 hn hr
   have hs0:c9 ((a.natAbs % b.natAbs:Nat):Int)=0:=by rw [hr]; rfl
   by_cases hm:b<0
   ·rw [if_pos hm] at k1
    refine ae (ai ?_)
    refine aV Y Y (ltN Y) (fun b2 => ?_)
    refine aV Y Y (ltN Y) (fun b3 => ?_)
    refine aH (T:=37) Y (ltN Y) (fun b4 => ?_)
    refine aH (T:=37) Y (ltN Y) (fun b5 => ?_)
    refine En Y (Ep (aa (ae (fo 9 aZ Z S (El (aj Y) (El (ak 3 Y Y Y) (El (aj Y) (El (sT (by assumption) (ak 3 Y Y Y)) ?_))))))))
    refine El (am (hma) Y ⟨(cM X),(aq (by rw [decide_eq_true hn])),Er⟩) ?_
    refine El (aj Y) (El (ak 2 Y Y Y) (El (aj Y) (El (sT (by assumption) (ak 2 Y Y Y)) (Ep ?_))))
    refine El (am (hmb) Y ⟨(cM X),(aq (by rw [decide_eq_true hm])),Er⟩) ?_
    refine a4 3 Y Y Y Y (a4 2 Y Y Y Y (Ep (aa (ae (ae (ai (El (aN 2 Y Y) ?_)))))))
    refine El (am (dA _) Y ⟨H,Er⟩) ?_
    refine El (sF (by assumption) (cg Y Y)) (Ep (aa (aB Y (az (aa (ae (ai (El (aj Y) (El (ak 3 Y Y Y) ?_)))))))))
    refine El (aj Y) (El (ak 2 Y Y Y) ?_)
    refine El (am (hdiv) Y ⟨H,H,Er⟩) ?_
    refine Em Y (El (ar Y Y) (El (ar Y Y) ?_))
    refine aH (T:=37) Y (ltN Y) (fun b7 => ?_)
    refine aH (T:=37) Y (ltN Y) (fun b8 => ?_)
    refine aA 1 Y Y Y Y Y (leN Y) Y (aA 0 Y Y Y Y Y (leN Y) Y (Ep (aa (ae (ae (ai (El (aj Y) (El (sT (by assumption) (ak 5 Y Y Y)) (Em Y ?_)))))))))
    refine Eo (ak 0 Y Y Y) ?_
    refine Eo (am (hsg) Y ⟨H,Er⟩) ?_
    refine Eo (sF X (cW Y Y)) (El (bk Y Y) (Ep (aa (aB Y (az (aa (ae (ae (ai ?_)))))))))
    refine El (aj Y) (El (sT (by assumption) (ak 5 Y Y Y)) (El (aj Y) (El (sT (by assumption) (ak 4 Y Y Y)) (El (jy Y Y) (Ep (aa (aB Y (az (aa ?_)))))))))
    refine ae ?_
    refine j6 [⟨5,b5,37,Lay.agg 2⟩,⟨4,b4,37,Lay.agg 2⟩] [_,_] [_,_,_,_] aZ Z Y ((db 2 Y).trans (.cons _ ((db 2 Y).trans (.cons _ (List.Perm.refl _))))) Y (And.intro Y (And.intro Y (trivial))) ?_
    refine ux (fun B=>ak 1 Y Y Y) Y Y ?_
    refine ux (fun B=>ak 0 Y Y Y) Y Y ?_
    refine us Y (us Y ?_)
    refine ux (fun B=>ah Y) Y Y ?_
    refine RunU.nil ⟨And.intro Y (And.intro Y (And.intro Y (And.intro Y (trivial)))),?_⟩
    refine cU (M' := [_,_,_,_,_,_]) Y (aa (aD ?_))
    refine jp Tryz.results36 (.cellB 1 Y Y Y (ci (by rw [k1]))) (.cellB 0 Y Y Y (ci (by rw [k2,hr]; rfl))) (.tmp Y H)
   ·rw [if_neg hm] at k1
    refine ae (ai ?_)
    refine aV Y Y (ltN Y) (fun b2 => ?_)
    refine aV Y Y (ltN Y) (fun b3 => ?_)
    refine aH (T:=37) Y (ltN Y) (fun b4 => ?_)
    refine aH (T:=37) Y (ltN Y) (fun b5 => ?_)
    refine En Y (Ep (aa (ae (fo 9 aZ Z S (El (aj Y) (El (ak 3 Y Y Y) (El (aj Y) (El (sT (by assumption) (ak 3 Y Y Y)) ?_))))))))
    refine El (am (hma) Y ⟨(cM X),(aq (by rw [decide_eq_true hn])),Er⟩) ?_
    refine El (aj Y) (El (ak 2 Y Y Y) (El (aj Y) (El (sF (by assumption) (ak 2 Y Y Y)) (Ep ?_))))
    refine El (am (hmb) Y ⟨(cM X),(aq (by rw [decide_eq_false hm])),Er⟩) ?_
    refine a4 3 Y Y Y Y (a4 2 Y Y Y Y (Ep (aa (ae (ae (ai (El (aN 2 Y Y) ?_)))))))
    refine El (am (dA _) Y ⟨H,Er⟩) ?_
    refine El (sF (by assumption) (cg Y Y)) (Ep (aa (aB Y (az (aa (ae (ai (El (aj Y) (El (ak 3 Y Y Y) ?_)))))))))
    refine El (aj Y) (El (ak 2 Y Y Y) ?_)
    refine El (am (hdiv) Y ⟨H,H,Er⟩) ?_
    refine Em Y (El (ar Y Y) (El (ar Y Y) ?_))
    refine aH (T:=37) Y (ltN Y) (fun b7 => ?_)
    refine aH (T:=37) Y (ltN Y) (fun b8 => ?_)
    refine aA 1 Y Y Y Y Y (leN Y) Y (aA 0 Y Y Y Y Y (leN Y) Y (Ep (aa (ae (ae (ai (El (aj Y) (El (sT (by assumption) (ak 5 Y Y Y)) (Em Y ?_)))))))))
    refine Eo (ak 0 Y Y Y) ?_
    refine Eo (am (hsg) Y ⟨H,Er⟩) ?_
    refine Eo (sF X (cW Y Y)) (El (bk Y Y) (Ep (aa (aB Y (az (aa (ae (ae (ai ?_)))))))))
    refine El (aj Y) (El (sT (by assumption) (ak 5 Y Y Y)) (El (aj Y) (El (sF (by assumption) (ak 4 Y Y Y)) (El (jy Y Y) (Ep (aa (aG Y (ai (El (ak 1 Y Y Y) ?_)))))))))
    refine El (am (hn1) Y ⟨H,Er⟩) ?_
    refine aA 1 Y Y Y Y Y (leN Y) Y (Ep (aa (ae ?_)))
    refine j6 [⟨5,b5,37,Lay.agg 2⟩,⟨4,b4,37,Lay.agg 2⟩] [_,_] [_,_,_,_] aZ Z Y ((db 2 Y).trans (.cons _ ((db 2 Y).trans (.cons _ (List.Perm.refl _))))) Y (And.intro Y (And.intro Y (trivial))) ?_
    refine ux (fun B=>ak 1 Y Y Y) Y Y ?_
    refine ux (fun B=>ak 0 Y Y Y) Y Y ?_
    refine us Y (us Y ?_)
    refine ux (fun B=>ah Y) Y Y ?_
    refine RunU.nil ⟨And.intro Y (And.intro Y (And.intro Y (And.intro Y (trivial)))),?_⟩
    refine cU (M' := [_,_,_,_,_,_]) Y (aa (aD ?_))
    refine jp Tryz.results36 (.cellB 1 Y Y Y (ci (by rw [k1]))) (.cellB 0 Y Y Y (ci (by rw [k2,hr]; rfl))) (.tmp Y H)
  ·obtain ⟨k1,k2⟩:=g3 hn hr
   have hs0:c9 ((a.natAbs % b.natAbs:Nat):Int)=1:=by unfold c9;rw [if_neg X,if_neg X]
   by_cases hm:b<0
   ·rw [if_pos hm] at k1
    refine ae (ai ?_)
    refine aV Y Y (ltN Y) (fun b2 => ?_)
    refine aV Y Y (ltN Y) (fun b3 => ?_)
    refine aH (T:=37) Y (ltN Y) (fun b4 => ?_)
    refine aH (T:=37) Y (ltN Y) (fun b5 => ?_)
    refine En Y (Ep (aa (ae (fo 9 aZ Z S (El (aj Y) (El (ak 3 Y Y Y) (El (aj Y) (El (sT (by assumption) (ak 3 Y Y Y)) ?_))))))))
    refine El (am (hma) Y ⟨(cM X),(aq (by rw [decide_eq_true hn])),Er⟩) ?_
    refine El (aj Y) (El (ak 2 Y Y Y) (El (aj Y) (El (sT (by assumption) (ak 2 Y Y Y)) (Ep ?_))))
    refine El (am (hmb) Y ⟨(cM X),(aq (by rw [decide_eq_true hm])),Er⟩) ?_
    refine a4 3 Y Y Y Y (a4 2 Y Y Y Y (Ep (aa (ae (ae (ai (El (aN 2 Y Y) ?_)))))))
    refine El (am (dA _) Y ⟨H,Er⟩) ?_
    refine El (sF (by assumption) (cg Y Y)) (Ep (aa (aB Y (az (aa (ae (ai (El (aj Y) (El (ak 3 Y Y Y) ?_)))))))))
    refine El (aj Y) (El (ak 2 Y Y Y) ?_)
    refine El (am (hdiv) Y ⟨H,H,Er⟩) ?_
    refine Em Y (El (ar Y Y) (El (ar Y Y) ?_))
    refine aH (T:=37) Y (ltN Y) (fun b7 => ?_)
    refine aH (T:=37) Y (ltN Y) (fun b8 => ?_)
    refine aA 1 Y Y Y Y Y (leN Y) Y (aA 0 Y Y Y Y Y (leN Y) Y (Ep (aa (ae (ae (ai (El (aj Y) (El (sT (by assumption) (ak 5 Y Y Y)) (Em Y ?_)))))))))
    refine Eo (ak 0 Y Y Y) ?_
    refine Eo (am (hsg) Y ⟨H,Er⟩) ?_
    refine Eo (sT X (cW Y Y)) (El (bk Y Y) (Ep (aa (aG Y (ae (a7 2 aZ Z S (El (ak 1 Y Y Y) ?_)))))))
    refine El (am (hof) Y ⟨H,Er⟩) ?_
    refine Ep ?_
    refine El (am (had) Y ⟨H,H,Er⟩) ?_
    refine aA 1 Y Y Y Y Y (leN Y) Y (Ep (aa (a7 5 aZ Z S (El (aj Y) (El (ak 4 Y Y Y) ?_)))))
    refine El (am (hmb2) Y ⟨(cM X),H,Er⟩) ?_
    refine El (ak 0 Y Y Y) ?_
    refine El (am (hsu) Y ⟨H,H,Er⟩) ?_
    refine Ep (aA 0 Y Y Y Y Y (leN Y) Y (Ep (aa (ae (ae (ai (El (aj Y) (El (sT (by assumption) (ak 5 Y Y Y)) (El (aj Y) ?_)))))))))
    refine El (sT (by assumption) (ak 4 Y Y Y)) (El (jy Y Y) (Ep (aa (aB Y (az (aa (ae ?_)))))))
    refine j6 [⟨5,b5,37,Lay.agg 2⟩,⟨4,b4,37,Lay.agg 2⟩] [_,_] [_,_,_,_] aZ Z Y ((db 2 Y).trans (.cons _ ((db 2 Y).trans (.cons _ (List.Perm.refl _))))) Y (And.intro Y (And.intro Y (trivial))) ?_
    refine ux (fun B=>ak 1 Y Y Y) Y Y ?_
    refine ux (fun B=>ak 0 Y Y Y) Y Y ?_
    refine us Y (us Y ?_)
    refine ux (fun B=>ah Y) Y Y ?_
    refine RunU.nil ⟨And.intro Y (And.intro Y (And.intro Y (And.intro Y (trivial)))),?_⟩
    refine cU (M' := [_,_,_,_,_,_]) Y (aa (aD ?_))
    refine jp Tryz.results36 (.cellB 1 Y Y Y (ci (by rw [k1,Int.natCast_add]; rfl))) (.cellB 0 Y Y Y (ci (by rw [k2,Int.ofNat_sub (Nat.le_of_lt hlt)]))) (.tmp Y H)
   ·rw [if_neg hm] at k1
    refine ae (ai ?_)
    refine aV Y Y (ltN Y) (fun b2 => ?_)
    refine aV Y Y (ltN Y) (fun b3 => ?_)
    refine aH (T:=37) Y (ltN Y) (fun b4 => ?_)
    refine aH (T:=37) Y (ltN Y) (fun b5 => ?_)
    refine En Y (Ep (aa (ae (fo 9 aZ Z S (El (aj Y) (El (ak 3 Y Y Y) (El (aj Y) (El (sT (by assumption) (ak 3 Y Y Y)) ?_))))))))
    refine El (am (hma) Y ⟨(cM X),(aq (by rw [decide_eq_true hn])),Er⟩) ?_
    refine El (aj Y) (El (ak 2 Y Y Y) (El (aj Y) (El (sF (by assumption) (ak 2 Y Y Y)) (Ep ?_))))
    refine El (am (hmb) Y ⟨(cM X),(aq (by rw [decide_eq_false hm])),Er⟩) ?_
    refine a4 3 Y Y Y Y (a4 2 Y Y Y Y (Ep (aa (ae (ae (ai (El (aN 2 Y Y) ?_)))))))
    refine El (am (dA _) Y ⟨H,Er⟩) ?_
    refine El (sF (by assumption) (cg Y Y)) (Ep (aa (aB Y (az (aa (ae (ai (El (aj Y) (El (ak 3 Y Y Y) ?_)))))))))
    refine El (aj Y) (El (ak 2 Y Y Y) ?_)
    refine El (am (hdiv) Y ⟨H,H,Er⟩) ?_
    refine Em Y (El (ar Y Y) (El (ar Y Y) ?_))
    refine aH (T:=37) Y (ltN Y) (fun b7 => ?_)
    refine aH (T:=37) Y (ltN Y) (fun b8 => ?_)
    refine aA 1 Y Y Y Y Y (leN Y) Y (aA 0 Y Y Y Y Y (leN Y) Y (Ep (aa (ae (ae (ai (El (aj Y) (El (sT (by assumption) (ak 5 Y Y Y)) (Em Y ?_)))))))))
    refine Eo (ak 0 Y Y Y) ?_
    refine Eo (am (hsg) Y ⟨H,Er⟩) ?_
    refine Eo (sT X (cW Y Y)) (El (bk Y Y) (Ep (aa (aG Y (ae (a7 2 aZ Z S (El (ak 1 Y Y Y) ?_)))))))
    refine El (am (hof) Y ⟨H,Er⟩) ?_
    refine Ep ?_
    refine El (am (had) Y ⟨H,H,Er⟩) ?_
    refine aA 1 Y Y Y Y Y (leN Y) Y (Ep (aa (a7 5 aZ Z S (El (aj Y) (El (ak 4 Y Y Y) ?_)))))
    refine El (am (hmb) Y ⟨(cM X),(aq (by rw [decide_eq_false hm])),Er⟩) ?_
    refine El (ak 0 Y Y Y) ?_
    refine El (am (hsu2) Y ⟨H,H,Er⟩) ?_
    refine Ep (aA 0 Y Y Y Y Y (leN Y) Y (Ep (aa (ae (ae (ai (El (aj Y) (El (sT (by assumption) (ak 5 Y Y Y)) (El (aj Y) ?_)))))))))
    refine El (sF (by assumption) (ak 4 Y Y Y)) (El (jy Y Y) (Ep (aa (aG Y (ai (El (ak 1 Y Y Y) ?_))))))
    refine El (am (hn2) Y ⟨H,Er⟩) ?_
    refine aA 1 Y Y Y Y Y (leN Y) Y (Ep (aa (ae ?_)))
    refine j6 [⟨5,b5,37,Lay.agg 2⟩,⟨4,b4,37,Lay.agg 2⟩] [_,_] [_,_,_,_] aZ Z Y ((db 2 Y).trans (.cons _ ((db 2 Y).trans (.cons _ (List.Perm.refl _))))) Y (And.intro Y (And.intro Y (trivial))) ?_
    refine ux (fun B=>ak 1 Y Y Y) Y Y ?_
    refine ux (fun B=>ak 0 Y Y Y) Y Y ?_
    refine us Y (us Y ?_)
    refine ux (fun B=>ah Y) Y Y ?_
    refine RunU.nil ⟨And.intro Y (And.intro Y (And.intro Y (And.intro Y (trivial)))),?_⟩
    refine cU (M' := [_,_,_,_,_,_]) Y (aa (aD ?_))
    refine jp Tryz.results36 (.cellB 1 Y Y Y (ci (by rw [k1,Int.natCast_add]; rfl))) (.cellB 0 Y Y Y (ci (by rw [k2,Int.ofNat_sub (Nat.le_of_lt hlt),Int.natAbs_of_nonneg (show 0≤b by omega)]))) (.tmp Y H)
 ·obtain ⟨k1,k2⟩:=g1 X
  by_cases hm:b<0
  ·rw [if_pos hm] at k1
   refine ae (ai ?_)
   refine aV Y Y (ltN Y) (fun b2 => ?_)
   refine aV Y Y (ltN Y) (fun b3 => ?_)
   refine aH (T:=37) Y (ltN Y) (fun b4 => ?_)
   refine aH (T:=37) Y (ltN Y) (fun b5 => ?_)
   refine En Y (Ep (aa (ae (fo 9 aZ Z S (El (aj Y) (El (ak 3 Y Y Y) (El (aj Y) (El (sF (by assumption) (ak 3 Y Y Y)) ?_))))))))
   refine El (am (hma) Y ⟨(cM X),(aq (by rw [decide_eq_false hn])),Er⟩) ?_
   refine El (aj Y) (El (ak 2 Y Y Y) (El (aj Y) (El (sT (by assumption) (ak 2 Y Y Y)) (Ep ?_))))
   refine El (am (hmb) Y ⟨(cM X),(aq (by rw [decide_eq_true hm])),Er⟩) ?_
   refine a4 3 Y Y Y Y (a4 2 Y Y Y Y (Ep (aa (ae (ae (ai (El (aN 2 Y Y) ?_)))))))
   refine El (am (dA _) Y ⟨H,Er⟩) ?_
   refine El (sF (by assumption) (cg Y Y)) (Ep (aa (aB Y (az (aa (ae (ai (El (aj Y) (El (ak 3 Y Y Y) ?_)))))))))
   refine El (aj Y) (El (ak 2 Y Y Y) ?_)
   refine El (am (hdiv) Y ⟨H,H,Er⟩) ?_
   refine Em Y (El (ar Y Y) (El (ar Y Y) ?_))
   refine aH (T:=37) Y (ltN Y) (fun b7 => ?_)
   refine aH (T:=37) Y (ltN Y) (fun b8 => ?_)
   refine aA 1 Y Y Y Y Y (leN Y) Y (aA 0 Y Y Y Y Y (leN Y) Y (Ep (aa (ae (ae (ai (El (aj Y) (El (sF (by assumption) (ak 5 Y Y Y)) (Em Y ?_)))))))))
   refine sg0 Y Y Y Y (sg0 Y Y Y Y (sg0 Y Y Y Y (El (bE Y Y) (Ep (aa (aB Y (az (aa (ae ?_)))))))))
   refine ae (ai (El (aj Y) (El (sF (by assumption) (ak 5 Y Y Y)) (El (aj Y) (El (sT (by assumption) (ak 4 Y Y Y)) (El (jy Y Y) (Ep (aa (aG Y ?_)))))))))
   refine ai (El (ak 1 Y Y Y) ?_)
   refine El (am (hn1) Y ⟨H,Er⟩) ?_
   refine aA 1 Y Y Y Y Y (leN Y) Y (Ep (aa (ae ?_)))
   refine j6 [⟨5,b5,37,Lay.agg 2⟩,⟨4,b4,37,Lay.agg 2⟩] [_,_] [_,_,_,_] aZ Z Y ((db 2 Y).trans (.cons _ ((db 2 Y).trans (.cons _ (List.Perm.refl _))))) Y (And.intro Y (And.intro Y (trivial))) ?_
   refine ux (fun B=>ak 1 Y Y Y) Y Y ?_
   refine ux (fun B=>ak 0 Y Y Y) Y Y ?_
   refine us Y (us Y ?_)
   refine ux (fun B=>ah Y) Y Y ?_
   refine RunU.nil ⟨And.intro Y (And.intro Y (And.intro Y (And.intro Y (trivial)))),?_⟩
   refine cU (M' := [_,_,_,_,_,_]) Y (aa (aD ?_))
   refine jp Tryz.results36 (.cellB 1 Y Y Y (ci (by rw [k1]))) (.cellB 0 Y Y Y (ci (by rw [k2]))) (.tmp Y H)
  ·rw [if_neg hm] at k1
   refine ae (ai ?_)
   refine aV Y Y (ltN Y) (fun b2 => ?_)
   refine aV Y Y (ltN Y) (fun b3 => ?_)
   refine aH (T:=37) Y (ltN Y) (fun b4 => ?_)
   refine aH (T:=37) Y (ltN Y) (fun b5 => ?_)
   refine En Y (Ep (aa (ae (fo 9 aZ Z S (El (aj Y) (El (ak 3 Y Y Y) (El (aj Y) (El (sF (by assumption) (ak 3 Y Y Y)) ?_))))))))
   refine El (am (hma) Y ⟨(cM X),(aq (by rw [decide_eq_false hn])),Er⟩) ?_
   refine El (aj Y) (El (ak 2 Y Y Y) (El (aj Y) (El (sF (by assumption) (ak 2 Y Y Y)) (Ep ?_))))
   refine El (am (hmb) Y ⟨(cM X),(aq (by rw [decide_eq_false hm])),Er⟩) ?_
   refine a4 3 Y Y Y Y (a4 2 Y Y Y Y (Ep (aa (ae (ae (ai (El (aN 2 Y Y) ?_)))))))
   refine El (am (dA _) Y ⟨H,Er⟩) ?_
   refine El (sF (by assumption) (cg Y Y)) (Ep (aa (aB Y (az (aa (ae (ai (El (aj Y) (El (ak 3 Y Y Y) ?_)))))))))
   refine El (aj Y) (El (ak 2 Y Y Y) ?_)
   refine El (am (hdiv) Y ⟨H,H,Er⟩) ?_
   refine Em Y (El (ar Y Y) (El (ar Y Y) ?_))
   refine aH (T:=37) Y (ltN Y) (fun b7 => ?_)
   refine aH (T:=37) Y (ltN Y) (fun b8 => ?_)
   refine aA 1 Y Y Y Y Y (leN Y) Y (aA 0 Y Y Y Y Y (leN Y) Y (Ep (aa (ae (ae (ai (El (aj Y) (El (sF (by assumption) (ak 5 Y Y Y)) (Em Y ?_)))))))))
   refine sg0 Y Y Y Y (sg0 Y Y Y Y (sg0 Y Y Y Y (El (bE Y Y) (Ep (aa (aB Y (az (aa (ae ?_)))))))))
   refine ae (ai (El (aj Y) (El (sF (by assumption) (ak 5 Y Y Y)) (El (aj Y) (El (sF (by assumption) (ak 4 Y Y Y)) (El (jy Y Y) (Ep (aa (aB Y ?_)))))))))
   refine az (aa (ae ?_))
   refine j6 [⟨5,b5,37,Lay.agg 2⟩,⟨4,b4,37,Lay.agg 2⟩] [_,_] [_,_,_,_] aZ Z Y ((db 2 Y).trans (.cons _ ((db 2 Y).trans (.cons _ (List.Perm.refl _))))) Y (And.intro Y (And.intro Y (trivial))) ?_
   refine ux (fun B=>ak 1 Y Y Y) Y Y ?_
   refine ux (fun B=>ak 0 Y Y Y) Y Y ?_
   refine us Y (us Y ?_)
   refine ux (fun B=>ah Y) Y Y ?_
   refine RunU.nil ⟨And.intro Y (And.intro Y (And.intro Y (And.intro Y (trivial)))),?_⟩
   refine cU (M' := [_,_,_,_,_,_]) Y (aa (aD ?_))
   refine jp Tryz.results36 (.cellB 1 Y Y Y (ci (by rw [k1]))) (.cellB 0 Y Y Y (ci (by rw [k2]))) (.tmp Y H)
theorem q9 (a b:Int) (ha:c6 a) (hb:c6 b):Ok Tryz.prog 117 [aL a,aL b] (aL (Nat.gcd a.natAbs b.natAbs)):=by
 refine Ok.enter Tryz.func117 Y Tryz.ntmps117 Y (fun w O => ?_)
 refine ae (ai ?_)
 refine aV Y Y (ltN Y) (fun b2 => ?_)
 refine aV Y Y (ltN Y) (fun b3 => ?_)
 refine aH (T:=37) Y (ltN Y) (fun b4 => ?_)
 refine Ep (aa (ae (au (co (Γ' := [(2,_),(3,_),(4,_)]) Eg (SubM.refl _) ?_))))
 refine bB (σ:=Int × Int) (Γk := [(2,_),(3,_),(4,_)]) Eg (fun p => []) (fun p M0=>((M0.set 1 (aT b3 37 (Lay.agg 2).sz [(0,Lay.agg 2,aL p.2)])).set 2 (aT b2 37 (Lay.agg 2).sz [(0,Lay.agg 2,aL p.1)]))) (fun p=>Nat.gcd p.1.natAbs p.2.natAbs=Nat.gcd a.natAbs b.natAbs∧c6 p.1∧c6 p.2) (fun p=>p.2.natAbs) ((a,b)) (⟨rfl,ha,hb⟩) Eh (.keep Ek (.keep (q8 H) (.keep (q8 H) (.nil)))) (fun p hp => ?_)
 refine bQ (Γ' := [(2,_),(3,_),(4,_)]) (M' := [_,_,_]) Y Y ?_
 obtain ⟨x,y⟩:=p
 dsimp only at hp ⊢
 obtain ⟨p1,p2,p3⟩:=hp
 have hsg:=dA y
 by_cases hy:y=0
 ·have hs0:c9 y=0:=by rw [hy]; rfl
  rw [hy] at p1
  rw [← p1,Int.natAbs_zero,Nat.gcd_zero_right]
  have hx:(aJ x.natAbs).length≤1099511627700:=p2
  have hm:=dk false x.natAbs
  rw [if_neg S] at hm
  refine ae (ae (ai (El (ak 1 Y Y Y) ?_)))
  refine El (am (hsg) Y ⟨H,Er⟩) ?_
  refine El (sF X (dy Y Y)) (Ep (aa (aB Y (aY (av (av (aF (aa (ae ?_)))))))))
  refine ai (El (aj Y) (El (fy 2 0 1 Y Y Y Y Y) ?_))
  refine El (am (hm) Y ⟨(cM X),H,Er⟩) ?_
  refine aA 0 Y Y Y Y Y (leN Y) Y (Ep (aa (aD ?_)))
  refine aS Tryz.results117 (.cellB 0 Y Y Y H)
 ·have hs0:c9 y≠0:=by unfold c9;rw [if_neg hy]; split <;> decide
  have hdm:=ib x y hy p2 p3
  have hlt:=sB x hy
  refine ae (ae (ai (El (ak 1 Y Y Y) ?_)))
  refine El (am (hsg) Y ⟨H,Er⟩) ?_
  refine El (sT (by assumption) (dy Y Y)) (Ep (aa (aG Y (az (aa (au (ae (ai (El (ak 2 Y Y Y) ?_)))))))))
  refine El (ak 1 Y Y Y) ?_
  refine El (am (hdm) Y ⟨H,H,Er⟩) ?_
  refine Em Y (El (ar Y Y) (El (ar Y Y) (El (ar Y Y) ?_)))
  refine aH (T:=37) Y (ltN Y) (fun b5 => ?_)
  refine aH (T:=37) Y (ltN Y) (fun b6 => ?_)
  refine aA 1 Y Y Y Y Y (leN Y) Y (aA 0 Y Y Y Y Y (leN Y) Y (En Y (Ep (aa ?_))))
  refine AE [⟨⟨3,b3,37,Lay.agg 2⟩,_⟩,⟨⟨2,b2,37,Lay.agg 2⟩,_⟩] [_,_,_] aZ Z ((db 3 Y).trans (.cons _ ((db 3 Y).trans (.cons _ (List.Perm.refl _))))) Y (And.intro Y (And.intro Y (trivial))) ?_
  refine wl 0 Y Z (fun B=>ak 0 Y Y Y) Y ?_
  refine wx (fun B=>ak 0 Y Y Y) Y ?_
  refine ws Y (ws Y ?_)
  refine RunY.nil ⟨And.intro Y (And.intro Y (And.intro Y (And.intro Y (trivial)))),?_⟩
  refine cU (M' := [_,_,_,_,_]) Y (aE (nj ((db 4 Y).trans (.cons _ ((db 0 Y).trans (.cons _ ((db 0 Y).trans (.cons _ (List.Perm.refl _))))))) ?_))
  refine aP ((y,x % y)) (⟨by rw [← p1]; exact yW x y,p3,je p3 (Nat.le_of_lt hlt)⟩) (by assumption) Eh (.keep Ek (.keep Ek (.keep Ek (SubM.nilR _))))
end Tor
end
section
namespace Tor
open Go Go.RowKit Go.Proofs
attribute [local irreducible] J PJ aK one slT bR bC bv exT cj eP aT aI slV VT.le Ret bL
theorem vL (n d:Int) (hd:d≠0) (hn:c6 n) (hds:c6 d):Ok Tryz.prog 118 [aL n,aL d] (bv [cB (Rat.divInt n d),one (.int .i64 0)]):=by
 have hsi:=dA d
 have hn1:=iO n hn.small
 have hd1:=iO d hds.small
 have e1:c6 (-n):=je hn X
 have e2:c6 (-d):=je hds X
 have g0:=t8 (n:=n) hd
 have g1:c6 ((Nat.gcd n.natAbs d.natAbs:Nat):Int):=je hds (by rw [Int.natAbs_natCast]; exact Nat.le_of_dvd X (Nat.gcd_dvd_right _ _))
 unfold cB dE
 refine Ok.enter Tryz.func118 Y Tryz.ntmps118 Y (fun w O => ?_)
 by_cases h:d<0
 ·obtain ⟨l1,l2⟩:=vK (n:=n) h
  have hs:c9 d = -1:=by unfold c9;rw [if_neg hd,if_pos h]
  have hg:=q9 (-n) (-d) e1 e2
  rw [Int.natAbs_neg,Int.natAbs_neg] at hg
  have hm1:=ib (-n) _ g0 e1 g1
  have hm2:=ib (-d) _ g0 e2 g1
  have d1:((Nat.gcd n.natAbs d.natAbs:Nat):Int)∣n:=Int.gcd_dvd_left ..
  have d2:((Nat.gcd n.natAbs d.natAbs:Nat):Int)∣d:=Int.gcd_dvd_right ..
  rw [Int.ediv_neg, ← Int.neg_ediv_of_dvd d1] at l1
  rw [Int.ediv_neg, ← Int.neg_ediv_of_dvd d2] at l2
  refine ae (ai ?_)
  refine aV Y Y (ltN Y) (fun b2 => ?_)
  refine aV Y Y (ltN Y) (fun b3 => ?_)
  refine bD (T:=58) Y Y Y (fun b4 => ?_)
  refine En Y (Ep (aa (ae (ae (ai (El (aN 1 Y Y) ?_))))))
  refine El (am (hsi) Y ⟨H,Er⟩) ?_
  refine El (sF X (cg Y Y)) (Ep (aa (aB Y (az (aa (ae (ae (ai (El (aN 1 Y Y) ?_)))))))))
  refine El (am (hsi) Y ⟨H,Er⟩) ?_
  refine El (sT X (a6 Y Y)) (Ep (aa (aG Y (fo 3 aZ Z S (El (aN 2 Y Y) ?_)))))
  refine El (am (hn1) Y ⟨H,Er⟩) ?_
  refine El (aN 1 Y Y) (Ep ?_)
  refine El (am (hd1) Y ⟨H,Er⟩) ?_
  refine a4 2 Y Y Y Y (a4 1 Y Y Y Y (Ep (aa (ae (ai (El (aN 2 Y Y) (El (aN 1 Y Y) ?_)))))))
  refine El (am (hg) Y ⟨H,H,Er⟩) ?_
  refine aH (T:=37) Y (ltN Y) (fun b6 => ?_)
  refine aA 0 Y Y Y Y Y (leN Y) Y (Ep (aa (ae (ai (El (aN 3 Y Y) (El (ak 0 Y Y Y) ?_))))))
  refine El (am (hm1) Y ⟨H,H,Er⟩) ?_
  refine Em Y (El (ar Y Y) (El (ar Y Y) (El (ar Y Y) ?_)))
  refine aH (T:=37) Y (ltN Y) (fun b7 => ?_)
  refine aH (T:=37) Y (ltN Y) (fun b8 => ?_)
  refine aA 1 Y Y Y Y Y (leN Y) Y (aA 0 Y Y Y Y Y (leN Y) Y (En Y (Ep (aa (ae (ai (El (aN 4 Y Y) (El (ak 2 Y Y Y) ?_))))))))
  refine El (am (hm2) Y ⟨H,H,Er⟩) ?_
  refine Em Y (El (ar Y Y) (El (ar Y Y) (El (ar Y Y) ?_)))
  refine aH (T:=37) Y (ltN Y) (fun b10 => ?_)
  refine aH (T:=37) Y (ltN Y) (fun b11 => ?_)
  refine aA 1 Y Y Y Y Y (leN Y) Y (aA 0 Y Y Y Y Y (leN Y) Y (En Y (Ep (aa (ae (ai (El (ak 3 Y Y Y) (El (ak 1 Y Y Y) (stB Y Y Y ?_)))))))))
  refine BuildK.cons Y Y Y (BuildK.cons Y Y Y (BuildK.nil (a4 5 Y Y Y Y (En Y (Ep (aa (aD ?_)))))))
  refine dg Tryz.results118 (.cellW 5 Y Y (iQ l1 l2)) (.tmp Y H)
 ·obtain ⟨l1,l2⟩:=q7 (n:=n) (show 0<d by omega)
  have hs:c9 d=1:=by unfold c9;rw [if_neg hd,if_neg h]
  have hg:=q9 n d hn hds
  have hm1:=ib n _ g0 hn g1
  have hm2:=ib d _ g0 hds g1
  refine ae (ai ?_)
  refine aV Y Y (ltN Y) (fun b2 => ?_)
  refine aV Y Y (ltN Y) (fun b3 => ?_)
  refine bD (T:=58) Y Y Y (fun b4 => ?_)
  refine En Y (Ep (aa (ae (ae (ai (El (aN 1 Y Y) ?_))))))
  refine El (am (hsi) Y ⟨H,Er⟩) ?_
  refine El (sF X (cg Y Y)) (Ep (aa (aB Y (az (aa (ae (ae (ai (El (aN 1 Y Y) ?_)))))))))
  refine El (am (hsi) Y ⟨H,Er⟩) ?_
  refine El (sF X (a6 Y Y)) (Ep (aa (aB Y (az (aa (ae (ai (El (aN 2 Y Y) (El (aN 1 Y Y) ?_)))))))))
  refine El (am (hg) Y ⟨H,H,Er⟩) ?_
  refine aH (T:=37) Y (ltN Y) (fun b6 => ?_)
  refine aA 0 Y Y Y Y Y (leN Y) Y (Ep (aa (ae (ai (El (aN 3 Y Y) (El (ak 0 Y Y Y) ?_))))))
  refine El (am (hm1) Y ⟨H,H,Er⟩) ?_
  refine Em Y (El (ar Y Y) (El (ar Y Y) (El (ar Y Y) ?_)))
  refine aH (T:=37) Y (ltN Y) (fun b7 => ?_)
  refine aH (T:=37) Y (ltN Y) (fun b8 => ?_)
  refine aA 1 Y Y Y Y Y (leN Y) Y (aA 0 Y Y Y Y Y (leN Y) Y (En Y (Ep (aa (ae (ai (El (aN 4 Y Y) (El (ak 2 Y Y Y) ?_))))))))
  refine El (am (hm2) Y ⟨H,H,Er⟩) ?_
  refine Em Y (El (ar Y Y) (El (ar Y Y) (El (ar Y Y) ?_)))
  refine aH (T:=37) Y (ltN Y) (fun b10 => ?_)
  refine aH (T:=37) Y (ltN Y) (fun b11 => ?_)
  refine aA 1 Y Y Y Y Y (leN Y) Y (aA 0 Y Y Y Y Y (leN Y) Y (En Y (Ep (aa (ae (ai (El (ak 3 Y Y Y) (El (ak 1 Y Y Y) (stB Y Y Y ?_)))))))))
  refine BuildK.cons Y Y Y (BuildK.cons Y Y Y (BuildK.nil (a4 5 Y Y Y Y (En Y (Ep (aa (aD ?_)))))))
  refine dg Tryz.results118 (.cellW 5 Y Y (iQ l1 l2)) (.tmp Y H)
theorem uc (a b c d:Int):Ok Tryz.prog 41 [dE a b,dE c d] (one (.bool (decide (a=c) && decide (b=d)))):=by
 have h1:=oi a c
 have h2:=oi b d
 unfold dE
 refine Ok.enter Tryz.func41 Y Tryz.ntmps41 Y (fun w O => ?_)
 by_cases c1:a=c
 ·rw [decide_eq_true c1] at h1 ⊢
  refine ae (ai ?_)
  refine aV Y Y (ltN Y) (fun b2 => ?_)
  refine aV Y Y (ltN Y) (fun b3 => ?_)
  refine En Y (Ep (aa (ae (ai (El (aj Y) (El (ak 1 Y Y Y) (El (aj Y) (El (ak 0 Y Y Y) ?_))))))))
  refine El (am (h1) Y ⟨H,H,Er⟩) ?_
  refine Em Y (Eo (aj Y) (Eo (ak 1 Y Y Y) (Eo (aj Y) (Eo (ak 0 Y Y Y) ?_))))
  refine Eo (am (h2) Y ⟨H,H,Er⟩) ?_
  refine El (bk Y Y) (En Y (Ep (aa (aD ?_))))
  refine aS Tryz.results41 (.tmp Y H)
 ·rw [decide_eq_false c1] at h1 ⊢
  refine ae (ai ?_)
  refine aV Y Y (ltN Y) (fun b2 => ?_)
  refine aV Y Y (ltN Y) (fun b3 => ?_)
  refine En Y (Ep (aa (ae (ai (El (aj Y) (El (ak 1 Y Y Y) (El (aj Y) (El (ak 0 Y Y Y) ?_))))))))
  refine El (am (h1) Y ⟨H,H,Er⟩) ?_
  refine Em Y (sg0 Y Y Y Y (sg0 Y Y Y Y (sg0 Y Y Y Y (sg0 Y Y Y Y (sg0 Y Y Y Y (El (bE Y Y) (En Y (Ep (aa ?_)))))))))
  refine aD ?_
  refine aS Tryz.results41 (.tmp Y H)
theorem wX (q r:Rat):Ok Tryz.prog 41 [cB q,cB r] (one (.bool (decide (q=r)))):=by
 have h:=uc q.num q.den r.num r.den
 have e:(decide (q.num=r.num) && decide ((q.den:Int)=(r.den:Int)))=decide (q=r):=by
  rw [← Bool.decide_and]
  exact decide_eq_decide.2 ⟨fun ⟨h1,h2⟩=>Rat.ext h1 X,fun h=>by rw [h]; exact ⟨rfl,rfl⟩⟩
 rw [e] at h
 exact h
theorem oy (x:Int) (hx:bm x):Ok Tryz.prog 69 [aL x] (one (.bool true)):=by
 have hx':(aJ x.natAbs).length≤1099511627776:=hx
 have h:=wK (decide (x<0)) (aJ x.natAbs) X
 have e:fO (decide (x<0)) (aJ x.natAbs)=true:=by
  unfold fO
  by_cases h0:(aJ x.natAbs).length=0
  ·have:=eC h0
   rw [if_pos h0,decide_eq_false X]; rfl
  ·rw [if_neg h0]
   have h1:x.natAbs≠0:=fun k=>h0 (by rw [k]; rfl)
   have:=sA h1
   exact decide_eq_true X
 rw [e] at h
 exact h
theorem ud (q:Rat) (h1:c6 q.num) (h2:c6 (q.den:Int)):Ok Tryz.prog 67 [cB q] (one (.bool true)):=by
 have v1:=oy q.num h1.small
 have v2:=oy (q.den:Int) h2.small
 have hsi:=dA (q.den:Int)
 have hd:=q.den_nz
 have hs:c9 (q.den:Int)=1:=by unfold c9;rw [if_neg X,if_neg X]
 have hg:=q9 q.num (q.den:Int) h1 h2
 rw [Int.natAbs_natCast,show Nat.gcd q.num.natAbs q.den=1 from q.reduced] at hg
 have ho:=gZ 1 S S
 have hc:=yJ ((1:Nat):Int) 1 (dm U) (dm U)
 rw [show cY ((1:Nat):Int) 1=0 from rfl] at hc
 unfold cB dE
 refine Ok.enter Tryz.func67 Y Tryz.ntmps67 Y (fun w O => ?_)
 refine ae (ai ?_)
 refine aV Y Y (ltN Y) (fun b1 => ?_)
 refine En Y (Ep (aa (ae (ae (ai (El (aj Y) (El (ak 0 Y Y Y) ?_)))))))
 refine El (am (v1) Y ⟨H,Er⟩) ?_
 refine El (cS Y) (Em Y (Eo (aj Y) (Eo (ak 0 Y Y Y) ?_)))
 refine Eo (am (v2) Y ⟨H,Er⟩) ?_
 refine Eo (cS Y) (El (bE Y Y) (Em Y (Eo (aj Y) (Eo (ak 0 Y Y Y) ?_))))
 refine Eo (am (hsi) Y ⟨H,Er⟩) ?_
 refine Eo (sF X (a6 Y Y)) (El (bE Y Y) (Ep (aa (aB Y (az (aa (ae (ai (El (aj Y) ?_)))))))))
 refine El (ak 0 Y Y Y) (El (aj Y) (El (ak 0 Y Y Y) ?_))
 refine El (am (hg) Y ⟨H,H,Er⟩) ?_
 refine El (am (ho) Y ⟨H,Er⟩) ?_
 refine El (am (hc) Y ⟨H,H,Er⟩) ?_
 refine El (sT X (cg Y Y)) (En Y (Ep (aa (aD ?_))))
 refine aS Tryz.results67 (.tmp Y H)
end Tor
end
section
namespace Tor
def pW (n:Nat):Prop := ∀ d,2≤d→d*d≤n→n % d≠0
def iR (p:Nat→Bool):Nat→Nat
 | 0 => 0
 | m + 1 => if p m then m else iR p m
noncomputable def eo (m:Nat):Bool := @decide (2≤m∧m<2147483648∧pW m) (Classical.propDecidable _)
theorem ue {m:Nat} : eo m=true↔2≤m∧m<2147483648∧pW m := @decide_eq_true_iff _ (Classical.propDecidable _)
abbrev bf (p:Nat→Bool) (n:Nat):Nat:=iR p (min n 2147483648)
end Tor
end
section
namespace Tor
open Go Go.RowKit Go.Proofs
attribute [local irreducible] J PJ aK one slT bR bC bv exT cj eP aT aI slV VT.le Ret bL
attribute [local irreducible] aL
theorem vM (p a b:Nat) (hp0:0<p) (hp:p<4294967296) (ha:a<4294967296) (hb:b<4294967296):Ok Tryz.prog 140 [one (.int .u64 p),one (.int .u64 a),one (.int .u64 b)] (one (.int .u64 (((a+b) % p:Nat):Int))):=by
 have hr:=ov (a+b) p X hp0 X
 refine Ok.enter Tryz.func140 Y Tryz.ntmps140 Y (fun w O => ?_)
 refine ae (ai (En Y (Ep (aa (ae (ai (Em Y (Em Y (El (dJ Y Y X) ?_)))))))))
 refine Em Y ?_
 refine El (am (hr) Y ⟨H,H,Er⟩) ?_
 refine En Y (Ep (aa (aD ?_)))
 refine aS Tryz.results140 (.tmp Y H)
end Tor
end
section
namespace Tor
open Go Go.RowKit Go.Proofs
def mw (v:List Int):VT:=slT (.agg 2) v.length (fun i=>aL (v.getD i 0))
theorem rc {u v:List Int} {i:Nat} (h:u.take i=v.take i) (hl:u.length=v.length) (hi:i<u.length) (he:u.getD i 0=v.getD i 0):u.take (i+1)=v.take (i+1):=by
 rw [List.take_add_one,List.take_add_one,h,List.getElem?_eq_getElem hi,List.getElem?_eq_getElem (hl▸hi)]
 simp only [List.getD,List.getElem?_eq_getElem hi,List.getElem?_eq_getElem (hl▸hi),Option.getD_some] at he
 rw [he]
attribute [local irreducible] J PJ aK one slT bR bC bv exT cj eP aT aI slV VT.le Ret bL
attribute [local irreducible] aL
theorem sC (u v:List Int):Ok Tryz.prog 65 [mw u,mw v] (one (.bool (decide (u=v)))):=by
 unfold mw
 refine Ok.enter Tryz.func65 Y Tryz.ntmps65 Y (fun w O => ?_)
 refine iW (t:=0) Y (fun _ _=>fa) (fun hb => ?_)
 refine ae (ai (En Y (Ep (aa (ae (ae (ai (Em Y (El (aX Y) ?_)))))))))
 refine Em Y (El (aX Y) (El (dy Y Y) (Ep (aa ?_))))
 refine a9 Y (fun hc => ?_) (fun hc => ?_) <;> simp only [decide_eq_true_eq,decide_eq_false_iff_not,ne_eq,Decidable.not_not] at hc
 ·refine ae (ai (En Y (Ep (aa (aD (aR ?_))))))
  refine aS Tryz.results65 (.tmp Y (aq ?_))
  have : ¬ (u=v):=by intro e;subst e;exact hc Y
  simp [this]
 ·have hlen:u.length=v.length:=by omega
  refine az (aa (ae (ae (ai (En Y (Ep (aa (au ?_))))))))
  refine cK (σ:=Nat) (fun i => [(0,mw u),(1,mw v),(5,one (.int .i64 (i:Nat)))]) (fun _ => []) (fun i=>i≤u.length∧u.take i=v.take i) (fun i=>u.length - i) 0 ⟨Nat.zero_le _,rfl⟩ Ei (SubM.refl _) (fun i ⟨hi,ht⟩ => ?_)
  unfold mw
  refine ae (ae (ai (Em Y (Em Y (El (aX Y) (El (a6 Y Y) (Ep (aa ?_))))))))
  refine a9 Y (fun hc => ?_) (fun hc => ?_) <;> simp at hc
  ·refine az (aa (ae (au (ae (a7 10 aZ Z S (Em Y (Em Y ?_)))))))
   (refine El (aC Y Y ?_) ?_;omega)
   refine El (aO Y) (Em Y (Em Y ?_))
   (refine El (aC Y Y ?_) ?_;omega)
   refine El (aO Y) ?_
   refine El (am (oi _ _) Y ⟨H,H,Er⟩) ?_
   refine El (cS Y) (Ep (Ep (aa ?_)))
   refine a9 Y (fun hc2 => ?_) (fun hc2 => ?_)
   ·simp at hc2
    refine ae (ai (En Y (Ep (aa (aD (bI (aR (aR (bI ?_)))))))))
    refine aR ?_
    refine aS Tryz.results65 (.tmp Y (aq ?_))
    have : ¬ (u=v):=by intro e;subst e;exact hc2 Y
    simp [this]
   ·have he:u.getD i 0=v.getD i 0:=by simpa using hc2
    refine az (aE (aa (ai (Em Y ?_))))
    (refine El (cr Y Y (aQ ?_ ?_)) ?_;omega;omega)
    refine En Y (Ep ?_)
    exact cd (s:=i) (i+1) ⟨by omega,rc ht hlen X he⟩ (by show u.length - (i+1)<u.length - i;omega) Ei (SubM.refl _)
  ·refine aY (av (av (aF (aa (ae (ai (En Y (Ep (aa ?_)))))))))
   refine aD ?_
   refine aS Tryz.results65 (.tmp Y (aq ?_))
   rw [List.take_of_length_le X,List.take_of_length_le X] at ht
   simp [ht]
end Tor
end
section
namespace Tor
open Go Go.RowKit Go.Proofs
def yX (a:List (List Int)):VT:=slT .one a.length (fun i=>mw (a.getD i []))
def CO (r c:Int) (a:List (List Int)):VT:=bC 3 [(0, .one,one (.int .i64 r)),(1, .one,one (.int .i64 c)),(2, .one,yX a)]
attribute [local irreducible] J PJ aK one slT bR bC bv exT cj eP aT aI slV VT.le Ret bL
attribute [local irreducible] aL mw
end Tor
end
section
namespace Tor
open Go Go.RowKit Go.Proofs
def fz (v:List (Bool × List Nat)):VT:=slT (.agg 2) v.length (fun i=>kL (v.getD i (false, [])).1 (v.getD i (false, [])).2)
def mY (x:Int):Bool × List Nat:=(decide (x<0),aJ x.natAbs)
theorem yY (v:List Int):VT.le (mw v) (fz (v.map mY)):=by
 unfold mw fz
 refine VT.le_trans (d5 (ψ:=fun i=>kL ((v.map mY).getD i (false, [])).1 ((v.map mY).getD i (false, [])).2) (fun i hi => ?_)) (by rw [List.length_map]; exact VT.le_refl _)
 simp only [List.getD,List.getElem?_map,List.getElem?_eq_getElem hi,Option.map_some,Option.getD_some]
 exact yI _
theorem lV : ∀ {l:List Nat},gA l→0<l.length→l.getD (l.length - 1) 0≠0
 | [], _, h => absurd h S
 | [d], h, _ => h
 | _ :: d :: l, h, _ => lV (l := d :: l) h (by simp)
theorem uf (x:Int):fO (mY x).1 (mY x).2=true:=by
 unfold fO mY
 simp only
 split
 ·rename_i h
  have e:=List.eq_nil_of_length_eq_zero h
  have:x.natAbs=0:=by rw [← bY x.natAbs,e]; rfl
  have : ¬ x<0:=by omega
  simp [this]
 ·rename_i h
  have:=lV (lJ x.natAbs) X
  simpa using this
theorem eH (x:Int):c9 x=0↔x=0:=by
 unfold c9
 constructor
 ·intro h;split at h
  ·assumption
  ·split at h <;> omega
 ·intro h;rw [if_pos h]
theorem vN {α:Type} {p:α→Bool} {v:List α} {d:α} {i:Nat} (h:(v.take i).all p=true) (hi:i<v.length) (he:p (v.getD i d)=true):(v.take (i+1)).all p=true:=by
 rw [List.take_add_one,List.all_append,h,List.getElem?_eq_getElem hi]
 simp only [List.getD,List.getElem?_eq_getElem hi,Option.getD_some] at he
 simp [he]
theorem ug {α:Type} {p:α→Bool} {v:List α} {d:α} {i:Nat} (hi:i<v.length) (he:p (v.getD i d)=false):v.all p=false:=by
 simp only [List.getD,List.getElem?_eq_getElem hi,Option.getD_some] at he
 rw [List.all_eq_false]; exact ⟨_,List.getElem_mem hi,by simp [he]⟩
attribute [local irreducible] J PJ aK one slT bR bC bv exT cj eP aT aI slV VT.le Ret bL
attribute [local irreducible] aL kL
end Tor
end
section
namespace Tor
open Go Go.RowKit Go.Proofs
abbrev uh:=List (Bool × List Nat)
def eD (a:List uh):VT:=slT .one a.length (fun i=>fz (a.getD i []))
def lW (r c:Int) (a:List uh):VT:=bC 3 [(0, .one,one (.int .i64 r)),(1, .one,one (.int .i64 c)),(2, .one,eD a)]
def jQ (c:Int) (v:uh):Bool:=decide ((v.length:Int)=c) && v.all fun p=>fO p.1 p.2
def jf (r c:Int) (a:List uh):Bool:=decide (0≤r∧0≤c∧(a.length:Int)=r) && a.all (jQ c)
attribute [local irreducible] J PJ aK one slT bR bC bv exT cj eP aT aI slV VT.le Ret bL
attribute [local irreducible] aL kL fz
end Tor
end
section
namespace Tor
open Go Go.RowKit Go.Proofs
def tab (r c:Nat) (F:Nat→Nat→Int):List (List Int):=(List.range r).map fun i=>(List.range c).map (F i)
@[simp] theorem tab_length (r c:Nat) (F:Nat→Nat→Int):(tab r c F).length=r:=by simp [tab]
theorem Be {r c i:Nat} (F:Nat→Nat→Int) (hi:i<r):(tab r c F).getD i []=(List.range c).map (F i):=by simp [tab,List.getD,hi]
theorem CP {c j:Nat} (f:Nat→Int) (hj:j<c):((List.range c).map f).getD j 0=f j:=by simp [List.getD,hj]
def bJ (c:Nat) (f:Nat→Int):VT:=slT (.agg 2) c (fun j=>aL (f j))
theorem oz (c:Nat) (f:Nat→Int):VT.le (bJ c f) (mw ((List.range c).map f)):=by
 unfold bJ mw
 refine VT.le_trans (d5 (ψ:=fun j=>aL (((List.range c).map f).getD j 0)) (fun j hj => ?_)) (gN (by simp))
 rw [CP f hj]; exact VT.le_refl _
def bW (r c:Nat) (F:Nat→Nat→Int):VT:=bC 3 [(0, .one,one (.int .i64 r)),(1, .one,one (.int .i64 c)),(2, .one,slT .one r (fun i=>bJ c (F i)))]
theorem yZ (r c:Nat) (F:Nat→Nat→Int):VT.le (bW r c F) (CO r c (tab r c F)):=by
 unfold bW CO yX
 refine fj (fun q hq => ?_)
 rcases List.mem_cons.1 hq with rfl | hq
 ·exact ⟨_,List.mem_cons_self,H⟩
 rcases List.mem_cons.1 hq with rfl | hq
 ·exact ⟨_,List.mem_cons_of_mem _ List.mem_cons_self,H⟩
 rcases List.mem_cons.1 hq with rfl | hq
 ·refine ⟨_,List.mem_cons_of_mem _ (List.mem_cons_of_mem _ List.mem_cons_self),VT.le_trans (d5 (ψ:=fun i=>mw ((tab r c F).getD i [])) (fun i hi => ?_)) (gN (by simp))⟩
  rw [Be F hi]; exact oz _ _
 ·cases hq
theorem vO {r c:Nat} {F G:Nat→Nat→Int} (h : ∀ i j,i<r→j<c→F i j=G i j):VT.le (bW r c F) (bW r c G):=by
 unfold bW
 refine fj (fun q hq => ?_)
 rcases List.mem_cons.1 hq with rfl | hq
 ·exact ⟨_,List.mem_cons_self,H⟩
 rcases List.mem_cons.1 hq with rfl | hq
 ·exact ⟨_,List.mem_cons_of_mem _ List.mem_cons_self,H⟩
 rcases List.mem_cons.1 hq with rfl | hq
 ·refine ⟨_,List.mem_cons_of_mem _ (List.mem_cons_of_mem _ List.mem_cons_self),d5 fun i hi=>d5 fun j hj=>gN (by rw [h i j hi hj])⟩
 ·cases hq
theorem iS:VT.le (one (.agg #[.bool false, .slice none 0 0])) (aL 0):=by
 intro v h e
 have e:v = .agg #[.bool false, .slice none 0 0]:=e
 subst e
 refine ⟨_,rfl,rfl,by simp [Value.oneCell'],fun q hq => ?_⟩
 rcases List.mem_cons.1 hq with rfl | hq
 ·exact ⟨.bool false,rfl,rfl⟩
 ·rcases List.mem_cons.1 hq with rfl | hq
  ·exact ⟨.slice none 0 0,rfl,⟨none,0,rfl,Nat.le_refl _,by decide,fun i hi=>absurd hi (Nat.not_lt_zero _)⟩⟩
  ·cases hq
theorem iT {sv:Option Nat} {T:TypeId} {L:Lay} {cap n:Nat} {φ:Nat→VT} {g:RH} {h:Hp} (hp:(aI sv T L cap n φ).p g h) (he:sv=none):n=0:=by
 obtain ⟨h1,h2,h3,_⟩:=hp;have:=h3 he;omega
theorem ui {bs:List Nat} {i:Nat} (h:i<bs.length):bs[i]? = some (bs.getD i 0):=by simp [List.getD,h]
def iU (sv:Option Nat) (cap r c:Nat) (bs:List Nat):Own:=aI sv 32 .one cap r (fun q=>one (slV (some (bs.getD q 0)) c c))
def fA (c:Nat) (bs:List Nat) (F:Nat→Nat→Int):Own:=dC 37 (.agg 2) c bs (fun q k=>aL (F q k))
theorem fU {c:Nat} {bs:List Nat} {F G:Nat→Nat→Int} (h : ∀ i j,i<bs.length→j<c→F i j=G i j):Own.le (fA c bs F) (fA c bs G):=jF fun i j hi hj=>by rw [h i j hi hj]
abbrev Bf (r:Nat) := {s:List Nat × Option Nat × Nat // s.1.length=r∧(s.2.1=none→r=0)}
def kO (r c:Nat) (s:Bf r):VT:=bC 3 [(0, .one,one (.int .i64 r)),(1, .one,one (.int .i64 c)),(2, .one,one (slV s.1.2.1 r s.1.2.2))]
theorem kg {r c:Nat} {sv:Option Nat} {cap:Nat} {bs:List Nat} {F:Nat→Nat→Int} {cs:cm} (hb:bs.length=r) (hc:(0,Lay.one,one (.int .i64 r))∈cs∧(1,Lay.one,one (.int .i64 c))∈cs∧(2,Lay.one,one (slV sv r cap))∈cs) :
  qt [iU sv cap r c bs,fA c bs F] cs [(0, .one,one (.int .i64 r)),(1, .one,one (.int .i64 c)),(2, .one,slT .one r (fun i=>bJ c (F i)))]:=by
 refine .cons hc.1 (Ent.refl _) (.cons hc.2.1 (Ent.refl _) (.cons hc.2.2 ?_ .nil))
 refine Ent.slE List.mem_cons_self fun q hq => ?_
 exact Ent.row (List.mem_cons_of_mem _ List.mem_cons_self) (ui X)
attribute [local irreducible] J PJ aK one slT bR bC bv exT cj eP aT aI slV VT.le Ret bL
attribute [local irreducible] dC
theorem ns (r c:Nat) (hr:r≤1048576) (hc:c≤1048576):OkM Tryz.prog 45 [one (.int .i64 r),one (.int .i64 c)] (kO r c) (fun s => [iU s.1.2.1 s.1.2.2 r c s.1.1,fA c s.1.1 (fun _ _=>0)]):=by
 refine OkM.enter Tryz.func45 Y Tryz.ntmps45 Y (fun w O => ?_)
 refine ae (ai ?_)
 refine bD (T:=30) Y Y Y (fun b => ?_)
 refine Ep (aa (ae (ai (m5 (n:=0) Y Y Y Y Y ?_))))
 refine PartsK.nil (fun b => ?_)
 refine En Y (Ep (aa (ae (ae (ai (En Y (Ep (aa (au ?_)))))))))
 rename_i bc
 refine gc (ConvM.rows0 (T:=37) (L := .agg 2) (c:=c) (φ:=fun _ _=>aL 0) _) ?_
 refine cK (σ:=List Nat × Option Nat × Nat) (fun s => [(0,one (.int .i64 r)),(1,one (.int .i64 c)),(4,one (.pointer (some ⟨bc,0,none⟩))),(5,one (slV s.2.1 s.1.length s.2.2)),(6,one (.int .i64 s.1.length))])
  (fun s => [aI s.2.1 32 .one s.2.2 s.1.length (fun q=>one (slV (some (s.1.getD q 0)) c c)),aT bc 30 3 (dX #[Value.int IntKind.i64 0,Value.int IntKind.i64 0,Value.slice none 0 0] [(0,Lay.one),(1,Lay.one),(2,Lay.one)]),fA c s.1 (fun _ _=>0)])
  (fun s=>s.1.length≤r) (fun s=>r - s.1.length) ([],some b,0) (Nat.zero_le _) Ei (.keep (bh (fun q hq=>by omega)) (SubM.refl _)) (fun s hk => ?_)
 obtain ⟨bs,sv0,cap0⟩:=s
 simp only at hk ⊢
 refine ae (ae (ai (Em Y (Em Y (El (a6 Y Y) (Ep (aa ?_)))))))
 refine a9 Y (fun hc => ?_) (fun hc => ?_) <;> simp at hc
 ·refine az (aa (ae (au (ai (Em Y (Em Y ?_))))))
  refine bV c c Y Y Y Y (Nat.le_refl _) Y Y X Y Y (fun bz => ?_)
  refine gv Y Y Y Y ?_
  (refine cT 1 Y Y Y (leN Y) ?_ ?_ Y (ltN Y) (fun sv cap => ?_);omega;omega)
  refine En Y (Ep (aE (aa (ai (Em Y ?_)))))
  (refine El (cr Y Y (aQ ?_ ?_)) ?_;omega;omega)
  refine En Y (Ep (fm (ConvM.row (k:=2) Y) (cd (s:=(bs,sv0,cap0)) (bs ++ [bz],sv,cap) (by simp;omega) (by simp;omega) (.cons Y H (.cons Y H (.cons Y H (.cons Y (lO (by simp)) (.cons Y (aq (by simp)) .nil))))) ?_)))
  refine .keep (gY (by simp) (fun q hq => ?_)) (.keep Ek (.keep (nO fun i j hi hj => ?_) .nil))
  ·by_cases h:q<bs.length
   ·rw [if_pos h]; simp [List.getElem?_append_left h]
   ·have:q=bs.length:=by omega
    subst this;rw [if_neg h]; simp
  ·simp only
   split
   ·exact VT.le_refl _
   ·exact iS
 ·have hlen:bs.length=r:=by omega
  subst hlen
  refine k9 (i:=0) (F:=sv0=none→bs.length=0) Y (fun g h hp he=>iT hp he) (fun hF => ?_)
  refine aY (av (av (aF (aa (ae (ai (Em Y (Em Y (Em Y ?_)))))))))
  refine stB Y Y Y (BuildK.cons Y Y Y (BuildK.cons Y Y Y (BuildK.cons Y Y Y (BuildK.nil (a4 1 Y Y Y Y (Ep (aa (aD ?_))))))))
  refine jq ⟨(bs,sv0,cap0),rfl,hF⟩ Tryz.results45 (.cellW 1 Y Y H) ?_
  exact .keep Ek (.drop (SubM.refl _))
end Tor
end
section
namespace Tor
open Go Go.RowKit Go.Proofs
def gD (k:IntKind) (l:List Int):VT:=slT .one l.length (fun i=>one (.int k (l.getD i 0)))
theorem gE {sv:Option Nat} {r:Nat} (h:sv=none→r=0) (hr:0<r) : ∃ b,sv=some b:=by
 cases sv with
 | none => have := h Y; omega
 | some b => exact ⟨b, rfl⟩
theorem pb (i c j:Nat):((i:Int)*c+j).toNat=i*c+j:=by
 have:((i:Int)*c+j)=((i*c+j:Nat):Int):=by simp
 rw [this,Int.toNat_natCast]
def gl (f:Nat→Int) (c i j:Nat):Nat→Nat→Int:=fun q k=>if q<i∨(q=i∧k<j) then f (q*c+k) else 0
theorem y4 {l:List Int} {i:Nat} {p:Int→Prop} (h : ∀ x∈l,p x) (h0:p 0):p (l.getD i 0):=by
 rcases Nat.lt_or_ge i l.length with hi | hi
 ·simp only [List.getD,List.getElem?_eq_getElem hi,Option.getD_some]; exact h _ (List.getElem_mem hi)
 ·simp only [List.getD,List.getElem?_eq_none hi,Option.getD_none]; exact h0
theorem sD {T:TypeId} {c:Nat} {bs:List Nat} {f:Nat→Int} {i j:Nat} (x:Int) (hx:x=f (i*c+j)) :
  Own.le (dC T (.agg 2) c bs (kD (fun q k=>aL (gl f c i j q k)) i j (aL x))) (dC T (.agg 2) c bs (fun q k=>aL (gl f c i (j+1) q k))):=by
 subst hx
 refine jF fun q k hq hk => ?_
 unfold kD gl
 by_cases h:q=i∧k=j
 ·obtain ⟨rfl,rfl⟩:=h;simp
 ·rw [if_neg h]
  have e:(q<i∨q=i∧k<j+1)↔(q<i∨q=i∧k<j):=by omega
  simp only [e]
attribute [local irreducible] J PJ aK one slT bR bC bv exT cj eP aT aI slV VT.le Ret bL
attribute [local irreducible] aL dC
theorem y5 (r c:Nat) (l:List Int) (hr0:r≤1048576) (hc0:c≤1048576) (hl : ∀ x∈l, -9223372036854775808≤x∧x≤9223372036854775807):Ok Tryz.prog 43 [one (.int .i64 r),one (.int .i64 c),gD .i64 l] (bW r c (fun i j=>l.getD (i*c+j) 0)):=by
 unfold gD
 refine Ok.enter Tryz.func43 Y Tryz.ntmps43 Y (fun w O => ?_)
 refine ae (ai ?_)
 refine bD (T:=30) Y Y Y (fun b => ?_)
 refine Ep (aa (ae (ai (Em Y (Em Y ?_)))))
 refine gw (ns r c hr0 hc0) Y ⟨H,H,Er⟩ Y Y (fun s => ?_)
 obtain ⟨⟨bs,sv1,cap1⟩,hlen,hsv⟩:=s
 simp only at hlen hsv
 unfold kO
 refine bD (T:=30) Y Y Y (fun b => ?_)
 refine a4 0 Y Y Y Y (Ep (aa (ae (ae (ai (En Y (Ep (aa (au ?_)))))))))
 rename_i b2
 refine cK (σ:=Nat) (fun i => [(0,one (.int .i64 r)),(1,one (.int .i64 c)),(2,slT .one l.length (fun i=>one (.int .i64 (l.getD i 0)))),(6,one (.pointer (some ⟨b2,0,none⟩))),(7,one (.pointer (some ⟨b,0,none⟩))),(8,one (.int .i64 (i:Nat)))])
  (fun i => [aT b 30 3 [(0, .one,one (.int .i64 r)),(1, .one,one (.int .i64 c)),(2, .one,one (slV sv1 r cap1))],iU sv1 cap1 r c bs,fA c bs (gl (fun n=>l.getD n 0) c i 0),
   aT b2 30 3 (dX #[Value.int IntKind.i64 0,Value.int IntKind.i64 0,Value.slice none 0 0] [(0,Lay.one),(1,Lay.one),(2,Lay.one)])])
  (fun i=>i≤r) (fun i=>r - i) 0 (Nat.zero_le _) Ei (.keep Ek (.keep Ek (.keep (fU fun i j hi hj=>by simp [gl]) (SubM.refl _)))) (fun i hi => ?_)
 refine ae (ae (ai (Em Y (Em Y (El (a6 Y Y) (Ep (aa ?_)))))))
 refine a9 Y (fun hc => ?_) (fun hc => ?_) <;> simp at hc
 ·have hir:i<r:=by omega
  obtain ⟨bo,rfl⟩:=gE hsv X
  refine az (aa (ae (au (ae (ai (En Y (Ep (aa (au ?_)))))))))
  refine cK (σ:=Nat) (fun j => [(0,one (.int .i64 r)),(1,one (.int .i64 c)),(2,slT .one l.length (fun i=>one (.int .i64 (l.getD i 0)))),(6,one (.pointer (some ⟨b2,0,none⟩))),(7,one (.pointer (some ⟨b,0,none⟩))),(8,one (.int .i64 (i:Nat))),(9,one (.int .i64 (j:Nat)))])
   (fun j => [aT b 30 3 [(0, .one,one (.int .i64 r)),(1, .one,one (.int .i64 c)),(2, .one,one (slV (some bo) r cap1))],iU (some bo) cap1 r c bs,fA c bs (gl (fun n=>l.getD n 0) c i j),
   aT b2 30 3 (dX #[Value.int IntKind.i64 0,Value.int IntKind.i64 0,Value.slice none 0 0] [(0,Lay.one),(1,Lay.one),(2,Lay.one)])])
   (fun j=>j≤c) (fun j=>c - j) 0 (Nat.zero_le _) Ei (SubM.refl _) (fun j hj => ?_)
  have hm:i*c≤1048576*1048576:=Nat.mul_le_mul X hc0
  have hm2:(i:Int)*c≤1099511627776:=by omega
  have hm3:0≤(i:Int)*c:=by have:=Nat.zero_le (i*c);omega
  refine ae (ae ?_)
  refine fJ (σ:=Unit) (fun _ => [(0,one (.int .i64 r)),(1,one (.int .i64 c)),(2,slT .one l.length (fun i=>one (.int .i64 (l.getD i 0)))),(6,one (.pointer (some ⟨b2,0,none⟩))),(7,one (.pointer (some ⟨b,0,none⟩))),(8,one (.int .i64 (i:Nat))),(9,one (.int .i64 (j:Nat))),(30,one (.bool (decide (j<c∧i*c+j<l.length))))])
   (fun _ => [aT b 30 3 [(0, .one,one (.int .i64 r)),(1, .one,one (.int .i64 c)),(2, .one,one (slV (some bo) r cap1))],iU (some bo) cap1 r c bs,fA c bs (gl (fun n=>l.getD n 0) c i j),
   aT b2 30 3 (dX #[Value.int IntKind.i64 0,Value.int IntKind.i64 0,Value.slice none 0 0] [(0,Lay.one),(1,Lay.one),(2,Lay.one)])]) (fun _=>True) ?_ (fun _ _ => ?_)
  ·refine ai (Em Y (Em Y (El (a6 Y Y) (Em Y ?_))))
   refine nH (t:=21) Y (fun b h1 => ?_)
   rw [h1]
   cases b
   ·simp at h1
    refine sg0 Y Y Y Y (sg0 Y Y Y Y (sg0 Y Y Y Y (sg0 Y Y Y Y (sg0 Y Y Y Y (sg0 Y Y Y Y (sg0 Y Y Y Y (sg0 Y Y Y Y (El (bE Y Y) (Ep ?_)))))))))
    refine cV () trivial (.cons Y H (.cons Y H (.cons Y H (.cons Y H (.cons Y H (.cons Y H (.cons Y H (.cons Y (aq ?_) .nil)))))))) (SubM.refl _)
    congr 1;symm;rw [decide_eq_false_iff_not]; omega
   ·simp at h1
    refine Eo (ab Y) (Eo (ab Y) ?_)
    (refine Eo (mS Y Y (aQ ?_ ?_)) ?_;omega;omega)
    refine Eo (ab Y) ?_
    (refine Eo (cr Y Y (aQ ?_ ?_)) ?_;omega;omega)
    refine Eo (ab Y) (Eo (aX Y) (Eo (a6 Y Y) (El (bk Y Y) (Ep ?_))))
    refine cV () trivial (.cons Y H (.cons Y H (.cons Y H (.cons Y H (.cons Y H (.cons Y H (.cons Y H (.cons Y (aq ?_) .nil)))))))) (SubM.refl _)
    congr 1;rw [decide_eq_decide]
    have:((i*c:Nat):Int)=(i:Int)*c:=by simp
    omega
  ·refine aa ?_
   refine a9 Y (fun hc2 => ?_) (fun hc2 => ?_) <;> simp only [decide_eq_true_eq,decide_eq_false_iff_not] at hc2
   ·have hm4:((i*c:Nat):Int)=(i:Int)*c:=by simp
    refine az (aa (ae (au (a7 16 aZ Z S (El (aj Y) (El (ak 0 Y Y Y) (Em Y ?_)))))))
    (refine El (ao Y Y ?_) ?_;omega)
    (refine El (bg 1 Y Y ?_) ?_;omega)
    refine Em Y (Em Y (Em Y (Em Y ?_)))
    (refine El (mS Y Y (aQ ?_ ?_)) ?_;omega;omega)
    refine Em Y ?_
    (refine El (cr Y Y (aQ ?_ ?_)) ?_;omega;omega)
    (refine El (aC Y Y ?_) ?_;omega)
    refine El (aO Y) ?_
    have hv:=y4 (i:=((i:Int)*c+j).toNat) hl S
    refine El (am (gZ _ hv.1 hv.2) Y ⟨H,Er⟩) ?_
    (refine El (ao Y Y ?_) ?_;omega)
    refine Ep ?_
    (refine jG 2 Y Y Y (ui ?_) ?_ Y ?_;omega;omega)
    refine Ep (aE (aa (ai (Em Y ?_))))
    (refine El (cr Y Y (aQ ?_ ?_)) ?_;omega;omega)
    refine En Y (Ep ?_)
    refine cd (s:=j) (j+1) (show _ from by omega) X Ei (.keep Ek (.keep Ek (.keep (sD _ (by rw [pb])) (SubM.refl _))))
   ·refine aY (av (av (aF (aE (aa (ai (Em Y ?_)))))))
    (refine El (cr Y Y (aQ ?_ ?_)) ?_;omega;omega)
    refine En Y (Ep ?_)
    refine cd (s:=i) (i+1) (show _ from by omega) X Ei (.keep Ek (.keep Ek (.keep (fU fun q k hq hk => ?_) (SubM.refl _))))
    unfold gl
    by_cases h:q<i∨(q=i∧k<j)
    ·rw [if_pos h,if_pos X]
    ·rw [if_neg h]
     by_cases h2:q=i
     ·subst h2;rw [if_pos X]
      have:l.length≤q*c+k:=by omega
      simp [List.getD,List.getElem?_eq_none this]
     ·rw [if_neg X]
 ·have hin:i=r:=by omega
  subst hin
  refine aY (av (av (aF (aa (ae (ai (El (aN 0 Y Y) (a4 3 Y Y Y Y (Ep ?_)))))))))
  refine aa (aD ?_)
  have hperm : ∀ (x y z u:Own), [x,y,z,u].Perm ([y,z] ++ [x,u]):=fun x y z u=>(List.Perm.swap y x _).trans (List.Perm.cons y (List.Perm.swap z x _))
  refine i6 [iU sv1 cap1 i c bs,fA c bs (gl (fun n=>l.getD n 0) c i 0)] (hperm _ _ _ _) (.keep (wu.refl _) (.keep (wu.box (kg hlen ⟨by simp,by simp,by simp⟩)) .nil)) (wv.refl _) ?_
  refine aS Tryz.results43 (.cellW 1 Y Y ?_)
  exact vO fun a b ha hb=>by simp [gl,ha]
end Tor
end
section
namespace Tor
open Go Go.RowKit Go.Proofs
theorem CQ (x:Int) : -10<x.tmod 10∧x.tmod 10<10:=⟨by
 have:=Int.tmod_lt_of_pos (-x) (show (0:Int)<10 by decide)
 rw [Int.neg_tmod] at this;omega,Int.tmod_lt_of_pos x S⟩
def dig (l:List Int) (n:Nat):Int:=(l.getD n 0).tmod 10
attribute [local irreducible] J PJ aK one slT bR bC bv exT cj eP aT aI slV VT.le Ret bL
attribute [local irreducible] aL dC
theorem sE (r c:Nat) (l:List Int) (hr0:r≤16) (hc0:c≤16):OkM Tryz.prog 47 [one (.int .i64 r),one (.int .i64 c),gD .i8 l] (kO r c) (fun s => [iU s.1.2.1 s.1.2.2 r c s.1.1,fA c s.1.1 (fun i j=>dig l (i*c+j))]):=by
 unfold gD
 refine OkM.enter Tryz.func47 Y Tryz.ntmps47 Y (fun w O => ?_)
 refine ae (ai ?_)
 refine bD (T:=30) Y Y Y (fun b => ?_)
 refine Ep (aa (ae (ai (Em Y (El (pp Y Y) (El (u9 Y Y) (Em Y (El (pp Y Y) (El (u9 Y Y) ?_)))))))))
 refine gw (ns r c X X) Y ⟨aq (by congr 1;omega),aq (by congr 1;omega),Er⟩ Y Y (fun s => ?_)
 obtain ⟨⟨bs,sv1,cap1⟩,hlen,hsv⟩:=s
 simp only at hlen hsv
 unfold kO
 refine bD (T:=30) Y Y Y (fun b => ?_)
 refine a4 0 Y Y Y Y (Ep (aa (ae (ae (ai (En Y (Ep (aa (au ?_)))))))))
 rename_i b2
 refine cK (σ:=Nat) (fun i => [(2,slT .one l.length (fun i=>one (.int .i8 (l.getD i 0)))),(6,one (.pointer (some ⟨b2,0,none⟩))),(7,one (.pointer (some ⟨b,0,none⟩))),(8,one (.int .i64 (i:Nat)))])
  (fun i => [aT b 30 3 [(0, .one,one (.int .i64 r)),(1, .one,one (.int .i64 c)),(2, .one,one (slV sv1 r cap1))],iU sv1 cap1 r c bs,fA c bs (gl (dig l) c i 0),
   aT b2 30 3 (dX #[Value.int IntKind.i64 0,Value.int IntKind.i64 0,Value.slice none 0 0] [(0,Lay.one),(1,Lay.one),(2,Lay.one)])])
  (fun i=>i≤r) (fun i=>r - i) 0 (Nat.zero_le _) Ei (.keep Ek (.keep Ek (.keep (fU fun i j hi hj=>by simp [gl]) (SubM.refl _)))) (fun i hi => ?_)
 refine ae (ae (ai (Em Y (El (aj Y) (El (ak 0 Y Y Y) (El (a6 Y Y) (Ep (aa ?_))))))))
 refine a9 Y (fun hc => ?_) (fun hc => ?_) <;> simp at hc
 ·have hir:i<r:=by omega
  obtain ⟨bo,rfl⟩:=gE hsv X
  refine az (aa (ae (au (ae (ai (En Y (Ep (aa (au ?_)))))))))
  refine cK (σ:=Nat) (fun j => [(2,slT .one l.length (fun i=>one (.int .i8 (l.getD i 0)))),(6,one (.pointer (some ⟨b2,0,none⟩))),(7,one (.pointer (some ⟨b,0,none⟩))),(8,one (.int .i64 (i:Nat))),(9,one (.int .i64 (j:Nat)))])
   (fun j => [aT b 30 3 [(0, .one,one (.int .i64 r)),(1, .one,one (.int .i64 c)),(2, .one,one (slV (some bo) r cap1))],iU (some bo) cap1 r c bs,fA c bs (gl (dig l) c i j),
   aT b2 30 3 (dX #[Value.int IntKind.i64 0,Value.int IntKind.i64 0,Value.slice none 0 0] [(0,Lay.one),(1,Lay.one),(2,Lay.one)])])
   (fun j=>j≤c) (fun j=>c - j) 0 (Nat.zero_le _) Ei (SubM.refl _) (fun j hj => ?_)
  have hm:i*c≤16*16:=Nat.mul_le_mul X hc0
  have hm2:(i:Int)*c≤256:=by omega
  have hm3:0≤(i:Int)*c:=by have:=Nat.zero_le (i*c);omega
  refine ae (ae ?_)
  refine fJ (σ:=Unit) (fun _ => [(2,slT .one l.length (fun i=>one (.int .i8 (l.getD i 0)))),(6,one (.pointer (some ⟨b2,0,none⟩))),(7,one (.pointer (some ⟨b,0,none⟩))),(8,one (.int .i64 (i:Nat))),(9,one (.int .i64 (j:Nat))),(37,one (.bool (decide (j<c∧i*c+j<l.length))))])
   (fun _ => [aT b 30 3 [(0, .one,one (.int .i64 r)),(1, .one,one (.int .i64 c)),(2, .one,one (slV (some bo) r cap1))],iU (some bo) cap1 r c bs,fA c bs (gl (dig l) c i j),
   aT b2 30 3 (dX #[Value.int IntKind.i64 0,Value.int IntKind.i64 0,Value.slice none 0 0] [(0,Lay.one),(1,Lay.one),(2,Lay.one)])]) (fun _=>True) ?_ (fun _ _ => ?_)
  ·refine ai (Em Y (El (aj Y) (El (ak 0 Y Y Y) (El (a6 Y Y) (Em Y ?_)))))
   refine nH (t:=27) Y (fun b h1 => ?_)
   rw [h1]
   cases b
   ·simp at h1
    refine sg0 Y Y Y Y (sg0 Y Y Y Y (sg0 Y Y Y Y (sg0 Y Y Y Y (sg0 Y Y Y Y (sg0 Y Y Y Y (sg0 Y Y Y Y (sg0 Y Y Y Y (sg0 Y Y Y Y (El (bE Y Y) ?_)))))))))
    refine Ep ?_
    refine cV () trivial (.cons Y H (.cons Y H (.cons Y H (.cons Y H (.cons Y H (.cons Y (aq ?_) .nil)))))) (SubM.refl _)
    congr 1;symm;rw [decide_eq_false_iff_not]; omega
   ·simp at h1
    refine Eo (ab Y) (Eo (aj Y) (Eo (ak 0 Y Y Y) ?_))
    (refine Eo (mS Y Y (aQ ?_ ?_)) ?_;omega;omega)
    refine Eo (ab Y) ?_
    (refine Eo (cr Y Y (aQ ?_ ?_)) ?_;omega;omega)
    refine Eo (ab Y) (Eo (aX Y) (Eo (a6 Y Y) (El (bk Y Y) (Ep ?_))))
    refine cV () trivial (.cons Y H (.cons Y H (.cons Y H (.cons Y H (.cons Y H (.cons Y (aq ?_) .nil)))))) (SubM.refl _)
    congr 1;rw [decide_eq_decide]
    have:((i*c:Nat):Int)=(i:Int)*c:=by simp
    omega
  ·refine aa ?_
   refine a9 Y (fun hc2 => ?_) (fun hc2 => ?_) <;> simp only [decide_eq_true_eq,decide_eq_false_iff_not] at hc2
   ·have hm4:((i*c:Nat):Int)=(i:Int)*c:=by simp
    refine az (aa (ae (au (a7 19 aZ Z S (El (aj Y) (El (ak 0 Y Y Y) (Em Y ?_)))))))
    (refine El (ao Y Y ?_) ?_;omega)
    (refine El (bg 1 Y Y ?_) ?_;omega)
    refine Em Y (Em Y (Em Y (El (aj Y) (El (ak 0 Y Y Y) ?_))))
    (refine El (mS Y Y (aQ ?_ ?_)) ?_;omega;omega)
    refine Em Y ?_
    (refine El (cr Y Y (aQ ?_ ?_)) ?_;omega;omega)
    (refine El (aC Y Y ?_) ?_;omega)
    refine El (aO Y) (El (Ca Y Y S Y) ?_)
    have hv:=CQ (l.getD (i*c+j) 0)
    refine El (dZ Y ?_ ?_) ?_; · omega
    ·omega
    refine El (am (gZ _ X X) Y ⟨H,Er⟩) ?_
    (refine El (ao Y Y ?_) ?_;omega)
    refine Ep ?_
    (refine jG 2 Y Y Y (ui ?_) ?_ Y ?_;omega;omega)
    refine Ep (aE (aa (ai (Em Y ?_))))
    (refine El (cr Y Y (aQ ?_ ?_)) ?_;omega;omega)
    refine En Y (Ep ?_)
    refine cd (s:=j) (j+1) (show _ from by omega) X Ei (.keep Ek (.keep Ek (.keep (sD _ Y) (SubM.refl _))))
   ·refine aY (av (av (aF (aE (aa (ai (Em Y ?_)))))))
    (refine El (cr Y Y (aQ ?_ ?_)) ?_;omega;omega)
    refine En Y (Ep ?_)
    refine cd (s:=i) (i+1) (show _ from by omega) X Ei (.keep Ek (.keep Ek (.keep (fU fun q k hq hk => ?_) (SubM.refl _))))
    unfold gl
    by_cases h:q<i∨(q=i∧k<j)
    ·rw [if_pos h,if_pos X]
    ·rw [if_neg h]
     by_cases h2:q=i
     ·subst h2;rw [if_pos X]
      have:l.length≤q*c+k:=by omega
      simp [dig,List.getD,List.getElem?_eq_none this]
     ·rw [if_neg X]
 ·have hin:i=r:=by omega
  subst hin
  refine aY (av (av (aF (aa (ae (ai (El (aN 0 Y Y) (a4 3 Y Y Y Y (Ep ?_)))))))))
  refine aa (aD ?_)
  refine jq ⟨(bs,sv1,cap1),hlen,hsv⟩ Tryz.results47 (.cellW 3 Y Y ?_) ?_
  ·show VT.le _ (kO i c _)
   unfold kO
   exact VT.le_refl _
  ·refine .drop (.keep Ek (.keep (fU fun a b ha hb => ?_) (.drop .nil)))
   have:a<i:=by have:a<bs.length:=ha;omega
   simp [gl,this]
theorem sG {r c:Nat} (F:Nat→Nat→Int) (s:Bf r):Ent [iU s.1.2.1 s.1.2.2 r c s.1.1,fA c s.1.1 F] (kO r c s) (bW r c F):=by
 unfold kO bW
 exact Ent.agg (kg s.2.1 ⟨by simp,by simp,by simp⟩)
theorem oA (r c:Nat) (l:List Int) (hr0:r≤16) (hc0:c≤16):Ok Tryz.prog 47 [one (.int .i64 r),one (.int .i64 c),gD .i8 l] (bW r c (fun i j=>dig l (i*c+j))) :=
 (sE r c l hr0 hc0).ok fun s=>sG _ s
end Tor
end
section
namespace Tor
open Go Go.RowKit Go.Proofs
instance {neg:Bool} {l:List Nat} : Flat (kL neg l) (.agg 2):=by unfold kL;infer_instance
theorem uj {neg:Bool} {l:List Nat} {v:Value} {h:Hp} (Ef:(kL neg l).p v h):l.length≤281474976710656:=by
 obtain ⟨c,_,_,_,h4⟩:=Ef
 obtain ⟨x,_,hp⟩:=h4 _ (List.mem_cons_of_mem _ List.mem_cons_self)
 exact fa hp
theorem pd {r c:Int} {a:List uh} {v:Value} {h:Hp} (Ef:(lW r c a).p v h):a.length≤2^48:=by
 obtain ⟨c,_,_,_,h4⟩:=Ef
 obtain ⟨x,_,hp⟩:=h4 _ (List.mem_cons_of_mem _ (List.mem_cons_of_mem _ List.mem_cons_self))
 exact fa hp
def oB (r c:Nat) (F:Nat→Nat→Int):List uh:=(tab r c F).map (·.map mY)
theorem y6 (r c:Nat) (F:Nat→Nat→Int):VT.le (bW r c F) (lW r c (oB r c F)):=by
 refine VT.le_trans (yZ r c F) ?_
 unfold CO lW
 refine fj (fun q hq => ?_)
 rcases List.mem_cons.1 hq with rfl | hq
 ·exact ⟨_,List.mem_cons_self,H⟩
 rcases List.mem_cons.1 hq with rfl | hq
 ·exact ⟨_,List.mem_cons_of_mem _ List.mem_cons_self,H⟩
 rcases List.mem_cons.1 hq with rfl | hq
 ·refine ⟨_,List.mem_cons_of_mem _ (List.mem_cons_of_mem _ List.mem_cons_self),?_⟩
  unfold yX eD oB
  refine VT.le_trans (d5 (ψ:=fun i=>fz (((tab r c F).map (·.map mY)).getD i [])) (fun i hi => ?_)) (gN (by simp))
  refine VT.le_trans (yY _) (gN ?_)
  simp [List.getD,List.getElem?_eq_getElem hi]
 ·cases hq
theorem uk (r c:Nat) (F:Nat→Nat→Int):jf r c (oB r c F)=true:=by
 unfold jf oB
 simp only [List.length_map,tab_length,Bool.and_eq_true,decide_eq_true_eq,List.all_map]
 refine ⟨⟨by omega,by omega,Er⟩,?_⟩
 rw [List.all_eq_true]
 intro x hx
 simp only [tab,List.mem_map,List.mem_range] at hx
 obtain ⟨i,hi,rfl⟩:=hx
 simp only [jQ,Function.comp,List.length_map,List.length_range,List.all_map,Bool.and_eq_true,decide_eq_true_eq]
 refine ⟨trivial,?_⟩
 rw [List.all_eq_true]
 intro y hy
 exact uf _
attribute [local irreducible] J PJ aK one slT bR bC bv exT cj eP aT aI slV VT.le Ret bL
theorem y7 (neg:Bool) (l:List Nat):Ok Tryz.prog 124 [kL neg l] (one (.bool (fO neg l))):=by
 refine Ok.enter Tryz.func124 Y Tryz.ntmps124 Y (fun w O => ?_)
 refine iW (t:=0) Y (fun _ _=>uj) (fun hl => ?_)
 unfold kL
 by_cases h0:l.length=0
 ·refine ae (ai ?_)
  refine aV Y Y (ltN Y) (fun b => ?_)
  refine En Y (Ep (aa (ae (ae (ai (El (aj Y) (El (ak 0 Y Y Y) (El (aX Y) (En Y ?_)))))))))
  refine Ep (aa (ae (ai (Em Y (El (cW Y Y) (Ep (aa ?_)))))))
  refine a9 Y (fun hc => ?_) (fun hc => ?_) <;> simp only [decide_eq_true_eq,decide_eq_false_iff_not,ne_eq,Decidable.not_not] at hc
  ·omega
  ·refine az (aa (ae (ai (El (aj Y) (El (ak 0 Y Y Y) (El (cS Y) (En Y (Ep (aa ?_)))))))))
   refine aD ?_
   exact aS Tryz.results124 (.tmp Y (aq (by unfold fO;rw [if_pos h0])))
 ·refine ae (ai ?_)
  refine aV Y Y (ltN Y) (fun b => ?_)
  refine En Y (Ep (aa (ae (ae (ai (El (aj Y) (El (ak 0 Y Y Y) (El (aX Y) (En Y ?_)))))))))
  refine Ep (aa (ae (ai (Em Y (El (cW Y Y) (Ep (aa ?_)))))))
  refine a9 Y (fun hc => ?_) (fun hc => ?_) <;> simp only [decide_eq_true_eq,decide_eq_false_iff_not,ne_eq,Decidable.not_not] at hc
  ·refine ae (ai (El (aj Y) (El (ak 0 Y Y Y) (Em Y ?_))))
   (refine El (et Y Y (aQ ?_ ?_)) ?_;omega;omega)
   (refine El (fX Y Y ?_ ?_) ?_;omega;omega)
   refine El (aO Y) (El (dy Y Y) (En Y (Ep (aa (aD (aR ?_))))))
   refine aS Tryz.results124 (.tmp Y (aq ?_))
   have e:(↑l.length - 1:Int).toNat=l.length - 1:=by omega
   unfold fO;rw [if_neg h0,e]; congr 1;rw [decide_eq_decide]; omega
  ·omega
attribute [local irreducible] aL kL
attribute [local irreducible] fz
theorem sH (r c:Int) (a:List uh):Ok Tryz.prog 77 [lW r c a] (one (.bool (jf r c a))):=by
 refine Ok.enter Tryz.func77 Y Tryz.ntmps77 Y (fun w O => ?_)
 refine iW (t:=0) Y (fun _ _=>pd) (fun ha => ?_)
 unfold lW
 unfold eD
 refine ae (ai ?_)
 refine aV Y Y (ltN Y) (fun b => ?_)
 refine En Y (Ep (aa (ae (ae (ai (El (aj Y) (El (ak 0 Y Y Y) (El (a6 Y Y) (Em Y ?_)))))))))
 refine nH (t:=10) Y (fun bo hb => ?_)
 rw [hb]
 cases bo
 ·have e1:0≤r:=by simpa using hb
  refine Eo (aj Y) (Eo (ak 0 Y Y Y) (Eo (a6 Y Y) (El (bE Y Y) (Em Y ?_))))
  refine nH (t:=15) Y (fun bo hb2 => ?_)
  rw [hb2]
  cases bo
  ·have e2:0≤c:=by simpa using hb2
   refine Eo (aj Y) (Eo (ak 0 Y Y Y) (Eo (aX Y) (Eo (aj Y) (Eo (ak 0 Y Y Y) (Eo (dy Y Y) (El (bE Y Y) (Ep (aa ?_))))))))
   refine a9 Y (fun hc => ?_) (fun hc => ?_) <;> simp only [decide_eq_true_eq,decide_eq_false_iff_not,ne_eq,Decidable.not_not] at hc
   ·refine ae (ai (En Y (Ep (aa (aD (aR ?_))))))
    refine aS Tryz.results77 (.tmp Y (aq ?_))
    simp [jf,hc]
   ·have e3:(a.length:Int)=r:=hc
    refine az (aa (ae (ae (ai (El (aj Y) (El (ak 0 Y Y Y) (El (aX Y) (Em Y (Ep ?_)))))))))
    refine aa (au ?_)
    refine cK (σ:=Nat) (fun i => [(1,one (.pointer (some ⟨b,0,none⟩))),(24,eD a),(25,one (.int .i64 a.length)),(26,one (.int .i64 (i:Nat)))])
     (fun _ => [aT b 30 3 [(0, .one,one (.int .i64 r)),(1, .one,one (.int .i64 c)),(2, .one,eD a)]])
     (fun i=>i≤a.length∧(a.take i).all (jQ c)=true) (fun i=>a.length - i) 0 ⟨Nat.zero_le _,rfl⟩ Ei (SubM.refl _) (fun i ⟨hi,ht⟩ => ?_)
    unfold eD
    refine ae (ai (El (a6 Y Y) (Ep (aa (ae ?_)))))
    refine a9 Y (fun hc => ?_) (fun hc => ?_) <;> simp at hc
    ·refine az (aa (ae (au (ae (ai ?_)))))
     (refine El (aC Y Y ?_) ?_;omega)
     refine El (aO Y) (En Y (Ep (aa (ae (ae (ai (Em Y ?_)))))))
     unfold fz
     refine El (aX Y) (El (aj Y) (El (ak 0 Y Y Y) (El (dy Y Y) (Ep (aa ?_)))))
     refine a9 Y (fun hc2 => ?_) (fun hc2 => ?_) <;> simp only [decide_eq_true_eq,decide_eq_false_iff_not,ne_eq,Decidable.not_not] at hc2
     ·refine ae (ai (En Y (Ep (aa (aD (aR (bI (aR (aR ?_)))))))))
      refine bI (aR ?_)
      refine aS Tryz.results77 (.tmp Y (aq ?_))
      have:=ug (p:=jQ c) (d := []) hc (by simp only [jQ,Bool.and_eq_false_iff]; left;simpa using hc2)
      simp [jf,this]
     ·refine iW (t:=29) Y (fun _ _=>fa) (fun hlb => ?_)
      refine az (aa (ae (ai (Em Y (El (aX Y) (Em Y (Ep (aa (au ?_)))))))))
      refine cK (σ:=Nat) (fun j => [(1,one (.pointer (some ⟨b,0,none⟩))),(24,eD a),(25,one (.int .i64 a.length)),(26,one (.int .i64 (i:Nat))),(35,fz (a.getD i [])),(36,one (.int .i64 (a.getD i []).length)),(37,one (.int .i64 (j:Nat)))])
       (fun _ => [aT b 30 3 [(0, .one,one (.int .i64 r)),(1, .one,one (.int .i64 c)),(2, .one,eD a)]])
       (fun j=>j≤(a.getD i []).length∧((a.getD i []).take j).all (fun p=>fO p.1 p.2)=true) (fun j=>(a.getD i []).length - j) 0 ⟨Nat.zero_le _,rfl⟩ (by unfold eD fz;repeat (first | exact dI.nil | refine dI.cons Y H ?_ | (refine dI.cons Y (aq ?_) ?_;(congr 1;first | omega | (simp;omega) | simp)))) (by unfold eD fz;exact SubM.refl _) (fun j ⟨hj,hu⟩ => ?_)
      unfold eD fz
      refine ae (ai (El (a6 Y Y) (Ep (aa (ae ?_)))))
      refine a9 Y (fun hc3 => ?_) (fun hc3 => ?_) <;> simp only [decide_eq_true_eq,decide_eq_false_iff_not,Int.ofNat_lt] at hc3
      ·refine az (aa (ae (au (ae (ai ?_)))))
       (refine El (aC Y Y ?_) ?_;omega)
       refine El (aO Y) ?_
       refine aH (T:=37) Y (ltN Y) (fun b => ?_)
       refine aA 0 Y Y Y Y Y (leN Y) Y (Ep (aa (ae (ai (El (ak 0 Y Y Y) ?_)))))
       refine El (am (y7 ((a.getD i []).getD j (false, [])).1 ((a.getD i []).getD j (false, [])).2) Y ⟨H,Er⟩) ?_
       refine El (cS Y) (Ep (aa ?_))
       refine a9 Y (fun hc4 => ?_) (fun hc4 => ?_)
       ·refine ae (ai (En Y (Ep (aa (aD (bI (aR (aR (bI ?_)))))))))
        refine bI (aR (aR (bI (aR ?_))))
        refine aS Tryz.results77 (.tmp Y (aq ?_))
        have h1:=ug (p:=fun p:Bool × List Nat=>fO p.1 p.2) (d:=(false, [])) (v:=a.getD i []) hc3 (by simpa using hc4)
        have h2:=ug (p:=jQ c) (d := []) hc (by simp only [jQ,Bool.and_eq_false_iff]; right;exact h1)
        simp [jf,h2]
       ·refine az (aE (aa (ai ?_)))
        (refine El (cr Y Y (aQ ?_ ?_)) ?_;omega;omega)
        refine Em Y (Ep ?_)
        exact cd (s:=j) (j+1) ⟨by omega,vN (d:=(false, [])) hu hc3 (by simpa using hc4)⟩ (by show (a.getD i []).length - (j+1)<(a.getD i []).length - j;omega) Ei (.drop (SubM.refl _))
      ·refine aY (av (av (aF (aE (aa (ai ?_))))))
       (refine El (cr Y Y (aQ ?_ ?_)) ?_;omega;omega)
       refine Em Y (Ep ?_)
       rw [List.take_of_length_le X] at hu
       exact cd (s:=i) (i+1) ⟨by omega,vN (d := []) ht hc (by simp only [jQ,Bool.and_eq_true]; exact ⟨by simpa using hc2,hu⟩)⟩ (by show a.length - (i+1)<a.length - i;omega) Ei (SubM.refl _)
    ·refine aY (av (av (aF (aa (ae (ai (En Y (Ep (aa ?_)))))))))
     refine aD ?_
     refine aS Tryz.results77 (.tmp Y (aq ?_))
     rw [List.take_of_length_le X] at ht
     simp [jf,ht,e1,e2,e3]
  ·have e2 : ¬ (0≤r∧0≤c):=by simp at hb2;omega
   refine sg0 Y Y Y Y (sg0 Y Y Y Y (sg0 Y Y Y Y (sg0 Y Y Y Y (sg0 Y Y Y Y (sg0 Y Y Y Y (El (bk Y Y) (Ep (aa ?_))))))))
   refine a9 Y (fun hc => ?_) (fun hc => ?_)
   ·refine ae (ai (En Y (Ep (aa (aD (aR ?_))))))
    refine aS Tryz.results77 (.tmp Y (aq ?_))
    simp only [jf]; rw [decide_eq_false X]; rfl
   ·cases hc
 ·have e1 : ¬ 0≤r:=by simpa using hb
  refine sg0 Y Y Y Y (sg0 Y Y Y Y (sg0 Y Y Y Y (El (bk Y Y) (Em Y (sg0 Y Y Y Y (sg0 Y Y Y Y (sg0 Y Y Y Y (sg0 Y Y Y Y (sg0 Y Y Y Y ?_)))))))))
  refine sg0 Y Y Y Y (El (bk Y Y) (Ep (aa ?_)))
  refine a9 Y (fun hc => ?_) (fun hc => ?_)
  ·refine ae (ai (En Y (Ep (aa (aD (aR ?_))))))
   refine aS Tryz.results77 (.tmp Y (aq ?_))
   simp [jf,e1]
  ·cases hc
end Tor
end
section
namespace Tor
open Go Go.RowKit Go.Proofs
def vP (φ ψ:VT):VT:=slT (.agg 3) 2 (fun i=>if i=0 then φ else ψ)
theorem sI {φ ψ:VT} : VT.le (slT (.agg 3) 2 (fun q => [φ, ψ].getD q bL)) (vP φ ψ):=by
 unfold vP
 refine d5 fun i hi => ?_
 rcases i with _ | _ | i
 ·exact VT.le_refl _
 ·exact VT.le_refl _
 ·omega
instance {r c:Nat} {F:Nat→Nat→Int} : Flat (bW r c F) (.agg 3):=by unfold bW;infer_instance
attribute [local irreducible] J PJ aK one slT bR bC bv exT cj eP aT aI slV VT.le Ret bL
attribute [local irreducible] aL bW
theorem fB (r c:Nat) (F:Nat→Nat→Int):Ok Tryz.prog 77 [bW r c F] (one (.bool true)):=by
 have h:=sH r c (oB r c F)
 rw [uk] at h
 exact h.le ⟨y6 r c F,Er⟩ H
theorem pX (ra ca:Nat) (F:Nat→Nat→Int) (rb cb:Nat) (G:Nat→Nat→Int):Ok Tryz.prog 82 [vP (bW ra ca F) (bW rb cb G)] (one (.bool true)):=by
 unfold vP
 refine Ok.enter Tryz.func82 Y Tryz.ntmps82 Y (fun w O => ?_)
 refine ae (ai (En Y (Ep (aa (ae (ae (ai (Em Y (El (aX Y) ?_)))))))))
 refine Em Y (Ep (aa (au ?_)))
 refine cK (σ:=Nat) (fun i => [(5,slT (.agg 3) 2 (fun i=>if i=0 then bW ra ca F else bW rb cb G)),(6,one (.int .i64 (2:Nat))),(7,one (.int .i64 (i:Nat)))]) (fun _ => []) (fun i=>i≤2) (fun i=>2 - i) 0 (Nat.zero_le _) Ei (SubM.refl _) (fun i hi => ?_)
 refine ae (ai (El (a6 Y Y) (Ep (aa (ae ?_)))))
 refine a9 Y (fun hc => ?_) (fun hc => ?_) <;> simp only [decide_eq_true_eq,decide_eq_false_iff_not,ne_eq,Decidable.not_not] at hc
 ·have h2:i<2:=by omega
  have hF:Flat (if i=0 then bW ra ca F else bW rb cb G) (.agg 3):=by split <;> infer_instance
  refine az (aa (ae (au (ae (ai ?_)))))
  (refine El (aC Y Y ?_) ?_;omega)
  refine El (aO Y) ?_
  refine bD (T:=30) Y Y Y (fun b => ?_)
  refine lj 0 Y Y Y Y (Ep (aa (ae (ai (El (ak 0 Y Y Y) ?_)))))
  have hcall:Ok Tryz.prog 77 [if i=0 then bW ra ca F else bW rb cb G] (one (.bool true)):=by
   split
   ·exact fB _ _ _
   ·exact fB _ _ _
  refine El (am hcall Y ⟨H,Er⟩) ?_
  refine El (cS Y) (Ep (aa ?_))
  refine a9 Y (fun hc2 => ?_) (fun hc2 => ?_)
  ·cases hc2
  ·refine az (aE (aa (ai ?_)))
   (refine El (cr Y Y (aQ ?_ ?_)) ?_;omega;omega)
   refine Em Y (Ep ?_)
   exact cd (s:=i) (i+1) (show _ from by omega) (by show 2 - (i+1)<2 - i;omega) Ei (.drop .nil)
 ·refine aY (av (av (aF (aa (ae (ai (En Y (Ep (aa ?_)))))))))
  refine aD ?_
  exact aS Tryz.results82 (.tmp Y H)
end Tor
end
section
namespace Tor
open Go Go.RowKit Go.Proofs
attribute [local irreducible] J PJ aK one slT bR bC bv exT cj eP aT aI slV VT.le Ret bL
theorem y8 (x:Int) (hx:bm x):Ok Tryz.prog 129 [aL x] (aL x):=by
 unfold aL
 refine Ok.enter Tryz.func129 Y Tryz.ntmps129 Y (fun w O => ?_)
 refine ae (ai ?_)
 refine aV Y Y (ltN Y) (fun b => ?_)
 refine aH (T:=37) Y (ltN Y) (fun b => ?_)
 refine Ep (aa (ae (a7 6 aZ Z S (El (aj Y) (El (ak 1 Y Y Y) (El (aj Y) (El (ak 1 Y Y Y) ?_)))))))
 refine El (am (jO _ hx) Y ⟨H,Er⟩) ?_
 refine stB Y Y Y (BuildK.cons Y Y Y (BuildK.cons Y Y Y (BuildK.nil (Ep (aA 0 Y Y Y Y Y (leN Y) Y (Ep (aa (aD ?_))))))))
 refine aS Tryz.results129 (.cellB 0 Y Y Y H)
attribute [local irreducible] aL
theorem pY (n m:Nat) (f g:Nat→Int) (hn:n≤1048576) (hm:m≤1048576) (hf : ∀ i,bm (f i)) (hg : ∀ i,bm (g i)):Ok Tryz.prog 83 [bJ n f,bJ m g] (bJ (n+m) (fun k=>if k<n then f k else g (k - n))):=by
 unfold bJ
 refine Ok.enter Tryz.func83 Y Tryz.ntmps83 Y (fun w O => ?_)
 refine ae (ai (En Y (Ep (aa (ae (ai (Em Y (El (aX Y) (Em Y ?_)))))))))
 refine El (aX Y) ?_
 (refine El (cr Y Y (aQ ?_ ?_)) ?_;omega;omega)
 refine bV 0 (n+m) Y Y Y (by simp) (Nat.zero_le _) Y Y X Y Y (fun bz => ?_)
 refine En Y (Ep (aa (ae (ae (ai (Em Y (El (aX Y) (Em Y (Ep ?_)))))))))
 refine aa (au ?_)
 refine cK (σ:=Nat × Option Nat × Nat) (fun s => [(1,slT (.agg 2) m (fun j=>aL (g j))),(5,one (slV s.2.1 s.1 s.2.2)),(16,slT (.agg 2) n (fun j=>aL (f j))),(17,one (.int .i64 n)),(18,one (.int .i64 (s.1:Nat)))])
  (fun s => [aI s.2.1 37 (.agg 2) s.2.2 s.1 (fun q=>aL (f q))]) (fun s=>s.1≤n) (fun s=>n - s.1) (0,some bz,n+m) (Nat.zero_le _) Ei (.keep (bh fun q hq=>by omega) .nil) (fun s hs => ?_)
 obtain ⟨k,sv0,cap0⟩:=s
 simp only at hs ⊢
 refine ae (ai (El (a6 Y Y) (Ep (aa (ae ?_)))))
 refine a9 Y (fun hc => ?_) (fun hc => ?_) <;> simp only [decide_eq_true_eq,decide_eq_false_iff_not,ne_eq,Decidable.not_not] at hc
 ·refine az (aa (ae (au (ae (ai ?_)))))
  (refine El (aC Y Y ?_) ?_;omega)
  refine El (aO Y) ?_
  refine aH (T:=37) Y (ltN Y) (fun b => ?_)
  refine aA 0 Y Y Y Y Y (leN Y) Y (Ep (aa (ai (Em Y (El (ak 0 Y Y Y) ?_)))))
  refine El (am (y8 (f k) (hf k)) Y ⟨H,Er⟩) ?_
  refine gv Y Y Y Y ?_
  (refine cT 1 Y Y Y (leN Y) ?_ ?_ Y (ltN Y) (fun sv cap => ?_);omega;omega)
  refine En Y (Ep (aE (aa (ai ?_))))
  (refine El (cr Y Y (aQ ?_ ?_)) ?_;omega;omega)
  refine Em Y (Ep ?_)
  refine cd (s:=(k,sv0,cap0)) (k+1,sv,cap) (show _ from by simp only;omega) (by show n - (k+1)<n - k;omega) Ei (.drop (.keep (bh fun q hq => ?_) .nil))
  by_cases h:q<k
  ·rw [if_pos h]
  ·have:q=k:=by omega
   subst this;rw [if_neg h]
 ·have hk:k=n:=by omega
  subst hk
  refine aY (av (av (aF (aa (ae (ae (ai (Em Y (El (aX Y) ?_)))))))))
  refine Em Y (Ep (aa (au ?_)))
  refine cK (σ:=Nat × Option Nat × Nat) (fun s => [(5,one (slV s.2.1 (k+s.1) s.2.2)),(28,slT (.agg 2) m (fun j=>aL (g j))),(29,one (.int .i64 m)),(30,one (.int .i64 (s.1:Nat)))])
   (fun s => [aI s.2.1 37 (.agg 2) s.2.2 (k+s.1) (fun q=>aL (if q<k then f q else g (q - k)))]) (fun s=>s.1≤m) (fun s=>m - s.1) (0,sv0,cap0) (Nat.zero_le _) Ei (.keep (bh fun q hq=>by rw [if_pos hq]) .nil) (fun s hs => ?_)
  obtain ⟨j,sv1,cap1⟩:=s
  simp only at hs ⊢
  refine ae (ai (El (a6 Y Y) (Ep (aa (ae ?_)))))
  refine a9 Y (fun hc2 => ?_) (fun hc2 => ?_) <;> simp only [decide_eq_true_eq,decide_eq_false_iff_not] at hc2
  ·refine az (aa (ae (au (ae (ai ?_)))))
   (refine El (aC Y Y ?_) ?_;omega)
   refine El (aO Y) ?_
   refine aH (T:=37) Y (ltN Y) (fun b => ?_)
   refine aA 0 Y Y Y Y Y (leN Y) Y (Ep (aa (ai (Em Y (El (ak 0 Y Y Y) ?_)))))
   refine El (am (y8 (g j) (hg j)) Y ⟨H,Er⟩) ?_
   refine gv Y Y Y Y ?_
   (refine cT 1 Y Y Y (leN Y) ?_ ?_ Y (ltN Y) (fun sv cap => ?_);omega;omega)
   refine En Y (Ep (aE (aa (ai ?_))))
   (refine El (cr Y Y (aQ ?_ ?_)) ?_;omega;omega)
   refine Em Y (Ep ?_)
   refine cd (s:=(j,sv1,cap1)) (j+1,sv,cap) (show _ from by simp only;omega) (by show m - (j+1)<m - j;omega) Ei (.drop (.keep (bh fun q hq => ?_) .nil))
   by_cases h:q<k+j
   ·rw [if_pos h]
   ·have:q=k+j:=by omega
    subst this;rw [if_neg h,if_neg X]; simp
  ·have hk:j=m:=by omega
   subst hk
   refine aY (av (av (aF (aa (ae (ai (Em Y (En Y (Ep ?_)))))))))
   refine aa (aD (cq (t:=4) (i:=0) Y Y ?_))
   refine aS Tryz.results83 (.tmp Y H)
end Tor
end
