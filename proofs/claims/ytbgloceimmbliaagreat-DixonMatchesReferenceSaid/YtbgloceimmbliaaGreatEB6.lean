/-
  Theorems that the proofs of laws of this seat rest on.
  No condition.
-/
import Derived.Test.YtbgloceimmbliaaGreatEB5
import Init
set_option maxHeartbeats 20000000
set_option linter.unusedVariables false
set_option linter.unusedSimpArgs false
section
namespace Tor
open Go Go.RowKit Go.Proofs
def dN (n d:Int):VT:=bH 4 [(0, .agg 2,aO n),(2, .agg 2,aO d)]
def cj (q:Rat):VT:=dN q.num q.den
theorem jz {n n' d d':Int} (h:n=n') (h':d=d'):VT.le (bH 4 [(0, .agg 2,aO n),(2, .agg 2,aO d)]) (dN n' d'):=h▸h'▸VT.le_refl _
instance {n d:Int} : Flat (dN n d) (.agg 4):=by unfold dN;infer_instance
instance {q:Rat} : Flat (cj q) (.agg 4):=by unfold cj;infer_instance
theorem r8 {n d:Int} (h:0<d):n / ((Nat.gcd n.natAbs d.natAbs:Nat):Int)=(Rat.divInt n d).num∧d / ((Nat.gcd n.natAbs d.natAbs:Nat):Int)=((Rat.divInt n d).den:Int):=by
 have e:Int.gcd d n=Nat.gcd n.natAbs d.natAbs:=Nat.gcd_comm _ _
 rw [Rat.num_divInt,Rat.den_divInt,if_neg X,e,Int.sign_eq_one_of_pos h,Int.one_mul]
 refine ⟨rfl,?_⟩
 rw [Int.natCast_ediv,Int.natAbs_of_nonneg (Int.le_of_lt h)]
theorem wK {n d:Int} (h:d<0):n / -((Nat.gcd n.natAbs d.natAbs:Nat):Int)=(Rat.divInt n d).num∧d / -((Nat.gcd n.natAbs d.natAbs:Nat):Int)=((Rat.divInt n d).den:Int):=by
 have e:Int.gcd d n=Nat.gcd n.natAbs d.natAbs:=Nat.gcd_comm _ _
 have h1:((Nat.gcd n.natAbs d.natAbs:Nat):Int)∣n:=Int.gcd_dvd_left ..
 have h2:((Nat.gcd n.natAbs d.natAbs:Nat):Int)∣d:=Int.gcd_dvd_right ..
 rw [Rat.num_divInt,Rat.den_divInt,if_neg X,e,Int.sign_eq_neg_one_of_neg h,Int.ediv_neg,Int.ediv_neg]
 refine ⟨?_,?_⟩
 ·rw [Int.neg_mul,Int.one_mul,Int.neg_ediv_of_dvd h1]
 ·rw [Int.natCast_ediv, ← Int.neg_ediv_of_dvd h2]; congr 1;omega
theorem xW {n d:Int} (h:d≠0) (hs:bE d):bE ((Nat.gcd n.natAbs d.natAbs:Nat):Int):=by
 have h1:Nat.gcd n.natAbs d.natAbs≤d.natAbs:=Nat.le_of_dvd X (Nat.gcd_dvd_right _ _)
 unfold bE at *
 rw [Int.natAbs_natCast]
 exact Nat.le_trans (ck h1) hs
theorem ve {n d:Int} (h:d≠0):((Nat.gcd n.natAbs d.natAbs:Nat):Int)≠0:=by
 have:=Nat.gcd_pos_of_pos_right n.natAbs (show 0<d.natAbs by omega)
 omega
theorem tK:VT.le (one (.agg #[.bool false, .slice none 0 0])) (aO 0):=by
 intro v h e
 have e:v = .agg #[.bool false, .slice none 0 0]:=e
 subst e
 exact jx _ _ ⟨_,rfl,rfl,by simp [Value.oneCell'],fun q hq=>by
  rcases List.mem_cons.1 hq with rfl | hq
  ·exact ⟨_,rfl,rfl⟩
  ·rcases List.mem_cons.1 hq with rfl | hq
   ·exact ⟨_,rfl,rfl⟩
   ·cases hq⟩
theorem vf:VT.le (bH 4 (dT #[Value.bool false,Value.slice none 0 0,Value.bool false,Value.slice none 0 0] [(0,Lay.agg 2),(2,Lay.agg 2)])) (bH 4 [(0, .agg 2,aO 0),(2, .agg 2,aO 0)]):=fL (fun q hq=>by
 rcases List.mem_cons.1 hq with rfl | hq
 ·exact ⟨_,List.mem_cons_self,tK⟩
 ·rcases List.mem_cons.1 hq with rfl | hq
  ·exact ⟨_,List.mem_cons_of_mem _ List.mem_cons_self,tK⟩
  ·cases hq)
attribute [local irreducible] J PJ aM one slT bW bH bj exT cn eP aX aH slV VT.le Ret bP
theorem tL:Ok Tryz.prog 101 [aO 0] (bj [aO 0,one (.int .i64 0)]):=by
 have hsi:=dg 0
 rw [show dn 0=0 from rfl] at hsi
 refine Ok.enter Tryz.func101 Y Tryz.ntmps101 Y (fun w O => ?_)
 refine ae (ai ?_)
 refine aQ Y Y (ltN Y) (fun b1 => ?_)
 refine aJ (T:=37) Y (ltN Y) (fun b2 => ?_)
 refine FJ Y (FL (aa (ae (ae (ai (FH (aI 1 Y Y) ?_))))))
 refine FH (am (hsi) Y ⟨S,FM⟩) ?_
 refine FL (aa (au (ae (ai (FH (sF X (bV Y Y)) (FJ Y (FL (aa (aA Y ?_)))))))))
 refine ae (ai (FH (sT X (bV Y Y)) (FJ Y (FL (aa (aD Y (ae (ai (stB Y Y Y ?_)))))))))
 refine BuildK.nil (aB 0 Y Y Y Y Y (leN Y) Y (FJ Y (FL (aa (aG (bJ (aS ?_)))))))
 refine c9 Tryz.results101 (.cellB 0 Y Y Y (jx)) (.tmp Y S)
theorem xX (n d:Int) (hd:d≠0) (hn:bE n) (hds:bE d):Ok Tryz.prog 148 [dN n d] (cj (Rat.divInt n d)):=by
 have hg:=z5 n d hn hds
 have hgs:=xW (n:=n) hd hds
 have hg0:=ve (n:=n) hd
 have hsi:=dg d
 unfold cj dN
 refine Ok.enter Tryz.func148 Y Tryz.ntmps148 Y (fun w O => ?_)
 by_cases h:d<0
 ·obtain ⟨l1,l2⟩:=wK (n:=n) h
  have hs:dn d = -1:=by unfold dn;rw [if_neg hd,if_pos h]
  rw [hs] at hsi
  refine ae (ai ?_)
  refine aQ Y Y (ltN Y) (fun b1 => ?_)
  refine bF (T:=58) Y Y Y (fun b2 => ?_)
  refine FL (aa (ae (ae (ai (FH (aj Y) (FH (ak 1 Y Y Y) ?_))))))
  refine FH (am (hsi) Y ⟨S,FM⟩) ?_
  refine FH (sF X (bV Y Y)) (FL (aa (aA Y (aw (aa (ae (ai (FH (aj Y) (FH (ak 1 Y Y Y) ?_)))))))))
  refine FH (aj Y) (FH (ak 1 Y Y Y) ?_)
  refine FH (am (hg) Y ⟨S,S,FM⟩) ?_
  refine aJ (T:=37) Y (ltN Y) (fun b3 => ?_)
  refine aB 0 Y Y Y Y Y (leN Y) Y (FL (aa (ae (ae (ai (FH (aj Y) (FH (ak 2 Y Y Y) ?_)))))))
  refine FH (am (hsi) Y ⟨S,FM⟩) ?_
  refine FH (sT X (a6 Y Y)) (FL (aa (aD Y (ai (FH (ak 0 Y Y Y) ?_)))))
  refine FH (am (wA _ (by assumption)) Y ⟨S,FM⟩) ?_
  refine aB 0 Y Y Y Y Y (leN Y) Y (FL (aa (ae (ai (FH (aj Y) (FH (ak 2 Y Y Y) (FH (ak 0 Y Y Y) ?_)))))))
  refine FH (am (dB _ _ X (by assumption) (ns ‹_›)) Y ⟨S,S,FM⟩) ?_
  refine FI Y (FH (an Y Y) (FH (an Y Y) (FH (an Y Y) ?_)))
  refine aJ (T:=37) Y (ltN Y) (fun b4 => ?_)
  refine aJ (T:=37) Y (ltN Y) (fun b5 => ?_)
  refine aB 1 Y Y Y Y Y (leN Y) Y (aB 0 Y Y Y Y Y (leN Y) Y (FJ Y (FL (aa (ae (ai (FH (aj Y) (FH (ak 4 Y Y Y) (FH (ak 2 Y Y Y) ?_)))))))))
  refine FH (am (dB _ _ X (by assumption) (ns ‹_›)) Y ⟨S,S,FM⟩) ?_
  refine FI Y (FH (an Y Y) (FH (an Y Y) (FH (an Y Y) ?_)))
  refine aJ (T:=37) Y (ltN Y) (fun b7 => ?_)
  refine aJ (T:=37) Y (ltN Y) (fun b8 => ?_)
  refine aB 1 Y Y Y Y Y (leN Y) Y (aB 0 Y Y Y Y Y (leN Y) Y (FJ Y (FL (aa (ae (ai (FH (ak 3 Y Y Y) (FH (ak 1 Y Y Y) (stB Y Y Y ?_)))))))))
  refine BuildK.cons Y Y Y (BuildK.cons Y Y Y (BuildK.nil (a8 5 Y Y Y Y (FL (aa (aG ?_))))))
  refine aT Tryz.results148 (.cellW 5 Y Y (jz l1 l2))
 ·obtain ⟨l1,l2⟩:=r8 (n:=n) (show 0<d by omega)
  have hs:dn d=1:=by unfold dn;rw [if_neg hd,if_neg h]
  rw [hs] at hsi
  refine ae (ai ?_)
  refine aQ Y Y (ltN Y) (fun b1 => ?_)
  refine bF (T:=58) Y Y Y (fun b2 => ?_)
  refine FL (aa (ae (ae (ai (FH (aj Y) (FH (ak 1 Y Y Y) ?_))))))
  refine FH (am (hsi) Y ⟨S,FM⟩) ?_
  refine FH (sF X (bV Y Y)) (FL (aa (aA Y (aw (aa (ae (ai (FH (aj Y) (FH (ak 1 Y Y Y) ?_)))))))))
  refine FH (aj Y) (FH (ak 1 Y Y Y) ?_)
  refine FH (am (hg) Y ⟨S,S,FM⟩) ?_
  refine aJ (T:=37) Y (ltN Y) (fun b3 => ?_)
  refine aB 0 Y Y Y Y Y (leN Y) Y (FL (aa (ae (ae (ai (FH (aj Y) (FH (ak 2 Y Y Y) ?_)))))))
  refine FH (am (hsi) Y ⟨S,FM⟩) ?_
  refine FH (sF X (a6 Y Y)) (FL (aa (aA Y (aw (aa (ae (ai (FH (aj Y) (FH (ak 2 Y Y Y) ?_)))))))))
  refine FH (ak 0 Y Y Y) ?_
  refine FH (am (dB _ _ (by assumption) (by assumption) (by assumption)) Y ⟨S,S,FM⟩) ?_
  refine FI Y (FH (an Y Y) (FH (an Y Y) (FH (an Y Y) ?_)))
  refine aJ (T:=37) Y (ltN Y) (fun b4 => ?_)
  refine aJ (T:=37) Y (ltN Y) (fun b5 => ?_)
  refine aB 1 Y Y Y Y Y (leN Y) Y (aB 0 Y Y Y Y Y (leN Y) Y (FJ Y (FL (aa (ae (ai (FH (aj Y) (FH (ak 4 Y Y Y) (FH (ak 2 Y Y Y) ?_)))))))))
  refine FH (am (dB _ _ (by assumption) (by assumption) (by assumption)) Y ⟨S,S,FM⟩) ?_
  refine FI Y (FH (an Y Y) (FH (an Y Y) (FH (an Y Y) ?_)))
  refine aJ (T:=37) Y (ltN Y) (fun b7 => ?_)
  refine aJ (T:=37) Y (ltN Y) (fun b8 => ?_)
  refine aB 1 Y Y Y Y Y (leN Y) Y (aB 0 Y Y Y Y Y (leN Y) Y (FJ Y (FL (aa (ae (ai (FH (ak 3 Y Y Y) (FH (ak 1 Y Y Y) (stB Y Y Y ?_)))))))))
  refine BuildK.cons Y Y Y (BuildK.cons Y Y Y (BuildK.nil (a8 5 Y Y Y Y (FL (aa (aG ?_))))))
  refine aT Tryz.results148 (.cellW 5 Y Y (jz l1 l2))
theorem D7 (n d:Int) (hd:d≠0) (hn:bE n) (hds:bE d):Ok Tryz.prog 103 [aO n,aO d] (bj [cj (Rat.divInt n d),one (.int .i64 0)]):=by
 have hlow:=xX n d hd hn hds
 have hs:dn d≠0:=by unfold dn;rw [if_neg hd]; split <;> decide
 unfold cj dN at *
 refine Ok.enter Tryz.func103 Y Tryz.ntmps103 Y (fun w O => ?_)
 refine ae (ai ?_)
 refine aQ Y Y (ltN Y) (fun b2 => ?_)
 refine aQ Y Y (ltN Y) (fun b3 => ?_)
 refine bF (T:=58) Y Y Y (fun b4 => ?_)
 refine FJ Y (FL (aa (ae (ae (ai (FH (aI 1 Y Y) ?_))))))
 refine FH (am (dg _) Y ⟨S,FM⟩) ?_
 refine FH (sF (by assumption) (bV Y Y)) (FL (aa (aA Y (aw (aa (ae (ai (FH (aI 2 Y Y) (FH (aI 1 Y Y) ?_)))))))))
 refine stB Y Y Y (BuildK.cons Y Y Y (BuildK.cons Y Y Y (BuildK.nil ?_)))
 refine FH (am (hlow) Y ⟨S,FM⟩) ?_
 refine a8 0 Y Y Y Y (FJ Y (FL (aa (aG ?_))))
 refine c9 Tryz.results103 (.cellW 0 Y Y S) (.tmp Y S)
theorem Cn (n:Int):Ok Tryz.prog 103 [aO n,aO 0] (bj [dN 0 0,one (.int .i64 3)]):=by
 unfold dN at *
 refine Ok.enter Tryz.func103 Y Tryz.ntmps103 Y (fun w O => ?_)
 have hsi:=dg 0
 rw [show dn 0=0 from rfl] at hsi
 refine ae (ai ?_)
 refine aQ Y Y (ltN Y) (fun b2 => ?_)
 refine aQ Y Y (ltN Y) (fun b3 => ?_)
 refine bF (T:=58) Y Y Y (fun b4 => ?_)
 refine FJ Y (FL (aa (ae (ae (ai (FH (aI 1 Y Y) ?_))))))
 refine FH (am (hsi) Y ⟨S,FM⟩) ?_
 refine FH (sT X (bV Y Y)) (FL (aa (aD Y (ae (ai (stB Y Y Y (BuildK.nil (a8 0 Y Y Y Y (FJ Y ?_)))))))))
 refine FL (aa (aG (aS ?_)))
 refine c9 Tryz.results103 (.cellW 0 Y Y (vf)) (.tmp Y S)
theorem Co (a b c d:Int) (hc:c≠0) (ha:bE a) (hcs:bE c) (hb:bE b) (hd:bE d) (hq:bE (a / c)) (hm:bE (a / c*d)):Ok Tryz.prog 102 [dN a b,dN c d] (dN (a % c) (b - a / c*d)):=by
 unfold dN at *
 refine Ok.enter Tryz.func102 Y Tryz.ntmps102 Y (fun w O => ?_)
 refine ae (ai ?_)
 refine aQ Y Y (ltN Y) (fun b2 => ?_)
 refine aQ Y Y (ltN Y) (fun b3 => ?_)
 refine bF (T:=137) Y Y Y (fun b4 => ?_)
 refine FL (aa (ae (ai (FH (aj Y) (FH (ak 2 Y Y Y) (FH (aj Y) (FH (ak 1 Y Y Y) ?_)))))))
 refine FH (am (dB _ _ (by assumption) (by assumption) (by assumption)) Y ⟨S,S,FM⟩) ?_
 refine FI Y (FH (an Y Y) (FH (an Y Y) (FH (an Y Y) ?_)))
 refine aJ (T:=37) Y (ltN Y) (fun b5 => ?_)
 refine aJ (T:=37) Y (ltN Y) (fun b6 => ?_)
 refine aB 1 Y Y Y Y Y (leN Y) Y (aB 0 Y Y Y Y Y (leN Y) Y (FJ Y (FL (aa (ae (be 9 a4 Z U (FH (ak 0 Y Y Y) (FH (aj Y) (FH (ak 4 Y Y Y) ?_)))))))))
 refine FH (ak 1 Y Y Y) (FH (aj Y) (FH (ak 3 Y Y Y) ?_))
 refine FH (am (fo _ _ (by assumption) (by assumption)) Y ⟨S,S,FM⟩) ?_
 refine FH (am (mI _ _ (by assumption) (by assumption)) Y ⟨S,S,FM⟩) ?_
 refine stB Y Y Y (BuildK.cons Y Y Y (BuildK.cons Y Y Y (BuildK.nil (FL (a8 2 Y Y Y Y (FL (aa (aG ?_))))))))
 refine aT Tryz.results102 (.cellW 2 Y Y S)
end Tor
end
section
namespace Tor
open Go Go.RowKit Go.Proofs
section
variable {P:Program} {E:Env} {Γ:Ctx} {M:Mem} {d:Option Tmp} {ty:TypeId} {pos:String} {af:Array Edge} {gd:Option (Nat × Bool)}
theorem D8 {T T':TypeId} {x y:Operand} {a b:Nat} (hx:aP Γ x=some (one (.int .u32 (a:Int)))) (hy:aP Γ y=some (one (.int .u32 (b:Int)))) (h:a*b<4294967296) :
  aM P E Γ M ⟨d, .binOp .mul T x y T',ty,pos,af,gd⟩ (one (.int .u32 ((a*b:Nat):Int))) :=
 nQ hx hy (by
  rw [mc, ← Int.natCast_mul]
  generalize a*b=z at *
  omega)
theorem xY {L:Lay} {k m j:Nat} {c c':Array Value} {x:Value} (h:bX (.agg m) c k=some (.agg c')) (hx:bX L c' j=some x):bX L c (k+j)=some x:=by
 simp only [bX] at h
 split at h
 ·rename_i hk
  cases h
  cases L with
  | one =>
   simp only [bX] at hx ⊢
   rw [cD] at hx
   split at hx
   ·exact hx
   ·cases hx
  | agg n =>
   simp only [bX] at hx ⊢
   have hs:(c.extract k (k+m)).size=m:=by simp;omega
   rw [hs] at hx
   split at hx
   ·rename_i hj
    rw [if_pos X]
    rw [← hx]
    congr 2
    apply Array.ext_getElem?
    intro i
    rw [cD,cD,cD]
    by_cases hi:i<n
    ·rw [if_pos hi,if_pos hi,if_pos X,Nat.add_assoc]
    ·rw [if_neg hi,if_neg hi]
   ·cases hx
 ·cases h
theorem fV {T T':TypeId} {L:Lay} [LayOf P T L] {x:Operand} {b o m m':Nat} {cs cs':cy} {φ:VT} (i k j:Nat) (hx:aP Γ x=some (one (.pointer (some ⟨b,o,none⟩)))) (hM:M[i]? = some (aX b T' m cs))
  (hl:fc cs k=some (.agg m',bH m' cs')) (ho:o=k+j) (hl2:fc cs' j=some (L, φ)):aM P E Γ M ⟨d, .load T x,ty,pos,af,gd⟩ φ :=
 aM.ofRun fun a w hb hf=>by
  have h1:a.eval x = .pointer (some ⟨b,o,none⟩):=hf x _ (by simp [Op.operands]) hx
  obtain ⟨c,hc,_,_,hcs⟩:=ef hb hM
  obtain ⟨v,hx',c',rfl,hs',_,hcs'⟩:=hcs _ (ei hl)
  obtain ⟨y,hy,hp⟩:=hcs' _ (ei hl2)
  refine ⟨y,?_,hp⟩
  have h2:=xY hx' hy
  subst ho
  simp only [execOp,h1,Instr.loadAt,Instr.sureAddr,Sem.run_bind,Sem.run_pure,Result.andThen_ok,du hc h2]
theorem r9 {b:Nat} {T:TypeId} {m:Nat} {cs:cy} {φ:VT} (h:VT.le (bH m cs) φ):Own.le (aX b T m cs) (aX b T m [(0, .agg m, φ)]) :=
 ⟨rfl,fun g h' ⟨c,hb,hs,ha,hc⟩=>⟨c,hb,hs,ha,fun q hq=>by
  rw [List.mem_singleton.1 hq]
  exact ⟨.agg c,by subst hs;simp [bX],h _ _ ⟨c,rfl,hs,ha,hc⟩⟩⟩⟩
theorem tM {ops:Array Oper} {i:Nat} {os:List Oper} {K:List Deferred→Ctx→Mem→Prop} {D:List Deferred} {t1 t2 j n cap:Nat} {sv:Option Nat} {T:TypeId} {L:Lay} {φ:Nat→VT} (h1:bT Γ t1=some (one (slV sv n cap))) (h2:bT Γ t2=some (one (slV sv n cap))) (hM:M[j]? = some (aH sv T L cap n φ))
  (h:Run P E ops false i D ((t1,slT L n φ) :: (t2,slT L n φ) :: Γ) (M.eraseIdx j) os K):Run P E ops false i D Γ M os K :=
 oV [aH sv T L cap n φ] (db j hM) (EntM.refl _) (fun s χ hs=>by
  have he:Ent [aH sv T L cap n φ] (one (slV sv n cap)) (slT L n φ):=Ent.sl List.mem_cons_self
  rw [bA] at hs
  split at hs
  ·rename_i e;subst e;cases hs;exact ⟨_,h1,he⟩
  ·rw [bA] at hs
   split at hs
   ·rename_i e;subst e;cases hs;exact ⟨_,h2,he⟩
   ·exact ⟨χ,hs,Ent.refl _⟩) h
theorem iG {ops:Array Oper} {i:Nat} {os:List Oper} {K:List Deferred→Ctx→Mem→Prop} {D:List Deferred} {t:Nat} {φ ψ:VT} (ht:bT Γ t=some φ) (hle:VT.le φ ψ) (h:Run P E ops false i D ((t, ψ) :: Γ) M os K):Run P E ops false i D Γ M os K :=
 .conv (fun a w hS=>hS.sub (fun s χ hs=>by
  rw [bA] at hs
  split at hs
  ·rename_i e;subst e;cases hs;exact ⟨φ,ht,hle⟩
  ·exact ⟨χ,hs,S⟩) (SubM.refl _)) h
end
attribute [local irreducible] J PJ aM one slT bW bH bj exT cn eP aX aH slV VT.le Ret bP
theorem qS (l:List Nat) (d:Nat) (hl:bL l) (h1:l.length≤1099511627776) (hd0:0<d) (hd:d<4294967296):Ok Tryz.prog 122 [cz l,one (.int .u32 (d:Nat))] (bj [qh (lv l / d),one (.int .u32 ((lv l % d:Nat):Int))]):=by
 refine Ok.enter Tryz.func122 Y Tryz.ntmps122 Y (fun w O => ?_)
 refine ae (ai (FJ Y (FJ Y (FL (aa (ae (ai (FI Y (FH (aY Y) ?_)))))))))
 refine bY l.length l.length Y Y Y Y (Nat.le_refl _) Y Y X Y Y (fun bz => ?_)
 refine FJ Y (FJ Y (FL (aa (ae (ae (ai (FI Y (FH (aY Y) (FH (d4 Y Y (aR X X)) ?_)))))))))
 refine FJ Y (FL (aa (au (cf (Γ' := [(0,_),(1,_),(4,_),(5,_),(6,_),(7,_),(8,_)]) FC (SubM.refl _) ?_))))
 refine bk (σ:=List Nat × Nat × Nat) (Γk := [(0,_),(1,_),(4,_),(5,_),(6,_)]) FC (fun s => [(8,one (.int .i64 ((s.2.1:Nat) - 1:Int))),(7,one (.int .u64 (s.2.2:Nat)))]) (fun s M0=>(M0.set 0 (aH (some bz) 86 .one l.length l.length (fun q=>one (.int .u32 (s.1.getD q 0:Nat)))))) (fun s=>ShortR l d s) (fun s=>s.2.1) ((List.replicate l.length 0,l.length,0)) (ShortR.start hd0) FD (.keep (a7 (fun q _=>by rw [cF]; rfl)) (.nil)) (fun s hs => ?_)
 refine bI (Γ' := [(8,_),(7,_),(0,_),(1,_),(4,_),(5,_),(6,_)]) (M' := [_]) Y Y ?_
 obtain ⟨z,n,r⟩:=s
 dsimp only at hs ⊢
 refine ae (ae (ai (FI Y (FH (eu Y Y) (FL (aa ?_))))))
 cases n with
 | zero =>
  obtain ⟨f1,f2⟩:=hs.finish
  have hlen:z.length=l.length:=hs.len
  have hr:r<d:=hs.r
  rw [← f1, ← f2]
  refine ou Y X (aV (av (av (aE (aa (ae (ai (FI Y (FI Y ?_)))))))))
  refine FH (cM Y) (FJ Y (FJ Y (FL (aa (aG (bZ (t:=4) (i:=0) Y Y ?_))))))
  refine c9 Tryz.results122 (.tmp Y (VT.le_trans (cI (m:=z.length) (ψ:=fun i=>one (.int .u32 (z.getD i 0:Nat))) hlen.symm (fun q hq=>rfl)) (iY (l:=z) hs.lim Y X))) (.tmp Y (ar (by congr 1;omega)))
 | succ n =>
  have hx:=bh hl n
  have hr:r<d:=hs.r
  have hb:=ShortR.bound hx hr hd
  have hst:=hs.step hl hd
  have hn:n<l.length:=hs.le
  have hzn:n<z.length:=by have:=hs.len;dsimp only at this;omega
  have en:((n+1:Nat):Int) - 1=(n:Nat):=by omega
  rw [en]
  refine ot Y X (aw (aa (ae (au (ae (ai (FI Y (FH (fa (b:=4294967296) Y Y X) (FI Y ?_)))))))))
  refine FI Y (FH (aC Y Y X) (FH (aN Y) (FH (bU Y X) (FH (dK Y Y X) (FJ Y (FL (aa (ae (ai ?_)))))))))
  refine FI Y (FI Y (FI Y (FI Y (FH (bU Y X) (FH (kt Y Y X X) (FH (cM Y) (FH (aq Y Y X) ?_)))))))
  (refine az 0 Y Y Y ?_ Y ?_;omega)
  refine FL (aa (ai (FI Y (FI Y (FH (bU Y X) (FH (eE _ Y Y Y X) (FJ Y (FL (aF ?_)))))))))
  refine aa (ai (FI Y (FH (d4 Y Y (aR X X)) (FJ Y (FL ?_)))))
  refine aK ((z.set n ((r*4294967296+l.getD n 0) / d),n,(r*4294967296+l.getD n 0) % d)) (hst) (by (simp only []; omega)) FD (.keep (rY hzn (Nat.mod_eq_of_lt hb.2)) (.nil))
def xZ (r d:Nat):Nat :=
 if (aL r).length=(aL d).length then max 1 ((aL r).getD ((aL r).length - 1) 0 / ((aL d).getD ((aL d).length - 1) 0+1))
 else (((aL r).getD ((aL r).length - 1) 0*4294967296+(aL r).getD ((aL r).length - 2) 0) / ((aL d).getD ((aL d).length - 1) 0+1))*4294967296^((aL r).length - (aL d).length - 1)
theorem kY {v:Nat} {n:Nat} (h:(aL v).length=n+1):v=lv ((aL v).take n)+4294967296^n*(aL v).getD n 0∧lv ((aL v).take n)<4294967296^n:=by
 have h1:=bR (l:=aL v) (k:=n) X
 rw [List.take_of_length_le X,cd] at h1
 exact ⟨h1,by have:=lT (a9 v) n;rwa [← tC] at this⟩
theorem z8 {r d:Nat} (hd:d≠0) (h:d≤r):0<xZ r d∧xZ r d*d≤r:=by
 have hlen:=ck h
 have hdl:(aL d).length≠0:=fun k=>hd (fj k)
 obtain ⟨m,hm⟩ : ∃ m,(aL d).length=m+1:=⟨(aL d).length - 1,by omega⟩
 obtain ⟨e,he⟩ : ∃ e,(aL r).length=m+1+e:=⟨(aL r).length - (m+1),by omega⟩
 have hdt:=bh (a9 d) m
 obtain ⟨d1,d2⟩:=kY hm
 unfold xZ
 rw [hm,he]
 simp only [Nat.add_sub_cancel] at *
 generalize hx:(aL d).getD m 0=x at *
 generalize lv ((aL d).take m)=dl at *
 have hdlt:d<4294967296^m*(x+1):=by rw [Nat.mul_add]; omega
 cases e with
 | zero =>
  rw [if_pos Y]
  obtain ⟨r1,r2⟩:=kY he
  simp only [Nat.add_zero,Nat.add_sub_cancel] at *
  generalize (aL r).getD m 0=y at *
  generalize lv ((aL r).take m)=rl at *
  refine ⟨by omega,?_⟩
  rcases Nat.eq_zero_or_pos (y / (x+1)) with hq | hq
  ·rw [hq]; simpa using h
  ·rw [Nat.max_eq_right hq]
   have h1:y / (x+1)*d≤y / (x+1)*(4294967296^m*(x+1)):=Nat.mul_le_mul_left _ (Nat.le_of_lt hdlt)
   have h2:y / (x+1)*(4294967296^m*(x+1))=4294967296^m*(y / (x+1)*(x+1)):=by rw [Nat.mul_left_comm]
   have h3:4294967296^m*(y / (x+1)*(x+1))≤4294967296^m*y:=Nat.mul_le_mul_left _ (Nat.div_mul_le_self _ _)
   omega
 | succ e =>
  rw [if_neg X]
  rw [show m+1+(e+1) - 1=m+e+1 by omega,show m+1+(e+1) - 2=m+e by omega,show m+1+(e+1) - (m+1) - 1=e by omega]
  obtain ⟨r1,r2⟩:=kY (show (aL r).length=(m+e+1)+1 by omega)
  have r3:=bR (l:=aL r) (k:=m+e) X
  have hy0:(aL r).getD (m+e+1) 0≠0:=by
   intro hy
   have:=cw (n:=r) (k:=m+e+1) (by rw [hy,Nat.mul_zero,Nat.add_zero] at r1;rw [r1]; exact r2)
   omega
  generalize (aL r).getD (m+e+1) 0=y at *
  generalize (aL r).getD (m+e) 0=y2 at *
  rw [r3] at r1
  generalize lv ((aL r).take (m+e))=rl at *
  have hqp:0<(y*4294967296+y2) / (x+1):=Nat.div_pos X X
  have hle:=Nat.div_mul_le_self (y*4294967296+y2) (x+1)
  generalize (y*4294967296+y2) / (x+1)=q at *
  refine ⟨Nat.mul_pos hqp (Nat.pow_pos U),?_⟩
  have h1:q*4294967296^e*d≤q*4294967296^e*(4294967296^m*(x+1)):=Nat.mul_le_mul_left _ (Nat.le_of_lt hdlt)
  have h2:q*4294967296^e*(4294967296^m*(x+1))=4294967296^(m+e)*(q*(x+1)):=by
   rw [Nat.pow_add]; ac_rfl
  have h3:4294967296^(m+e)*(q*(x+1))≤4294967296^(m+e)*(y*4294967296+y2):=Nat.mul_le_mul_left _ hle
  have h4:4294967296^(m+e+1)*y=4294967296^(m+e)*(y*4294967296):=by rw [Nat.pow_succ]; ac_rfl
  rw [Nat.mul_add (4294967296^(m+e)) (y*4294967296) y2] at h3
  rw [h4] at r1
  rw [h2] at h1
  generalize 4294967296^(m+e)*(y*4294967296)=z1 at *
  generalize 4294967296^(m+e)*y2=z2 at *
  refine Nat.le_trans h1 (Nat.le_trans h3 ?_)
  rw [r1]
  exact Nat.le_trans (Nat.add_comm z1 z2▸Nat.le_refl _) (Nat.add_le_add_right (Nat.le_add_left _ _) _)
end Tor
end
section
namespace Tor
open Go Go.RowKit Go.Proofs
theorem Cp (a b:Nat):VT.le (slT .one 2 (fun q => [one (.int .u32 (b:Int)),one (.int .u32 (a:Int))].reverse.getD q bP)) (slT .one 2 (fun q=>one (.int .u32 (([a,b].getD q 0:Nat):Int)))) :=
 cI Y (fun q hq=>by
  match q,hq with
  | 0, _ => rfl
  | 1, _ => rfl)
theorem D9 {k q:Nat} (hq:q<18446744073709551616) (hk:k≤1099511627776):VT.le (slT .one (k+2) (fun p=>if p<k then one (.int .u32 0) else (fun j=>one (.int .u32 (([q % 4294967296,q / 4294967296 % 4294967296].getD j 0:Nat):Int))) (p - k))) (qh (q*4294967296^k)) :=
 VT.le_trans (cI (m:=(List.replicate k 0 ++ [q % 4294967296,q / 4294967296 % 4294967296]).length) (ψ:=gq (List.replicate k 0 ++ [q % 4294967296,q / 4294967296 % 4294967296])) (by simp) (fun p hp=>by
  unfold gq
  by_cases h:p<k
  ·rw [if_pos h]; simp [List.getD,List.getElem?_append,h]
  ·rw [if_neg h]; simp only [List.getD,List.getElem?_append,List.length_replicate,if_neg h])) (iY (fun d hd=>by
   rcases List.mem_append.1 hd with h | h
   ·rw [(List.mem_replicate.1 h).2]; decide
   ·rcases List.mem_cons.1 h with rfl | h
    ·exact Nat.mod_lt _ U
    ·rw [List.mem_singleton.1 h]; exact Nat.mod_lt _ U) (by
   rw [gn,d8,List.length_replicate,Nat.zero_add,Nat.mul_comm]
   congr 1
   simp only [lv]
   omega) (by simp;omega))
attribute [local irreducible] J PJ aM one slT bW bH bj exT cn eP aX aH slV VT.le Ret bP
theorem tN (r d:Nat) (hd:d≠0) (h:d≤r) (hl:(aL r).length≤1099511627776):Ok Tryz.prog 123 [cz (aL r),cz (aL d)] (aO ((xZ r d:Nat):Int)):=by
 have hlen:=ck h
 have hdl:(aL d).length≠0:=fun k=>hd (fj k)
 have hx:=bh (a9 d) ((aL d).length - 1)
 have hy:=bh (a9 r) ((aL r).length - 1)
 have hz:=bh (a9 r) ((aL r).length - 2)
 unfold xZ
 refine Ok.enter Tryz.func123 Y Tryz.ntmps123 Y (fun w O => ?_)
 by_cases hk:(aL r).length=(aL d).length
 ·rw [if_pos hk]
  refine ae (ai ?_)
  refine aJ (T:=37) Y (ltN Y) (fun b4 => ?_)
  refine FL (aa (ae (be 17 a4 Z U (FI Y (FH (aY Y) (FI Y (FH (aY Y) (FH (cr _ _ Y Y X X) (FI Y ?_)))))))))
  refine FH (aY Y) (FI Y (FI Y (FH (aY Y) (FH (cr _ 1 Y Y X X) (FH (aC Y Y X) (FH (aN Y) (FH (bU Y X) (FH (dK (b:=1) Y Y X) (FJ Y ?_)))))))))
  refine FJ Y (FL (FJ Y (FL (aa (ae (ae (ai (FI Y (FH (sT X (bV Y Y)) ?_)))))))))
  refine FL (aa (aD Y (ae (ai (FI Y (FI Y (FH (cr _ 1 Y Y X X) (FH (aC Y Y X) (FH (aN Y) ?_)))))))))
  refine FH (bU Y X) (FI Y (FH (kt Y Y X X) (FH (qt Y Y) ?_)))
  have hq:=Nat.div_le_self ((aL r).getD ((aL r).length - 1) 0) ((aL d).getD ((aL d).length - 1) 0+1)
  generalize (aL r).getD ((aL r).length - 1) 0 / ((aL d).getD ((aL d).length - 1) 0+1)=q at *
  refine FH (c6 Y X X) ?_
  refine FH (am (iB _ X X) Y ⟨S,FM⟩) ?_
  refine aB 0 Y Y Y Y Y (leN Y) Y (FL (aa (aG (aS ?_))))
  refine aT Tryz.results123 (.cellB 0 Y Y Y (cp X))
 ·rw [if_neg hk]
  refine ae (ai ?_)
  refine aJ (T:=37) Y (ltN Y) (fun b4 => ?_)
  refine FL (aa (ae (be 17 a4 Z U (FI Y (FH (aY Y) (FI Y (FH (aY Y) (FH (cr _ _ Y Y X X) (FI Y ?_)))))))))
  refine FH (aY Y) (FI Y (FI Y (FH (aY Y) (FH (cr _ 1 Y Y X X) (FH (aC Y Y X) (FH (aN Y) (FH (bU Y X) (FH (dK (b:=1) Y Y X) (FJ Y ?_)))))))))
  refine FJ Y (FL (FJ Y (FL (aa (ae (ae (ai (FI Y (FH (sF X (bV Y Y)) ?_)))))))))
  refine FL (aa (aA Y (aw (aa (ae (be 16 a4 Z U (FI Y (FI Y (FH (cr _ 1 Y Y X X) ?_)))))))))
  refine FH (aC Y Y X) (FH (aN Y) (FH (bU Y X) (FH (fa (b:=4294967296) Y Y X) (FI Y (FI Y (FH (cr _ 2 Y Y X X) (FH (aC Y Y X) (FH (aN Y) (FH (bU Y X) ?_)))))))))
  refine FH (dK Y Y X) (FI Y (FH (kt Y Y X X) (FL (FJ Y (FL (aa (ae (ai (FI Y ?_)))))))))
  refine FH (cr _ 1 Y Y X X) ?_
  have hq:=Nat.div_le_self ((aL r).getD ((aL r).length - 1) 0*4294967296+(aL r).getD ((aL r).length - 2) 0) ((aL d).getD ((aL d).length - 1) 0+1)
  generalize ((aL r).getD ((aL r).length - 1) 0*4294967296+(aL r).getD ((aL r).length - 2) 0) / ((aL d).getD ((aL d).length - 1) 0+1)=q at *
  obtain ⟨k,hkk⟩ : ∃ k,k=(aL r).length - (aL d).length - 1:=⟨_,rfl⟩
  rw [← hkk]
  refine bY k k Y Y Y Y (Nat.le_refl _) Y Y X Y Y (fun bz => ?_)
  refine FJ Y (FL (aa (ae (ai (FI Y (FI Y (FH (cM Y) (FI Y (FH (gT Y) ?_)))))))))
  refine FH (cM Y) (stS Y Y Y Y (PartsK.cons Y (PartsK.cons Y (PartsK.nil (iG (t:=63) Y (Cp _ _) ?_)))))
  (refine cq 0 Y Y Y (leN Y) ?_ ?_ Y (ltN Y) (fun sv64 cap64 => ?_);omega;omega)
  refine gg (t:=64) (j:=0) Y Y ?_
  have hq64:q<18446744073709551616:=by omega
  have hmd:=dz false (q*4294967296^k)
  rw [if_neg U] at hmd
  refine FH (am (hmd) Y ⟨(D9 hq64 X),S,FM⟩) ?_
  refine aB 0 Y Y Y Y Y (leN Y) Y (FL (aa (aG ?_)))
  refine aT Tryz.results123 (.cellB 0 Y Y Y (cp (by rw [hkk])))
theorem tO {d:Nat} (hd:d<4294967296):VT.le (slT .one 1 fun _=>one (.int .u32 (d:Int))) (qh d) :=
 VT.le_trans (cI (m := [d].length) (ψ:=gq [d]) Y (fun q hq=>by
  have hq:q=0:=by omega
  subst hq;rfl)) (iY (fun x hx=>by rw [List.mem_singleton.1 hx]; exact hd) (by simp [lv]) (by simp))
theorem z9 {b:Nat} (hb:b≠0):0<(aL b).getD ((aL b).length - 1) 0:=by
 have hdl:(aL b).length≠0:=fun k=>hb (fj k)
 obtain ⟨m,hm⟩ : ∃ m,(aL b).length=m+1:=⟨(aL b).length - 1,by omega⟩
 obtain ⟨d1,d2⟩:=kY hm
 rw [hm,Nat.add_sub_cancel]
 rcases Nat.eq_zero_or_pos ((aL b).getD m 0) with h | h
 ·rw [h,Nat.mul_zero,Nat.add_zero] at d1
  have:=cw (n:=b) (k:=m) (by rw [d1]; exact d2)
  omega
 ·exact h
theorem pD {a s:Nat} (hs:s<4294967296):(aL (a*s)).length≤(aL a).length+1:=cw (by
 rw [Nat.pow_succ]
 have h1:=dc a
 rcases Nat.eq_zero_or_pos s with h | h
 ·subst h;rw [Nat.mul_zero]; exact Nat.mul_pos (Nat.pow_pos U) U
 ·exact Nat.mul_lt_mul'' h1 hs)
theorem Ea {a b s q r:Nat} (hs:0<s) (hb:0<b) (h:q*(b*s)+r=a*s) (hr:r<b*s):q=a / b∧r / s=a % b:=by
 have h1:(a*s) / (b*s)=q:=by rw [← h,Nat.mul_comm q,Nat.mul_add_div X,Nat.div_eq_of_lt hr,Nat.add_zero]
 have h2:(a*s) % (b*s)=r:=by rw [← h,Nat.mul_comm q,Nat.mul_add_mod,Nat.mod_eq_of_lt hr]
 rw [Nat.mul_div_mul_right _ _ hs] at h1
 rw [Nat.mul_mod_mul_right] at h2
 exact ⟨h1.symm,by rw [← h2,Nat.mul_div_cancel _ hs]⟩
theorem vg (a b:Nat) (hb:b≠0) (ha:(aL a).length≤1099511627700) (hbl:(aL b).length≤1099511627700):Ok Tryz.prog 73 [cz (aL a),cz (aL b)] (bj [aO ((a / b:Nat):Int),aO ((a % b:Nat):Int)]):=by
 have hbp:0<b:=by omega
 have hdl:(aL b).length≠0:=fun k=>hb (fj k)
 refine Ok.enter Tryz.func73 Y Tryz.ntmps73 Y (fun w O => ?_)
 by_cases h1:(aL b).length=1
 ·have hb1:=tF h1
  have hd:=bh (a9 b) 0
  have hsh:=qS (aL a) b (a9 a) X X X
  rw [cd] at hsh
  have hr:=Nat.mod_lt a hbp
  have hm1:=dz false (a / b)
  have hm2:=dz false (a % b)
  rw [if_neg U] at hm1 hm2
  refine ae (ai ?_)
  refine aJ (T:=37) Y (ltN Y) (fun b4 => ?_)
  refine aJ (T:=37) Y (ltN Y) (fun b5 => ?_)
  refine FL (aa (ae (ae (ai (FI Y (FH (aY Y) (FH (sT X (bV Y Y)) (FL (aa ?_)))))))))
  refine aD Y (ae (ai (FI Y (FI Y (FH (im Y Y X X) (FH (aN Y) ?_))))))
  refine FH (am (hsh) Y ⟨S,(ar (by rw [show (aL b).getD (Int.toNat 0) 0=b from hb1])),FM⟩) ?_
  refine FI Y (FH (an Y Y) (FH (an Y Y) (FJ Y (FJ Y (FL (aa (ae (ai (FI Y ?_)))))))))
  refine FH (am (hm1) Y ⟨S,S,FM⟩) ?_
  refine FI Y (eH Y Y Y Y ?_)
  refine FH (am (hm2) Y ⟨(tO X),S,FM⟩) ?_
  refine aB 1 Y Y Y Y Y (leN Y) Y (aB 0 Y Y Y Y Y (leN Y) Y (FL (aa (aG (aS ?_)))))
  refine c9 Tryz.results73 (.cellB 1 Y Y Y S) (.cellB 0 Y Y Y S)
 ·have hx:=bh (a9 b) ((aL b).length - 1)
  have hx0:=z9 hb
  refine ae (ai ?_)
  refine aJ (T:=37) Y (ltN Y) (fun b4 => ?_)
  refine aJ (T:=37) Y (ltN Y) (fun b5 => ?_)
  refine FL (aa (ae (ae (ai (FI Y (FH (aY Y) (FH (sF X (bV Y Y)) (FL (aa ?_)))))))))
  refine aA Y (aw (aa (ae (ai (FJ Y (FL (aa (ae (au ?_)))))))))
  refine cf (Γ' := [(0,_),(1,_),(4,_),(5,_),(8,_)]) FC (SubM.refl _) ?_
  refine bk (σ:=Nat) (Γk := [(0,_),(1,_),(4,_),(5,_)]) FC (fun s => [(8,one (.int .u32 (s:Nat)))]) (fun s M0=>M0) (fun s=>0<s∧s<4294967296) (fun s=>4294967296 - s) (1) (⟨by decide,by decide⟩) FD (.keep FG (.keep FG (.nil))) (fun s hs => ?_)
  refine bI (Γ' := [(8,_),(0,_),(1,_),(4,_),(5,_)]) (M' := [_,_]) Y Y ?_
  obtain ⟨s0,s1⟩:=hs
  have hb1:=Nat.mul_le_mul (show (aL b).getD ((aL b).length - 1) 0≤4294967295 by omega) (show s≤4294967295 by omega)
  have hb2:=Nat.mul_le_mul_right s hx0
  by_cases hc:(aL b).getD ((aL b).length - 1) 0*s<2147483648
  ·refine ae (ae (ai (FI Y (FI Y (FH (aY Y) (FH (cr _ 1 Y Y X X) (FH (aC Y Y X) (FH (aN Y) (FH (bU Y X) ?_)))))))))
   refine FI Y (FH (bU Y X) (FH (fa Y Y X) (FH (sT X (a6 Y Y)) (FL (aa (aD Y (aw (aa (au ?_)))))))))
   refine ai (FI Y (FH (D8 (a:=2) Y Y X) (FJ Y (FL (aF ?_)))))
   refine aK (2*s) (⟨by omega,by omega⟩) X FD (.keep FG (.keep FG (.nil)))
  ·have hma:=dz false a
   have hmb:=dz false b
   have hms:=dz false s
   rw [if_neg U] at hma hmb hms
   have la:=pD (a:=a) s1
   have lb:=pD (a:=b) s1
   have ls:bE ((s:Nat):Int):=d9 (by rw [Int.natAbs_natCast]; exact Nat.lt_trans s1 H)
   have hMa:=fh (a:Int) (s:Int) (show (aL a).length≤_ by omega) ls
   have hMb:=fh (b:Int) (s:Int) (show (aL b).length≤_ by omega) ls
   rw [← Int.natCast_mul] at hMa hMb
   refine ae (ae (ai (FI Y (FI Y (FH (aY Y) (FH (cr _ 1 Y Y X X) (FH (aC Y Y X) (FH (aN Y) (FH (bU Y X) ?_)))))))))
   refine FI Y (FH (bU Y X) (FH (fa Y Y X) (FH (sF X (a6 Y Y)) (FL (aa (aA Y (aV (av (av ?_)))))))))
   refine aE (aa (ae (ai (FI Y (eH Y Y Y Y ?_)))))
   refine FH (am (hms) Y ⟨(tO s1),S,FM⟩) ?_
   refine aJ (T:=37) Y (ltN Y) (fun b9 => ?_)
   refine aB 0 Y Y Y Y Y (leN Y) Y (FL (aa (ae ?_)))
   refine eh a4 Z Z ?_
   refine ux (fun B=>ab Y) Y Y ?_
   refine uxk (hma) Y ⟨(cT X),S,FM⟩ Y ?_
   refine ux (fun B=>ak 0 Y Y Y) Y Y ?_
   refine uxk (hMa) Y ⟨S,S,FM⟩ Y ?_
   refine ux (fun B=>ab Y) Y Y ?_
   refine uxk (hmb) Y ⟨(cT X),S,FM⟩ Y ?_
   refine ux (fun B=>ak 0 Y Y Y) Y Y ?_
   refine uxk (hMb) Y ⟨S,S,FM⟩ Y ?_
   refine uB Y Y Y (BuildK.nil (ua Y (ua Y (ua Y (us Y (us Y (us Y ?_)))))))
   refine RunU.nil (fun γ => ?_)
   refine cR (M' := [_,_,_,_,_,_]) Y (io (dV.refl _) (.keep jt (.keep FG (.keep FG (SubM.refl _)))) (aa (ae (au ?_))))
   have hbs:0<b*s:=Nat.mul_pos hbp s0
   refine cf (Γ' := [(4,_),(5,_),(8,_),(10,_),(11,_),(12,_)]) FC (SubM.refl _) ?_
   refine bk (σ:=Nat × Nat) (Γk := [(4,_),(5,_),(8,_),(10,_),(11,_),(12,_)]) FC (fun p => []) (fun p M0=>((M0.set 0 (aX (γ 12) 37 (Lay.agg 2).sz [(0,Lay.agg 2,aO (p.1:Int))])).set 2 (aX (γ 10) 37 (Lay.agg 2).sz [(0,Lay.agg 2,aO (p.2:Int))]))) (fun p=>p.1*(b*s)+p.2=a*s) (fun p=>p.2) ((0,a*s)) ((by simp)) FD (.keep (r9 jx) (.keep FG (.keep FG (.keep FG (.keep FG (.keep FG (.nil))))))) (fun p hp => ?_)
   refine bI (Γ' := [(4,_),(5,_),(8,_),(10,_),(11,_),(12,_)]) (M' := [_,_,_,_,_,_]) Y Y ?_
   obtain ⟨q,r⟩:=p
   dsimp only at hp ⊢
   have hle:=mH r (b*s)
   by_cases hr:r<b*s
   ·obtain ⟨f1,f2⟩:=Ea s0 hbp hp hr
    have lr:(aL r).length≤1099511627776:=by
     have:=ck (show r≤a*s by omega)
     omega
    have hsh:=qS (aL r) s (a9 r) lr s0 s1
    rw [cd,f2] at hsh
    have hm2:=dz false (a % b)
    rw [if_neg U] at hm2
    refine ae (ae (ai (FH (aj Y) (FH (fV 2 0 1 Y Y Y Y Y) (FH (aj Y) (FH (fV 1 0 1 Y Y Y Y Y) ?_))))))
    refine FH (sT (by assumption) (am (hle) Y ⟨S,S,FM⟩)) ?_
    refine FH (dk Y) (FL (aa (aA Y (aV (av (av (aE (aa (ae ?_)))))))))
    refine ai (FH (aj Y) (FH (fV 2 0 1 Y Y Y Y Y) (FI Y ?_)))
    refine FH (am (hsh) Y ⟨S,S,FM⟩) ?_
    refine FI Y (FH (an Y Y) (FH (an Y Y) (FJ Y (FJ Y (FL (aa (ae (eX 3 a4 Z U (FH (ak 0 Y Y Y) ?_)))))))))
    refine FI Y ?_
    refine FH (am (hm2) Y ⟨S,S,FM⟩) ?_
    refine FL (aB 5 Y Y Y Y Y (leN Y) Y (aB 4 Y Y Y Y Y (leN Y) Y (FL (aa (aG ?_)))))
    refine c9 Tryz.results73 (.cellB 5 Y Y Y (cp (by rw [f1]))) (.cellB 4 Y Y Y S)
   ·have lr:(aL r).length≤1099511627776:=by
     have:=ck (show r≤a*s by omega)
     omega
    obtain ⟨e0,e1⟩:=z8 (show b*s≠0 by omega) (Nat.le_of_not_lt hr)
    have hes:=tN r (b*s) X (Nat.le_of_not_lt hr) lr
    generalize xZ r (b*s)=e at *
    have hq0:q≤q*(b*s):=Nat.le_mul_of_pos_right _ hbs
    have he0:e≤e*(b*s):=Nat.le_mul_of_pos_right _ hbs
    have le0:bE (e:Int):=Nat.le_trans (ck (show (e:Int).natAbs≤r by omega)) lr
    have lq0:bE (q:Int):=Nat.le_trans (ck (show (q:Int).natAbs≤a*s by omega)) X
    have lbs:bE ((b*s:Nat):Int):=Nat.le_trans (ck (show ((b*s:Nat):Int).natAbs≤b*s by omega)) X
    have lrs:bE (r:Int):=Nat.le_trans (ck (show (r:Int).natAbs≤r by omega)) lr
    have les:bE ((e*(b*s):Nat):Int):=Nat.le_trans (ck (show ((e*(b*s):Nat):Int).natAbs≤r by omega)) lr
    have hmu:=fh (e:Int) ((b*s:Nat):Int) le0 lbs
    rw [← Int.natCast_mul] at hmu
    have hsu:=pu (r:Int) ((e*(b*s):Nat):Int) lrs les
    rw [← Int.ofNat_sub e1] at hsu
    have had:=mJ (q:Int) (e:Int) lq0 le0
    rw [← Int.natCast_add] at had
    refine ae (ae (ai (FH (aj Y) (FH (fV 2 0 1 Y Y Y Y Y) (FH (aj Y) (FH (fV 1 0 1 Y Y Y Y Y) ?_))))))
    refine FH (sF (by assumption) (am (hle) Y ⟨S,S,FM⟩)) ?_
    refine FH (dk Y) (FL (aa (aD Y (aw (aa (au (ae (ai (FH (aj Y) ?_)))))))))
    refine FH (fV 2 0 1 Y Y Y Y Y) (FH (aj Y) (FH (fV 1 0 1 Y Y Y Y Y) ?_))
    refine FH (am (hes) Y ⟨S,S,FM⟩) ?_
    refine aJ (T:=37) Y (ltN Y) (fun b13 => ?_)
    refine aB 0 Y Y Y Y Y (leN Y) Y (FL (aa (ae (ai (FH (ak 1 Y Y Y) (FH (ak 0 Y Y Y) ?_))))))
    refine FH (am (had) Y ⟨S,S,FM⟩) ?_
    refine aB 1 Y Y Y Y Y (leN Y) Y (FL (aa (be 5 a4 Z U (FH (ak 3 Y Y Y) (FH (ak 0 Y Y Y) (FH (ak 2 Y Y Y) ?_))))))
    refine FH (am (hmu) Y ⟨S,S,FM⟩) ?_
    refine FH (am (hsu) Y ⟨S,S,FM⟩) ?_
    refine FL (aB 3 Y Y Y Y Y (leN Y) Y (FL (aF ?_)))
    refine aK ((q+e,r - e*(b*s))) ((by dsimp only;rw [Nat.add_mul]; omega)) X FD (.drop (.keep FG (.keep FG (.keep FG (.keep FG (.keep FG (.keep FG (.nil))))))))
end Tor
end
section
namespace Tor
open Go Go.RowKit Go.Proofs
def c8 (x:Int):Prop:=(aL x.natAbs).length≤1099511627700
theorem kZ {x:Int} (h:x.natAbs<2^2048):c8 x:=by
 have:(aL x.natAbs).length≤64:=cw (Nat.lt_of_lt_of_le h H)
 unfold c8;omega
theorem c8.small {x:Int} (h:c8 x):bE x:=by unfold c8 at h;unfold Tor.bE;omega
theorem jO {x y:Int} (h:c8 y) (hl:x.natAbs≤y.natAbs):c8 x:=Nat.le_trans (ck hl) h
theorem cW {x y:Int} (h:bE y) (hl:x.natAbs≤y.natAbs):bE x:=Nat.le_trans (ck hl) h
theorem qj (n:Nat):(aL (n+1)).length≤(aL n).length+1:=cw (by
 have h:=dc n
 rw [Nat.pow_succ]
 have h0:0<4294967296^(aL n).length:=Nat.pow_pos U
 generalize 4294967296^(aL n).length=z at *
 omega)
theorem Aa (x y:Int):Nat.gcd y.natAbs (x % y).natAbs=Nat.gcd x.natAbs y.natAbs:=by
 have h:Int.gcd y (x % y)=Int.gcd y x:=by rw [Int.emod_def]; exact Int.gcd_sub_mul_left_right y x (x / y)
 rw [Nat.gcd_comm x.natAbs]; exact h
theorem tP (x:Int) {y:Int} (hy:y≠0):(x % y).natAbs<y.natAbs:=by
 have h1:=Int.emod_nonneg x hy
 have h2:=Int.emod_lt x hy
 omega
attribute [local irreducible] J PJ aM one slT bW bH bj exT cn eP aX aH slV VT.le Ret bP
theorem qT (x:Int):Ok Tryz.prog 48 [qh x.natAbs,one (.bool (decide (x<0)))] (aO x):=by
 have h:=dz (decide (x<0)) x.natAbs
 have e:(if decide (x<0)=true then -(x.natAbs:Int) else (x.natAbs:Int))=x:=by
  by_cases hx:x<0
  ·rw [if_pos (by simpa using hx)]; omega
  ·rw [if_neg (by simpa using hx)]; omega
 rw [e] at h
 exact h
set_option maxRecDepth 20000 in
theorem gv (a b:Int) (hb:b≠0) (ha:c8 a) (hbs:c8 b):Ok Tryz.prog 36 [aO a,aO b] (bj [aO (a / b),aO (a % b),one (.int .i64 0)]):=by
 obtain ⟨g1,g2,g3⟩:=wF (a:=a) hb
 have hB:b.natAbs≠0:=by omega
 have ha':(aL a.natAbs).length≤1099511627700:=ha
 have hb':(aL b.natAbs).length≤1099511627700:=hbs
 have hdiv:=vg a.natAbs b.natAbs hB ha' hb'
 have hlt:=Nat.mod_lt a.natAbs (Nat.pos_of_ne_zero hB)
 have hql:=Nat.div_le_self a.natAbs b.natAbs
 have hma:=qT a
 have hmb:=qT b
 have hsb:dn b≠0:=by unfold dn;rw [if_neg hb]; split <;> decide
 have hmb2:=dz false b.natAbs
 rw [if_neg U] at hmb2
 have hsg:=eo ((a.natAbs % b.natAbs:Nat):Int)
 have hof:=iB 1 U U
 have sq:bE ((a.natAbs / b.natAbs:Nat):Int):=cW ha.small (by rw [Int.natAbs_natCast]; exact hql)
 have s1:bE 1:=d9 H
 have had:=mJ ((a.natAbs / b.natAbs:Nat):Int) 1 sq s1
 have hsu:=pu (b.natAbs:Int) ((a.natAbs % b.natAbs:Nat):Int) (cW hbs.small X) (cW hbs.small (by rw [Int.natAbs_natCast]; exact Nat.le_of_lt hlt))
 have hsu2:=pu b ((a.natAbs % b.natAbs:Nat):Int) hbs.small (cW hbs.small (by rw [Int.natAbs_natCast]; exact Nat.le_of_lt hlt))
 have hn1:=jy ((a.natAbs / b.natAbs:Nat):Int) sq
 have sq1:bE (((a.natAbs / b.natAbs:Nat):Int)+1):=by
  have h1:=qj (a.natAbs / b.natAbs)
  have h2:=ck hql
  have e:(((a.natAbs / b.natAbs:Nat):Int)+1).natAbs=a.natAbs / b.natAbs+1:=by generalize a.natAbs / b.natAbs=z;omega
  unfold Tor.bE
  rw [e]
  omega
 have hn2:=jy (((a.natAbs / b.natAbs:Nat):Int)+1) sq1
 refine Ok.enter Tryz.func36 Y Tryz.ntmps36 Y (fun w O => ?_)
 by_cases hn:a<0
 ·by_cases hr:a.natAbs % b.natAbs=0
  ·obtain ⟨k1,k2⟩:=g2 hn hr
   have hs0:dn ((a.natAbs % b.natAbs:Nat):Int)=0:=by rw [hr]; rfl
   by_cases hm:b<0
   ·rw [if_pos hm] at k1
    refine ae (ai ?_)
    refine aQ Y Y (ltN Y) (fun b2 => ?_)
    refine aQ Y Y (ltN Y) (fun b3 => ?_)
    refine aJ (T:=37) Y (ltN Y) (fun b4 => ?_)
    refine aJ (T:=37) Y (ltN Y) (fun b5 => ?_)
    refine FJ Y (FL (aa (ae (eX 9 a4 Z U (FH (aj Y) (FH (ak 3 Y Y Y) (FH (aj Y) (FH (sT (by assumption) (ak 3 Y Y Y)) ?_))))))))
    refine FH (am (hma) Y ⟨(cT X),(ar (by rw [decide_eq_true hn])),FM⟩) ?_
    refine FH (aj Y) (FH (ak 2 Y Y Y) (FH (aj Y) (FH (sT (by assumption) (ak 2 Y Y Y)) (FL ?_))))
    refine FH (am (hmb) Y ⟨(cT X),(ar (by rw [decide_eq_true hm])),FM⟩) ?_
    refine a8 3 Y Y Y Y (a8 2 Y Y Y Y (FL (aa (ae (ae (ai (FH (aI 2 Y Y) ?_)))))))
    refine FH (am (eo _) Y ⟨S,FM⟩) ?_
    refine FH (sF (by assumption) (bV Y Y)) (FL (aa (aA Y (aw (aa (ae (ai (FH (aj Y) (FH (ak 3 Y Y Y) ?_)))))))))
    refine FH (aj Y) (FH (ak 2 Y Y Y) ?_)
    refine FH (am (hdiv) Y ⟨S,S,FM⟩) ?_
    refine FI Y (FH (an Y Y) (FH (an Y Y) ?_))
    refine aJ (T:=37) Y (ltN Y) (fun b7 => ?_)
    refine aJ (T:=37) Y (ltN Y) (fun b8 => ?_)
    refine aB 1 Y Y Y Y Y (leN Y) Y (aB 0 Y Y Y Y Y (leN Y) Y (FL (aa (ae (ae (ai (FH (aj Y) (FH (sT (by assumption) (ak 5 Y Y Y)) (FI Y ?_)))))))))
    refine FK (ak 0 Y Y Y) ?_
    refine FK (am (hsg) Y ⟨S,FM⟩) ?_
    refine FK (sF X (cU Y Y)) (FH (a5 Y Y) (FL (aa (aA Y (aw (aa (ae (ae (ai ?_)))))))))
    refine FH (aj Y) (FH (sT (by assumption) (ak 5 Y Y Y)) (FH (aj Y) (FH (sT (by assumption) (ak 4 Y Y Y)) (FH (kn Y Y) (FL (aa (aA Y (aw (aa ?_)))))))))
    refine ae ?_
    refine kR [⟨5,b5,37,Lay.agg 2⟩,⟨4,b4,37,Lay.agg 2⟩] [_,_] [_,_,_,_] a4 Z Y ((db 2 Y).trans (.cons _ ((db 2 Y).trans (.cons _ (List.Perm.refl _))))) Y (And.intro Y (And.intro Y (trivial))) ?_
    refine ux (fun B=>ak 1 Y Y Y) Y Y ?_
    refine ux (fun B=>ak 0 Y Y Y) Y Y ?_
    refine us Y (us Y ?_)
    refine ux (fun B=>ah Y) Y Y ?_
    refine RunU.nil ⟨And.intro Y (And.intro Y (And.intro Y (And.intro Y (trivial)))),?_⟩
    refine cR (M' := [_,_,_,_,_,_]) Y (aa (aG ?_))
    refine f9 Tryz.results36 (.cellB 1 Y Y Y (cp (by rw [k1]))) (.cellB 0 Y Y Y (cp (by rw [k2,hr]; rfl))) (.tmp Y S)
   ·rw [if_neg hm] at k1
    refine ae (ai ?_)
    refine aQ Y Y (ltN Y) (fun b2 => ?_)
    refine aQ Y Y (ltN Y) (fun b3 => ?_)
    refine aJ (T:=37) Y (ltN Y) (fun b4 => ?_)
    refine aJ (T:=37) Y (ltN Y) (fun b5 => ?_)
    refine FJ Y (FL (aa (ae (eX 9 a4 Z U (FH (aj Y) (FH (ak 3 Y Y Y) (FH (aj Y) (FH (sT (by assumption) (ak 3 Y Y Y)) ?_))))))))
    refine FH (am (hma) Y ⟨(cT X),(ar (by rw [decide_eq_true hn])),FM⟩) ?_
    refine FH (aj Y) (FH (ak 2 Y Y Y) (FH (aj Y) (FH (sF (by assumption) (ak 2 Y Y Y)) (FL ?_))))
    refine FH (am (hmb) Y ⟨(cT X),(ar (by rw [decide_eq_false hm])),FM⟩) ?_
    refine a8 3 Y Y Y Y (a8 2 Y Y Y Y (FL (aa (ae (ae (ai (FH (aI 2 Y Y) ?_)))))))
    refine FH (am (eo _) Y ⟨S,FM⟩) ?_
    refine FH (sF (by assumption) (bV Y Y)) (FL (aa (aA Y (aw (aa (ae (ai (FH (aj Y) (FH (ak 3 Y Y Y) ?_)))))))))
    refine FH (aj Y) (FH (ak 2 Y Y Y) ?_)
    refine FH (am (hdiv) Y ⟨S,S,FM⟩) ?_
    refine FI Y (FH (an Y Y) (FH (an Y Y) ?_))
    refine aJ (T:=37) Y (ltN Y) (fun b7 => ?_)
    refine aJ (T:=37) Y (ltN Y) (fun b8 => ?_)
    refine aB 1 Y Y Y Y Y (leN Y) Y (aB 0 Y Y Y Y Y (leN Y) Y (FL (aa (ae (ae (ai (FH (aj Y) (FH (sT (by assumption) (ak 5 Y Y Y)) (FI Y ?_)))))))))
    refine FK (ak 0 Y Y Y) ?_
    refine FK (am (hsg) Y ⟨S,FM⟩) ?_
    refine FK (sF X (cU Y Y)) (FH (a5 Y Y) (FL (aa (aA Y (aw (aa (ae (ae (ai ?_)))))))))
    refine FH (aj Y) (FH (sT (by assumption) (ak 5 Y Y Y)) (FH (aj Y) (FH (sF (by assumption) (ak 4 Y Y Y)) (FH (kn Y Y) (FL (aa (aD Y (ai (FH (ak 1 Y Y Y) ?_)))))))))
    refine FH (am (hn1) Y ⟨S,FM⟩) ?_
    refine aB 1 Y Y Y Y Y (leN Y) Y (FL (aa (ae ?_)))
    refine kR [⟨5,b5,37,Lay.agg 2⟩,⟨4,b4,37,Lay.agg 2⟩] [_,_] [_,_,_,_] a4 Z Y ((db 2 Y).trans (.cons _ ((db 2 Y).trans (.cons _ (List.Perm.refl _))))) Y (And.intro Y (And.intro Y (trivial))) ?_
    refine ux (fun B=>ak 1 Y Y Y) Y Y ?_
    refine ux (fun B=>ak 0 Y Y Y) Y Y ?_
    refine us Y (us Y ?_)
    refine ux (fun B=>ah Y) Y Y ?_
    refine RunU.nil ⟨And.intro Y (And.intro Y (And.intro Y (And.intro Y (trivial)))),?_⟩
    refine cR (M' := [_,_,_,_,_,_]) Y (aa (aG ?_))
    refine f9 Tryz.results36 (.cellB 1 Y Y Y (cp (by rw [k1]))) (.cellB 0 Y Y Y (cp (by rw [k2,hr]; rfl))) (.tmp Y S)
  ·obtain ⟨k1,k2⟩:=g3 hn hr
   have hs0:dn ((a.natAbs % b.natAbs:Nat):Int)=1:=by unfold dn;rw [if_neg X,if_neg X]
   by_cases hm:b<0
   ·rw [if_pos hm] at k1
    refine ae (ai ?_)
    refine aQ Y Y (ltN Y) (fun b2 => ?_)
    refine aQ Y Y (ltN Y) (fun b3 => ?_)
    refine aJ (T:=37) Y (ltN Y) (fun b4 => ?_)
    refine aJ (T:=37) Y (ltN Y) (fun b5 => ?_)
    refine FJ Y (FL (aa (ae (eX 9 a4 Z U (FH (aj Y) (FH (ak 3 Y Y Y) (FH (aj Y) (FH (sT (by assumption) (ak 3 Y Y Y)) ?_))))))))
    refine FH (am (hma) Y ⟨(cT X),(ar (by rw [decide_eq_true hn])),FM⟩) ?_
    refine FH (aj Y) (FH (ak 2 Y Y Y) (FH (aj Y) (FH (sT (by assumption) (ak 2 Y Y Y)) (FL ?_))))
    refine FH (am (hmb) Y ⟨(cT X),(ar (by rw [decide_eq_true hm])),FM⟩) ?_
    refine a8 3 Y Y Y Y (a8 2 Y Y Y Y (FL (aa (ae (ae (ai (FH (aI 2 Y Y) ?_)))))))
    refine FH (am (eo _) Y ⟨S,FM⟩) ?_
    refine FH (sF (by assumption) (bV Y Y)) (FL (aa (aA Y (aw (aa (ae (ai (FH (aj Y) (FH (ak 3 Y Y Y) ?_)))))))))
    refine FH (aj Y) (FH (ak 2 Y Y Y) ?_)
    refine FH (am (hdiv) Y ⟨S,S,FM⟩) ?_
    refine FI Y (FH (an Y Y) (FH (an Y Y) ?_))
    refine aJ (T:=37) Y (ltN Y) (fun b7 => ?_)
    refine aJ (T:=37) Y (ltN Y) (fun b8 => ?_)
    refine aB 1 Y Y Y Y Y (leN Y) Y (aB 0 Y Y Y Y Y (leN Y) Y (FL (aa (ae (ae (ai (FH (aj Y) (FH (sT (by assumption) (ak 5 Y Y Y)) (FI Y ?_)))))))))
    refine FK (ak 0 Y Y Y) ?_
    refine FK (am (hsg) Y ⟨S,FM⟩) ?_
    refine FK (sT X (cU Y Y)) (FH (a5 Y Y) (FL (aa (aD Y (ae (be 2 a4 Z U (FH (ak 1 Y Y Y) ?_)))))))
    refine FH (am (hof) Y ⟨S,FM⟩) ?_
    refine FL ?_
    refine FH (am (had) Y ⟨S,S,FM⟩) ?_
    refine aB 1 Y Y Y Y Y (leN Y) Y (FL (aa (be 5 a4 Z U (FH (aj Y) (FH (ak 4 Y Y Y) ?_)))))
    refine FH (am (hmb2) Y ⟨(cT X),S,FM⟩) ?_
    refine FH (ak 0 Y Y Y) ?_
    refine FH (am (hsu) Y ⟨S,S,FM⟩) ?_
    refine FL (aB 0 Y Y Y Y Y (leN Y) Y (FL (aa (ae (ae (ai (FH (aj Y) (FH (sT (by assumption) (ak 5 Y Y Y)) (FH (aj Y) ?_)))))))))
    refine FH (sT (by assumption) (ak 4 Y Y Y)) (FH (kn Y Y) (FL (aa (aA Y (aw (aa (ae ?_)))))))
    refine kR [⟨5,b5,37,Lay.agg 2⟩,⟨4,b4,37,Lay.agg 2⟩] [_,_] [_,_,_,_] a4 Z Y ((db 2 Y).trans (.cons _ ((db 2 Y).trans (.cons _ (List.Perm.refl _))))) Y (And.intro Y (And.intro Y (trivial))) ?_
    refine ux (fun B=>ak 1 Y Y Y) Y Y ?_
    refine ux (fun B=>ak 0 Y Y Y) Y Y ?_
    refine us Y (us Y ?_)
    refine ux (fun B=>ah Y) Y Y ?_
    refine RunU.nil ⟨And.intro Y (And.intro Y (And.intro Y (And.intro Y (trivial)))),?_⟩
    refine cR (M' := [_,_,_,_,_,_]) Y (aa (aG ?_))
    refine f9 Tryz.results36 (.cellB 1 Y Y Y (cp (by rw [k1,Int.natCast_add]; rfl))) (.cellB 0 Y Y Y (cp (by rw [k2,Int.ofNat_sub (Nat.le_of_lt hlt)]))) (.tmp Y S)
   ·rw [if_neg hm] at k1
    refine ae (ai ?_)
    refine aQ Y Y (ltN Y) (fun b2 => ?_)
    refine aQ Y Y (ltN Y) (fun b3 => ?_)
    refine aJ (T:=37) Y (ltN Y) (fun b4 => ?_)
    refine aJ (T:=37) Y (ltN Y) (fun b5 => ?_)
    refine FJ Y (FL (aa (ae (eX 9 a4 Z U (FH (aj Y) (FH (ak 3 Y Y Y) (FH (aj Y) (FH (sT (by assumption) (ak 3 Y Y Y)) ?_))))))))
    refine FH (am (hma) Y ⟨(cT X),(ar (by rw [decide_eq_true hn])),FM⟩) ?_
    refine FH (aj Y) (FH (ak 2 Y Y Y) (FH (aj Y) (FH (sF (by assumption) (ak 2 Y Y Y)) (FL ?_))))
    refine FH (am (hmb) Y ⟨(cT X),(ar (by rw [decide_eq_false hm])),FM⟩) ?_
    refine a8 3 Y Y Y Y (a8 2 Y Y Y Y (FL (aa (ae (ae (ai (FH (aI 2 Y Y) ?_)))))))
    refine FH (am (eo _) Y ⟨S,FM⟩) ?_
    refine FH (sF (by assumption) (bV Y Y)) (FL (aa (aA Y (aw (aa (ae (ai (FH (aj Y) (FH (ak 3 Y Y Y) ?_)))))))))
    refine FH (aj Y) (FH (ak 2 Y Y Y) ?_)
    refine FH (am (hdiv) Y ⟨S,S,FM⟩) ?_
    refine FI Y (FH (an Y Y) (FH (an Y Y) ?_))
    refine aJ (T:=37) Y (ltN Y) (fun b7 => ?_)
    refine aJ (T:=37) Y (ltN Y) (fun b8 => ?_)
    refine aB 1 Y Y Y Y Y (leN Y) Y (aB 0 Y Y Y Y Y (leN Y) Y (FL (aa (ae (ae (ai (FH (aj Y) (FH (sT (by assumption) (ak 5 Y Y Y)) (FI Y ?_)))))))))
    refine FK (ak 0 Y Y Y) ?_
    refine FK (am (hsg) Y ⟨S,FM⟩) ?_
    refine FK (sT X (cU Y Y)) (FH (a5 Y Y) (FL (aa (aD Y (ae (be 2 a4 Z U (FH (ak 1 Y Y Y) ?_)))))))
    refine FH (am (hof) Y ⟨S,FM⟩) ?_
    refine FL ?_
    refine FH (am (had) Y ⟨S,S,FM⟩) ?_
    refine aB 1 Y Y Y Y Y (leN Y) Y (FL (aa (be 5 a4 Z U (FH (aj Y) (FH (ak 4 Y Y Y) ?_)))))
    refine FH (am (hmb) Y ⟨(cT X),(ar (by rw [decide_eq_false hm])),FM⟩) ?_
    refine FH (ak 0 Y Y Y) ?_
    refine FH (am (hsu2) Y ⟨S,S,FM⟩) ?_
    refine FL (aB 0 Y Y Y Y Y (leN Y) Y (FL (aa (ae (ae (ai (FH (aj Y) (FH (sT (by assumption) (ak 5 Y Y Y)) (FH (aj Y) ?_)))))))))
    refine FH (sF (by assumption) (ak 4 Y Y Y)) (FH (kn Y Y) (FL (aa (aD Y (ai (FH (ak 1 Y Y Y) ?_))))))
    refine FH (am (hn2) Y ⟨S,FM⟩) ?_
    refine aB 1 Y Y Y Y Y (leN Y) Y (FL (aa (ae ?_)))
    refine kR [⟨5,b5,37,Lay.agg 2⟩,⟨4,b4,37,Lay.agg 2⟩] [_,_] [_,_,_,_] a4 Z Y ((db 2 Y).trans (.cons _ ((db 2 Y).trans (.cons _ (List.Perm.refl _))))) Y (And.intro Y (And.intro Y (trivial))) ?_
    refine ux (fun B=>ak 1 Y Y Y) Y Y ?_
    refine ux (fun B=>ak 0 Y Y Y) Y Y ?_
    refine us Y (us Y ?_)
    refine ux (fun B=>ah Y) Y Y ?_
    refine RunU.nil ⟨And.intro Y (And.intro Y (And.intro Y (And.intro Y (trivial)))),?_⟩
    refine cR (M' := [_,_,_,_,_,_]) Y (aa (aG ?_))
    refine f9 Tryz.results36 (.cellB 1 Y Y Y (cp (by rw [k1,Int.natCast_add]; rfl))) (.cellB 0 Y Y Y (cp (by rw [k2,Int.ofNat_sub (Nat.le_of_lt hlt),Int.natAbs_of_nonneg (show 0≤b by omega)]))) (.tmp Y S)
 ·obtain ⟨k1,k2⟩:=g1 X
  by_cases hm:b<0
  ·rw [if_pos hm] at k1
   refine ae (ai ?_)
   refine aQ Y Y (ltN Y) (fun b2 => ?_)
   refine aQ Y Y (ltN Y) (fun b3 => ?_)
   refine aJ (T:=37) Y (ltN Y) (fun b4 => ?_)
   refine aJ (T:=37) Y (ltN Y) (fun b5 => ?_)
   refine FJ Y (FL (aa (ae (eX 9 a4 Z U (FH (aj Y) (FH (ak 3 Y Y Y) (FH (aj Y) (FH (sF (by assumption) (ak 3 Y Y Y)) ?_))))))))
   refine FH (am (hma) Y ⟨(cT X),(ar (by rw [decide_eq_false hn])),FM⟩) ?_
   refine FH (aj Y) (FH (ak 2 Y Y Y) (FH (aj Y) (FH (sT (by assumption) (ak 2 Y Y Y)) (FL ?_))))
   refine FH (am (hmb) Y ⟨(cT X),(ar (by rw [decide_eq_true hm])),FM⟩) ?_
   refine a8 3 Y Y Y Y (a8 2 Y Y Y Y (FL (aa (ae (ae (ai (FH (aI 2 Y Y) ?_)))))))
   refine FH (am (eo _) Y ⟨S,FM⟩) ?_
   refine FH (sF (by assumption) (bV Y Y)) (FL (aa (aA Y (aw (aa (ae (ai (FH (aj Y) (FH (ak 3 Y Y Y) ?_)))))))))
   refine FH (aj Y) (FH (ak 2 Y Y Y) ?_)
   refine FH (am (hdiv) Y ⟨S,S,FM⟩) ?_
   refine FI Y (FH (an Y Y) (FH (an Y Y) ?_))
   refine aJ (T:=37) Y (ltN Y) (fun b7 => ?_)
   refine aJ (T:=37) Y (ltN Y) (fun b8 => ?_)
   refine aB 1 Y Y Y Y Y (leN Y) Y (aB 0 Y Y Y Y Y (leN Y) Y (FL (aa (ae (ae (ai (FH (aj Y) (FH (sF (by assumption) (ak 5 Y Y Y)) (FI Y ?_)))))))))
   refine sg0 Y Y Y Y (sg0 Y Y Y Y (sg0 Y Y Y Y (FH (bG Y Y) (FL (aa (aA Y (aw (aa (ae ?_)))))))))
   refine ae (ai (FH (aj Y) (FH (sF (by assumption) (ak 5 Y Y Y)) (FH (aj Y) (FH (sT (by assumption) (ak 4 Y Y Y)) (FH (kn Y Y) (FL (aa (aD Y ?_)))))))))
   refine ai (FH (ak 1 Y Y Y) ?_)
   refine FH (am (hn1) Y ⟨S,FM⟩) ?_
   refine aB 1 Y Y Y Y Y (leN Y) Y (FL (aa (ae ?_)))
   refine kR [⟨5,b5,37,Lay.agg 2⟩,⟨4,b4,37,Lay.agg 2⟩] [_,_] [_,_,_,_] a4 Z Y ((db 2 Y).trans (.cons _ ((db 2 Y).trans (.cons _ (List.Perm.refl _))))) Y (And.intro Y (And.intro Y (trivial))) ?_
   refine ux (fun B=>ak 1 Y Y Y) Y Y ?_
   refine ux (fun B=>ak 0 Y Y Y) Y Y ?_
   refine us Y (us Y ?_)
   refine ux (fun B=>ah Y) Y Y ?_
   refine RunU.nil ⟨And.intro Y (And.intro Y (And.intro Y (And.intro Y (trivial)))),?_⟩
   refine cR (M' := [_,_,_,_,_,_]) Y (aa (aG ?_))
   refine f9 Tryz.results36 (.cellB 1 Y Y Y (cp (by rw [k1]))) (.cellB 0 Y Y Y (cp (by rw [k2]))) (.tmp Y S)
  ·rw [if_neg hm] at k1
   refine ae (ai ?_)
   refine aQ Y Y (ltN Y) (fun b2 => ?_)
   refine aQ Y Y (ltN Y) (fun b3 => ?_)
   refine aJ (T:=37) Y (ltN Y) (fun b4 => ?_)
   refine aJ (T:=37) Y (ltN Y) (fun b5 => ?_)
   refine FJ Y (FL (aa (ae (eX 9 a4 Z U (FH (aj Y) (FH (ak 3 Y Y Y) (FH (aj Y) (FH (sF (by assumption) (ak 3 Y Y Y)) ?_))))))))
   refine FH (am (hma) Y ⟨(cT X),(ar (by rw [decide_eq_false hn])),FM⟩) ?_
   refine FH (aj Y) (FH (ak 2 Y Y Y) (FH (aj Y) (FH (sF (by assumption) (ak 2 Y Y Y)) (FL ?_))))
   refine FH (am (hmb) Y ⟨(cT X),(ar (by rw [decide_eq_false hm])),FM⟩) ?_
   refine a8 3 Y Y Y Y (a8 2 Y Y Y Y (FL (aa (ae (ae (ai (FH (aI 2 Y Y) ?_)))))))
   refine FH (am (eo _) Y ⟨S,FM⟩) ?_
   refine FH (sF (by assumption) (bV Y Y)) (FL (aa (aA Y (aw (aa (ae (ai (FH (aj Y) (FH (ak 3 Y Y Y) ?_)))))))))
   refine FH (aj Y) (FH (ak 2 Y Y Y) ?_)
   refine FH (am (hdiv) Y ⟨S,S,FM⟩) ?_
   refine FI Y (FH (an Y Y) (FH (an Y Y) ?_))
   refine aJ (T:=37) Y (ltN Y) (fun b7 => ?_)
   refine aJ (T:=37) Y (ltN Y) (fun b8 => ?_)
   refine aB 1 Y Y Y Y Y (leN Y) Y (aB 0 Y Y Y Y Y (leN Y) Y (FL (aa (ae (ae (ai (FH (aj Y) (FH (sF (by assumption) (ak 5 Y Y Y)) (FI Y ?_)))))))))
   refine sg0 Y Y Y Y (sg0 Y Y Y Y (sg0 Y Y Y Y (FH (bG Y Y) (FL (aa (aA Y (aw (aa (ae ?_)))))))))
   refine ae (ai (FH (aj Y) (FH (sF (by assumption) (ak 5 Y Y Y)) (FH (aj Y) (FH (sF (by assumption) (ak 4 Y Y Y)) (FH (kn Y Y) (FL (aa (aA Y ?_)))))))))
   refine aw (aa (ae ?_))
   refine kR [⟨5,b5,37,Lay.agg 2⟩,⟨4,b4,37,Lay.agg 2⟩] [_,_] [_,_,_,_] a4 Z Y ((db 2 Y).trans (.cons _ ((db 2 Y).trans (.cons _ (List.Perm.refl _))))) Y (And.intro Y (And.intro Y (trivial))) ?_
   refine ux (fun B=>ak 1 Y Y Y) Y Y ?_
   refine ux (fun B=>ak 0 Y Y Y) Y Y ?_
   refine us Y (us Y ?_)
   refine ux (fun B=>ah Y) Y Y ?_
   refine RunU.nil ⟨And.intro Y (And.intro Y (And.intro Y (And.intro Y (trivial)))),?_⟩
   refine cR (M' := [_,_,_,_,_,_]) Y (aa (aG ?_))
   refine f9 Tryz.results36 (.cellB 1 Y Y Y (cp (by rw [k1]))) (.cellB 0 Y Y Y (cp (by rw [k2]))) (.tmp Y S)
theorem wL (a b:Int) (ha:c8 a) (hb:c8 b):Ok Tryz.prog 117 [aO a,aO b] (aO (Nat.gcd a.natAbs b.natAbs)):=by
 refine Ok.enter Tryz.func117 Y Tryz.ntmps117 Y (fun w O => ?_)
 refine ae (ai ?_)
 refine aQ Y Y (ltN Y) (fun b2 => ?_)
 refine aQ Y Y (ltN Y) (fun b3 => ?_)
 refine aJ (T:=37) Y (ltN Y) (fun b4 => ?_)
 refine FL (aa (ae (au (cf (Γ' := [(2,_),(3,_),(4,_)]) FC (SubM.refl _) ?_))))
 refine bk (σ:=Int × Int) (Γk := [(2,_),(3,_),(4,_)]) FC (fun p => []) (fun p M0=>((M0.set 1 (aX b3 37 (Lay.agg 2).sz [(0,Lay.agg 2,aO p.2)])).set 2 (aX b2 37 (Lay.agg 2).sz [(0,Lay.agg 2,aO p.1)]))) (fun p=>Nat.gcd p.1.natAbs p.2.natAbs=Nat.gcd a.natAbs b.natAbs∧c8 p.1∧c8 p.2) (fun p=>p.2.natAbs) ((a,b)) (⟨rfl,ha,hb⟩) FD (.keep FG (.keep (r9 S) (.keep (r9 S) (.nil)))) (fun p hp => ?_)
 refine bI (Γ' := [(2,_),(3,_),(4,_)]) (M' := [_,_,_]) Y Y ?_
 obtain ⟨x,y⟩:=p
 dsimp only at hp ⊢
 obtain ⟨p1,p2,p3⟩:=hp
 have hsg:=eo y
 by_cases hy:y=0
 ·have hs0:dn y=0:=by rw [hy]; rfl
  rw [hy] at p1
  rw [← p1,Int.natAbs_zero,Nat.gcd_zero_right]
  have hx:(aL x.natAbs).length≤1099511627700:=p2
  have hm:=dz false x.natAbs
  rw [if_neg U] at hm
  refine ae (ae (ai (FH (ak 1 Y Y Y) ?_)))
  refine FH (am (hsg) Y ⟨S,FM⟩) ?_
  refine FH (sF X (dj Y Y)) (FL (aa (aA Y (aV (av (av (aE (aa (ae ?_)))))))))
  refine ai (FH (aj Y) (FH (fV 2 0 1 Y Y Y Y Y) ?_))
  refine FH (am (hm) Y ⟨(cT X),S,FM⟩) ?_
  refine aB 0 Y Y Y Y Y (leN Y) Y (FL (aa (aG ?_)))
  refine aT Tryz.results117 (.cellB 0 Y Y Y S)
 ·have hs0:dn y≠0:=by unfold dn;rw [if_neg hy]; split <;> decide
  have hdm:=gv x y hy p2 p3
  have hlt:=tP x hy
  refine ae (ae (ai (FH (ak 1 Y Y Y) ?_)))
  refine FH (am (hsg) Y ⟨S,FM⟩) ?_
  refine FH (sT (by assumption) (dj Y Y)) (FL (aa (aD Y (aw (aa (au (ae (ai (FH (ak 2 Y Y Y) ?_)))))))))
  refine FH (ak 1 Y Y Y) ?_
  refine FH (am (hdm) Y ⟨S,S,FM⟩) ?_
  refine FI Y (FH (an Y Y) (FH (an Y Y) (FH (an Y Y) ?_)))
  refine aJ (T:=37) Y (ltN Y) (fun b5 => ?_)
  refine aJ (T:=37) Y (ltN Y) (fun b6 => ?_)
  refine aB 1 Y Y Y Y Y (leN Y) Y (aB 0 Y Y Y Y Y (leN Y) Y (FJ Y (FL (aa ?_))))
  refine BQ [⟨⟨3,b3,37,Lay.agg 2⟩,_⟩,⟨⟨2,b2,37,Lay.agg 2⟩,_⟩] [_,_,_] a4 Z ((db 3 Y).trans (.cons _ ((db 3 Y).trans (.cons _ (List.Perm.refl _))))) Y (And.intro Y (And.intro Y (trivial))) ?_
  refine wl 0 Y Z (fun B=>ak 0 Y Y Y) Y ?_
  refine wx (fun B=>ak 0 Y Y Y) Y ?_
  refine ws Y (ws Y ?_)
  refine RunY.nil ⟨And.intro Y (And.intro Y (And.intro Y (And.intro Y (trivial)))),?_⟩
  refine cR (M' := [_,_,_,_,_]) Y (aF (oo ((db 4 Y).trans (.cons _ ((db 0 Y).trans (.cons _ ((db 0 Y).trans (.cons _ (List.Perm.refl _))))))) ?_))
  refine aK ((y,x % y)) (⟨by rw [← p1]; exact Aa x y,p3,jO p3 (Nat.le_of_lt hlt)⟩) (by assumption) FD (.keep FG (.keep FG (.keep FG (SubM.nilR _))))
end Tor
end
section
namespace Tor
open Go Go.RowKit Go.Proofs
attribute [local irreducible] J PJ aM one slT bW bH bj exT cn eP aX aH slV VT.le Ret bP
theorem wM (n d:Int) (hd:d≠0) (hn:c8 n) (hds:c8 d):Ok Tryz.prog 118 [aO n,aO d] (bj [cj (Rat.divInt n d),one (.int .i64 0)]):=by
 have hsi:=eo d
 have hn1:=jy n hn.small
 have hd1:=jy d hds.small
 have e1:c8 (-n):=jO hn X
 have e2:c8 (-d):=jO hds X
 have g0:=ve (n:=n) hd
 have g1:c8 ((Nat.gcd n.natAbs d.natAbs:Nat):Int):=jO hds (by rw [Int.natAbs_natCast]; exact Nat.le_of_dvd X (Nat.gcd_dvd_right _ _))
 unfold cj dN
 refine Ok.enter Tryz.func118 Y Tryz.ntmps118 Y (fun w O => ?_)
 by_cases h:d<0
 ·obtain ⟨l1,l2⟩:=wK (n:=n) h
  have hs:dn d = -1:=by unfold dn;rw [if_neg hd,if_pos h]
  have hg:=wL (-n) (-d) e1 e2
  rw [Int.natAbs_neg,Int.natAbs_neg] at hg
  have hm1:=gv (-n) _ g0 e1 g1
  have hm2:=gv (-d) _ g0 e2 g1
  have d1:((Nat.gcd n.natAbs d.natAbs:Nat):Int)∣n:=Int.gcd_dvd_left ..
  have d2:((Nat.gcd n.natAbs d.natAbs:Nat):Int)∣d:=Int.gcd_dvd_right ..
  rw [Int.ediv_neg, ← Int.neg_ediv_of_dvd d1] at l1
  rw [Int.ediv_neg, ← Int.neg_ediv_of_dvd d2] at l2
  refine ae (ai ?_)
  refine aQ Y Y (ltN Y) (fun b2 => ?_)
  refine aQ Y Y (ltN Y) (fun b3 => ?_)
  refine bF (T:=58) Y Y Y (fun b4 => ?_)
  refine FJ Y (FL (aa (ae (ae (ai (FH (aI 1 Y Y) ?_))))))
  refine FH (am (hsi) Y ⟨S,FM⟩) ?_
  refine FH (sF X (bV Y Y)) (FL (aa (aA Y (aw (aa (ae (ae (ai (FH (aI 1 Y Y) ?_)))))))))
  refine FH (am (hsi) Y ⟨S,FM⟩) ?_
  refine FH (sT X (a6 Y Y)) (FL (aa (aD Y (eX 3 a4 Z U (FH (aI 2 Y Y) ?_)))))
  refine FH (am (hn1) Y ⟨S,FM⟩) ?_
  refine FH (aI 1 Y Y) (FL ?_)
  refine FH (am (hd1) Y ⟨S,FM⟩) ?_
  refine a8 2 Y Y Y Y (a8 1 Y Y Y Y (FL (aa (ae (ai (FH (aI 2 Y Y) (FH (aI 1 Y Y) ?_)))))))
  refine FH (am (hg) Y ⟨S,S,FM⟩) ?_
  refine aJ (T:=37) Y (ltN Y) (fun b6 => ?_)
  refine aB 0 Y Y Y Y Y (leN Y) Y (FL (aa (ae (ai (FH (aI 3 Y Y) (FH (ak 0 Y Y Y) ?_))))))
  refine FH (am (hm1) Y ⟨S,S,FM⟩) ?_
  refine FI Y (FH (an Y Y) (FH (an Y Y) (FH (an Y Y) ?_)))
  refine aJ (T:=37) Y (ltN Y) (fun b7 => ?_)
  refine aJ (T:=37) Y (ltN Y) (fun b8 => ?_)
  refine aB 1 Y Y Y Y Y (leN Y) Y (aB 0 Y Y Y Y Y (leN Y) Y (FJ Y (FL (aa (ae (ai (FH (aI 4 Y Y) (FH (ak 2 Y Y Y) ?_))))))))
  refine FH (am (hm2) Y ⟨S,S,FM⟩) ?_
  refine FI Y (FH (an Y Y) (FH (an Y Y) (FH (an Y Y) ?_)))
  refine aJ (T:=37) Y (ltN Y) (fun b10 => ?_)
  refine aJ (T:=37) Y (ltN Y) (fun b11 => ?_)
  refine aB 1 Y Y Y Y Y (leN Y) Y (aB 0 Y Y Y Y Y (leN Y) Y (FJ Y (FL (aa (ae (ai (FH (ak 3 Y Y Y) (FH (ak 1 Y Y Y) (stB Y Y Y ?_)))))))))
  refine BuildK.cons Y Y Y (BuildK.cons Y Y Y (BuildK.nil (a8 5 Y Y Y Y (FJ Y (FL (aa (aG ?_)))))))
  refine c9 Tryz.results118 (.cellW 5 Y Y (jz l1 l2)) (.tmp Y S)
 ·obtain ⟨l1,l2⟩:=r8 (n:=n) (show 0<d by omega)
  have hs:dn d=1:=by unfold dn;rw [if_neg hd,if_neg h]
  have hg:=wL n d hn hds
  have hm1:=gv n _ g0 hn g1
  have hm2:=gv d _ g0 hds g1
  refine ae (ai ?_)
  refine aQ Y Y (ltN Y) (fun b2 => ?_)
  refine aQ Y Y (ltN Y) (fun b3 => ?_)
  refine bF (T:=58) Y Y Y (fun b4 => ?_)
  refine FJ Y (FL (aa (ae (ae (ai (FH (aI 1 Y Y) ?_))))))
  refine FH (am (hsi) Y ⟨S,FM⟩) ?_
  refine FH (sF X (bV Y Y)) (FL (aa (aA Y (aw (aa (ae (ae (ai (FH (aI 1 Y Y) ?_)))))))))
  refine FH (am (hsi) Y ⟨S,FM⟩) ?_
  refine FH (sF X (a6 Y Y)) (FL (aa (aA Y (aw (aa (ae (ai (FH (aI 2 Y Y) (FH (aI 1 Y Y) ?_)))))))))
  refine FH (am (hg) Y ⟨S,S,FM⟩) ?_
  refine aJ (T:=37) Y (ltN Y) (fun b6 => ?_)
  refine aB 0 Y Y Y Y Y (leN Y) Y (FL (aa (ae (ai (FH (aI 3 Y Y) (FH (ak 0 Y Y Y) ?_))))))
  refine FH (am (hm1) Y ⟨S,S,FM⟩) ?_
  refine FI Y (FH (an Y Y) (FH (an Y Y) (FH (an Y Y) ?_)))
  refine aJ (T:=37) Y (ltN Y) (fun b7 => ?_)
  refine aJ (T:=37) Y (ltN Y) (fun b8 => ?_)
  refine aB 1 Y Y Y Y Y (leN Y) Y (aB 0 Y Y Y Y Y (leN Y) Y (FJ Y (FL (aa (ae (ai (FH (aI 4 Y Y) (FH (ak 2 Y Y Y) ?_))))))))
  refine FH (am (hm2) Y ⟨S,S,FM⟩) ?_
  refine FI Y (FH (an Y Y) (FH (an Y Y) (FH (an Y Y) ?_)))
  refine aJ (T:=37) Y (ltN Y) (fun b10 => ?_)
  refine aJ (T:=37) Y (ltN Y) (fun b11 => ?_)
  refine aB 1 Y Y Y Y Y (leN Y) Y (aB 0 Y Y Y Y Y (leN Y) Y (FJ Y (FL (aa (ae (ai (FH (ak 3 Y Y Y) (FH (ak 1 Y Y Y) (stB Y Y Y ?_)))))))))
  refine BuildK.cons Y Y Y (BuildK.cons Y Y Y (BuildK.nil (a8 5 Y Y Y Y (FJ Y (FL (aa (aG ?_)))))))
  refine c9 Tryz.results118 (.cellW 5 Y Y (jz l1 l2)) (.tmp Y S)
theorem vh (a b c d:Int):Ok Tryz.prog 41 [dN a b,dN c d] (one (.bool (decide (a=c) && decide (b=d)))):=by
 have h1:=pq a c
 have h2:=pq b d
 unfold dN
 refine Ok.enter Tryz.func41 Y Tryz.ntmps41 Y (fun w O => ?_)
 by_cases c1:a=c
 ·rw [decide_eq_true c1] at h1 ⊢
  refine ae (ai ?_)
  refine aQ Y Y (ltN Y) (fun b2 => ?_)
  refine aQ Y Y (ltN Y) (fun b3 => ?_)
  refine FJ Y (FL (aa (ae (ai (FH (aj Y) (FH (ak 1 Y Y Y) (FH (aj Y) (FH (ak 0 Y Y Y) ?_))))))))
  refine FH (am (h1) Y ⟨S,S,FM⟩) ?_
  refine FI Y (FK (aj Y) (FK (ak 1 Y Y Y) (FK (aj Y) (FK (ak 0 Y Y Y) ?_))))
  refine FK (am (h2) Y ⟨S,S,FM⟩) ?_
  refine FH (a5 Y Y) (FJ Y (FL (aa (aG ?_))))
  refine aT Tryz.results41 (.tmp Y S)
 ·rw [decide_eq_false c1] at h1 ⊢
  refine ae (ai ?_)
  refine aQ Y Y (ltN Y) (fun b2 => ?_)
  refine aQ Y Y (ltN Y) (fun b3 => ?_)
  refine FJ Y (FL (aa (ae (ai (FH (aj Y) (FH (ak 1 Y Y Y) (FH (aj Y) (FH (ak 0 Y Y Y) ?_))))))))
  refine FH (am (h1) Y ⟨S,S,FM⟩) ?_
  refine FI Y (sg0 Y Y Y Y (sg0 Y Y Y Y (sg0 Y Y Y Y (sg0 Y Y Y Y (sg0 Y Y Y Y (FH (bG Y Y) (FJ Y (FL (aa ?_)))))))))
  refine aG ?_
  refine aT Tryz.results41 (.tmp Y S)
theorem x4 (q r:Rat):Ok Tryz.prog 41 [cj q,cj r] (one (.bool (decide (q=r)))):=by
 have h:=vh q.num q.den r.num r.den
 have e:(decide (q.num=r.num) && decide ((q.den:Int)=(r.den:Int)))=decide (q=r):=by
  rw [← Bool.decide_and]
  exact decide_eq_decide.2 ⟨fun ⟨h1,h2⟩=>Rat.ext h1 X,fun h=>by rw [h]; exact ⟨rfl,rfl⟩⟩
 rw [e] at h
 exact h
end Tor
end
section
namespace Tor
def qU (n:Nat):Prop := ∀ d,2≤d→d*d≤n→n % d≠0
def iM (p:Nat→Bool):Nat→Nat
 | 0 => 0
 | m + 1 => if p m then m else iM p m
noncomputable def ep (m:Nat):Bool := @decide (2≤m∧m<2147483648∧qU m) (Classical.propDecidable _)
theorem vj {m:Nat} : ep m=true↔2≤m∧m<2147483648∧qU m := @decide_eq_true_iff _ (Classical.propDecidable _)
abbrev bf (p:Nat→Bool) (n:Nat):Nat:=iM p (min n 2147483648)
end Tor
end
section
namespace Tor
open Go Go.RowKit Go.Proofs
attribute [local irreducible] J PJ aM one slT bW bH bj exT cn eP aX aH slV VT.le Ret bP
theorem Ab {l:List Nat} {c:Nat} (h:c<l.length):lv (l.drop c)=lv (l.drop (c+1))*4294967296+l.getD c 0:=by
 rw [fE h,lv]; omega
theorem x5 (n:Nat) (hn:n<9223372036854775808):Ok Tryz.prog 150 [aO (n:Int)] (bj [one (.int .i64 (n:Int)),one (.bool true)]):=by
 have hl2:(aL n).length≤2:=cw (Nat.lt_trans hn U)
 have hlv:=cd n
 have hlim:=a9 n
 have hneg : ¬ (n:Int)<0:=by omega
 unfold aO
 rw [Int.natAbs_natCast,decide_eq_false hneg]
 refine Ok.enter Tryz.func150 Y Tryz.ntmps150 Y (fun w O => ?_)
 refine ae (ai ?_)
 refine aQ Y Y (ltN Y) (fun b1 => ?_)
 refine FJ Y (FJ Y (FL (aa (ae (ae (ai (FH (aj Y) (FH (ak 0 Y Y Y) (FH (aY Y) ?_)))))))))
 refine FH (sF X (cU Y Y)) (FL (aa (aA Y (aw (aa (ae (ai (FJ Y (FL ?_)))))))))
 refine aa (ae (ae (ai (FH (aj Y) (FH (ak 0 Y Y Y) (FH (aY Y) (FH (d4 Y Y (aR X X)) (FJ Y (FL ?_)))))))))
 refine aa (au (cf (Γ' := [(1,_),(2,_),(3,_),(4,_),(5,_)]) FC (SubM.refl _) ?_))
 refine bk (σ:=Nat) (Γk := [(1,_),(2,_),(3,_)]) FC (fun c => [(5,one (.int .i64 ((c:Nat) - 1:Int))),(4,one (.int .u64 (lv ((aL n).drop c):Nat)))]) (fun c M0=>M0) (fun c=>c≤(aL n).length) (fun c=>c) ((aL n).length) (Nat.le_refl _) (dV.cons Y S (dV.cons Y (ar (by rw [List.drop_length]; rfl)) dV.nil)) (.keep FG (.nil)) (fun c hc => ?_)
 refine bI (Γ' := [(5,_),(4,_),(1,_),(2,_),(3,_)]) (M' := [_]) Y Y ?_
 cases c with
 | zero =>
  rw [List.drop_zero,hlv]
  refine ae (ae (ai (FI Y (FH (sF X (eu Y Y)) (FL (aa (aA Y (aV (av ?_)))))))))
  refine av (aE (aa (ae (ae (ai (FH (aj Y) (FH (ak 0 Y Y Y) (FL (aa ?_)))))))))
  refine aA Y (aw (aa (ae (ai (FI Y (FH (c6 Y X X) (FI Y (FH (sT X (ob Y Y)) (FJ Y ?_)))))))))
  refine FJ Y (FL (aa (aG ?_)))
  refine c9 Tryz.results150 (.tmp Y S) (.tmp Y S)
 | succ c =>
  have hdv:=Ab (l:=aL n) (c:=c) hc
  have hg:=bh hlim c
  have hle:lv ((aL n).drop c)≤n:=by
   have:=fS (aL n) c X
   rw [hlv] at this
   have hp:0<4294967296^c:=Nat.pow_pos U
   have:=Nat.le_mul_of_pos_left (lv ((aL n).drop c)) hp
   omega
  have en:((c+1:Nat):Int) - 1=(c:Nat):=by omega
  rw [en]
  generalize lv ((aL n).drop (c+1))=z at *
  refine ae (ae (ai (FI Y (FH (sT X (eu Y Y)) (FL (aa (aD Y (aw (aa ?_)))))))))
  refine ae (au (ai (FI Y (FH (fa (b:=4294967296) Y Y X) (FH (aj Y) (FH (ak 0 Y Y Y) (FI Y (FH (aC Y Y X) (FH (aN Y) ?_)))))))))
  refine FH (bU Y X) (FH (dK Y Y X) (FJ Y (FL (aF (aa (ai (FI Y (FH (d4 Y Y (aR X X)) (FJ Y ?_)))))))))
  refine FL ?_
  refine aK (c) (Nat.le_of_succ_le hc) X (dV.cons Y S (dV.cons Y (ar (by rw [hdv])) (dV.cons Y S (dV.cons Y S (dV.cons Y S dV.nil))))) (.keep FG (.nil))
end Tor
end
section
namespace Tor
open Go Go.RowKit Go.Proofs
theorem Ac {a e p m:Nat} (h : ¬ e / 2^m % 2=1):a^(e / 2^(m+1)) % p*(a^(e / 2^(m+1)) % p) % p=a^(e / 2^m) % p:=by
 rw [← Nat.mul_mod, ← Nat.pow_add]
 congr 2
 rw [Nat.pow_succ, ← Nat.div_div_eq_div_mul]
 omega
theorem Ad {a e p m:Nat} (h:e / 2^m % 2=1):a^(e / 2^(m+1)) % p*(a^(e / 2^(m+1)) % p) % p*a % p=a^(e / 2^m) % p:=by
 rw [← Nat.mul_mod, ← Nat.pow_add,Nat.mod_mul_mod, ← Nat.pow_succ]
 congr 2
 rw [Nat.pow_succ, ← Nat.div_div_eq_div_mul]
 omega
attribute [local irreducible] J PJ aM one slT bW bH bj exT cn eP aX aH slV VT.le Ret bP
attribute [local irreducible] aO
theorem wN (p a b:Nat) (hp0:0<p) (hp:p<4294967296) (ha:a<4294967296) (hb:b<4294967296):Ok Tryz.prog 140 [one (.int .u64 p),one (.int .u64 a),one (.int .u64 b)] (one (.int .u64 (((a+b) % p:Nat):Int))):=by
 have hr:=pB (a+b) p X hp0 X
 refine Ok.enter Tryz.func140 Y Tryz.ntmps140 Y (fun w O => ?_)
 refine ae (ai (FJ Y (FL (aa (ae (ai (FI Y (FI Y (FH (dK Y Y X) ?_)))))))))
 refine FI Y ?_
 refine FH (am (hr) Y ⟨S,S,FM⟩) ?_
 refine FJ Y (FL (aa (aG ?_)))
 refine aT Tryz.results140 (.tmp Y S)
theorem pE (p a b:Nat) (hp0:0<p) (hp:p<4294967296) (ha:a<4294967296) (hb:b<4294967296):Ok Tryz.prog 114 [one (.int .u64 p),one (.int .u64 a),one (.int .u64 b)] (one (.int .u64 ((a*b % p:Nat):Int))):=by
 have hm:=DA ha hb
 refine Ok.enter Tryz.func114 Y Tryz.ntmps114 Y (fun w O => ?_)
 refine ae (ai (FJ Y (FL (aa (ae (ai (FI Y (FI Y (FH (fa Y Y X) ?_)))))))))
 refine FI Y (FH (eE _ Y Y Y X) (FJ Y (FL (aa (aG ?_)))))
 refine aT Tryz.results114 (.tmp Y S)
theorem Ae (p a e:Nat) (hp0:0<p) (hp:p<4294967296) (ha:a<p) (he:e<18446744073709551616):Ok Tryz.prog 151 [one (.int .u64 p),one (.int .u64 a),one (.int .u64 e)] (one (.int .u64 ((a^e % p:Nat):Int))):=by
 refine Ok.enter Tryz.func151 Y Tryz.ntmps151 Y (fun w O => ?_)
 refine ae (ai (FJ Y (FL (aa (ae (ai (FI Y (FH (eE _ Y Y Y X) (FJ Y ?_)))))))))
 refine FL (aa (ae (ae (ai (FJ Y (FL (aa (au (cf (Γ' := [(0,_),(1,_),(2,_),(6,_),(7,_),(8,_)]) FC (SubM.refl _) ?_)))))))))
 refine bk (σ:=Nat × Nat) (Γk := [(0,_),(1,_),(2,_),(6,_)]) FC (fun s => [(8,one (.int .i64 ((s.1:Nat) - 1:Int))),(7,one (.int .u64 (s.2:Nat)))]) (fun s M0=>M0) (fun s=>s.1≤64∧s.2=a^(e / 2^s.1) % p) (fun s=>s.1) ((64,1 % p)) (⟨Nat.le_refl _,by rw [Nat.div_eq_of_lt (show e<2^64 from he),Nat.pow_zero]⟩) FD (.nil) (fun s hs => ?_)
 refine bI (Γ' := [(8,_),(7,_),(0,_),(1,_),(2,_),(6,_)]) (M' := []) Y Y ?_
 obtain ⟨n,r⟩:=s
 dsimp only at hs ⊢
 obtain ⟨hn,hr⟩:=hs
 have hrp:r<p:=by rw [hr]; exact Nat.mod_lt _ hp0
 cases n with
 | zero =>
  rw [Nat.pow_zero,Nat.div_one] at hr
  refine ae (ae (ai (FI Y (FH (sF X (eu Y Y)) (FL (aa (aA Y (aV (av ?_)))))))))
  refine av (aE (aa (ae (ai (FI Y (FJ Y (FL (aa (aG ?_)))))))))
  refine aT Tryz.results151 (.tmp Y (ar (by rw [hr])))
 | succ m =>
  have h2:r*r % p<p:=Nat.mod_lt _ hp0
  have hm1:=pE p r r hp0 hp X X
  have hm2:=pE p (r*r % p) a hp0 hp X X
  refine js (t:=8) (ψ:=one (.int .i64 (m:Nat))) Y (ar (by congr 1;omega)) ?_
  have he2:e / 2^m<18446744073709551616:=Nat.lt_of_le_of_lt (Nat.div_le_self _ _) he
  by_cases hb:e / 2^m % 2=1
  ·have hs:=Ad (a:=a) (p:=p) hb
   rw [← hr] at hs
   refine ae (ae (ai (FI Y (FH (sT X (eu Y Y)) (FL (aa (aD Y (aw (aa ?_)))))))))
   refine ae (au (ae (ai (FI Y (FI Y (FI Y ?_))))))
   refine FH (am (hm1) Y ⟨S,S,S,FM⟩) ?_
   refine FJ Y (FL (aa (ae (ai (FI Y (FI Y (FH (jJ Y Y (by assumption)) (FH (rK Y X) (FH (sT X (bV Y Y)) ?_)))))))))
   refine FL (aa (aD Y (ai (FI Y (FI Y (FI Y ?_))))))
   refine FH (am (hm2) Y ⟨S,S,S,FM⟩) ?_
   refine FJ Y (FL (aF (aa (ai (FI Y (FH (d4 Y Y (aR X X)) (FJ Y (FL ?_))))))))
   refine aK ((m,r*r % p*a % p)) (⟨by omega,hs⟩) X FD (.nil)
  ·have hs:=Ac (a:=a) (p:=p) hb
   rw [← hr] at hs
   refine ae (ae (ai (FI Y (FH (sT X (eu Y Y)) (FL (aa (aD Y (aw (aa ?_)))))))))
   refine ae (au (ae (ai (FI Y (FI Y (FI Y ?_))))))
   refine FH (am (hm1) Y ⟨S,S,S,FM⟩) ?_
   refine FJ Y (FL (aa (ae (ai (FI Y (FI Y (FH (jJ Y Y (by assumption)) (FH (rK Y X) (FH (sF X (bV Y Y)) ?_)))))))))
   refine FL (aa (aA Y (aw (aF (aa (ai (FI Y (FH (d4 Y Y (aR X X)) (FJ Y ?_)))))))))
   refine FL ?_
   refine aK ((m,r*r % p)) (⟨by omega,hs⟩) X FD (.nil)
theorem Af (p a:Nat) (hp2:2≤p) (hp:p<4294967296) (ha0:a≠0) (ha:a<p):Ok Tryz.prog 113 [one (.int .u64 p),one (.int .u64 a)] (bj [one (.int .u64 ((a^(p - 2) % p:Nat):Int)),one (.int .i64 0)]):=by
 have hpw:=Ae p a (p - 2) X hp ha X
 have hm:a % p=a:=Nat.mod_eq_of_lt ha
 refine Ok.enter Tryz.func113 Y Tryz.ntmps113 Y (fun w O => ?_)
 refine ae (ai (FJ Y (FJ Y (FL (aa (ae (ae (ai (FI Y ?_)))))))))
 refine FI Y (FH (eE _ Y Y Y X) (FH (sF X (bV Y Y)) (FL (aa (aA Y (aw (aa (ae (ai ?_)))))))))
 refine FI Y (FI Y (FI Y (FH (jj 2 Y Y X X) ?_)))
 refine FH (am (hpw) Y ⟨S,S,S,FM⟩) ?_
 refine FJ Y (FJ Y (FL (aa (aG ?_))))
 refine c9 Tryz.results113 (.tmp Y S) (.tmp Y S)
theorem i7 (p:Nat) (a:Int) (hp0:0<p) (hp:p<2147483648) (ha:c8 a):Ok Tryz.prog 112 [one (.int .u64 p),aO a] (one (.int .u64 (((a % (p:Int)).toNat:Nat):Int))):=by
 have ho:=iB (p:Int) X X
 have hd:=gv a (p:Int) X ha (kZ (Nat.lt_of_lt_of_le (show (p:Int).natAbs<2147483648 from hp) H))
 have n1:=Int.emod_nonneg a (show (p:Int)≠0 by omega)
 have n2:=Int.emod_lt_of_pos a (show 0<(p:Int) by omega)
 obtain ⟨t,ht⟩ : ∃ t:Nat,t=(a % (p:Int)).toNat:=⟨_,rfl⟩
 have ht':a % (p:Int)=(t:Int):=by omega
 rw [ht'] at hd
 rw [← ht]
 refine Ok.enter Tryz.func112 Y Tryz.ntmps112 Y (fun w O => ?_)
 refine ae (ai ?_)
 refine gF Y Y (ltN Y) (fun b3 => ?_)
 refine FJ Y (FL (aa (ae ?_)))
 refine eh a4 Z Z ?_
 refine ux (fun B=>ak 0 Y Y Y) Y Y ?_
 refine ux (fun B=>ab Y) Y Y ?_
 refine ux (fun B=>c6 Y X X) Y Y ?_
 refine uxk (ho) Y ⟨S,FM⟩ Y ?_
 refine uxk (hd) Y ⟨S,S,FM⟩ Y ?_
 refine ux (fun B=>ab Y) Y Y ?_
 refine ux (fun B=>an Y Y) Y Y ?_
 refine ux (fun B=>an Y Y) Y Y ?_
 refine ux (fun B=>an Y Y) Y Y ?_
 refine ua Y (ua Y (us Y (us Y ?_)))
 refine ux (fun B=>ah Y) Y Y ?_
 refine RunU.nil (fun γ => ?_)
 refine cR (M' := [_,_,_]) Y (aa (ae (ai (FH (ak 0 Y Y Y) ?_))))
 refine FH (am (x5 _ X) Y ⟨S,FM⟩) ?_
 refine FI Y (FH (an Y Y) (FH (an Y Y) (FJ Y (FJ Y (FL (aa (ae (ai (FI Y ?_)))))))))
 refine FH (bU Y X) (FJ Y (FL (aa (aG ?_))))
 refine aT Tryz.results112 (.tmp Y S)
end Tor
end
section
namespace Tor
open Go Go.RowKit Go.Proofs
def nu (v:List Int):VT:=slT (.agg 2) v.length (fun i=>aO (v.getD i 0))
theorem sa {u v:List Int} {i:Nat} (h:u.take i=v.take i) (hl:u.length=v.length) (hi:i<u.length) (he:u.getD i 0=v.getD i 0):u.take (i+1)=v.take (i+1):=by
 rw [List.take_add_one,List.take_add_one,h,List.getElem?_eq_getElem hi,List.getElem?_eq_getElem (hl▸hi)]
 simp only [List.getD,List.getElem?_eq_getElem hi,List.getElem?_eq_getElem (hl▸hi),Option.getD_some] at he
 rw [he]
attribute [local irreducible] J PJ aM one slT bW bH bj exT cn eP aX aH slV VT.le Ret bP
attribute [local irreducible] aO
theorem tQ (u v:List Int):Ok Tryz.prog 65 [nu u,nu v] (one (.bool (decide (u=v)))):=by
 unfold nu
 refine Ok.enter Tryz.func65 Y Tryz.ntmps65 Y (fun w O => ?_)
 refine jE (t:=0) Y (fun _ _=>fB) (fun hb => ?_)
 refine ae (ai (FJ Y (FL (aa (ae (ae (ai (FI Y (FH (aY Y) ?_)))))))))
 refine FI Y (FH (aY Y) (FH (dj Y Y) (FL (aa ?_))))
 refine bm Y (fun hc => ?_) (fun hc => ?_) <;> simp only [decide_eq_true_eq,decide_eq_false_iff_not,ne_eq,Decidable.not_not] at hc
 ·refine ae (ai (FJ Y (FL (aa (aG (aS ?_))))))
  refine aT Tryz.results65 (.tmp Y (ar ?_))
  have : ¬ (u=v):=by intro e;subst e;exact hc Y
  simp [this]
 ·have hlen:u.length=v.length:=by omega
  refine aw (aa (ae (ae (ai (FJ Y (FL (aa (au ?_))))))))
  refine cO (σ:=Nat) (fun i => [(0,nu u),(1,nu v),(5,one (.int .i64 (i:Nat)))]) (fun _ => []) (fun i=>i≤u.length∧u.take i=v.take i) (fun i=>u.length - i) 0 ⟨Nat.zero_le _,rfl⟩ FE (SubM.refl _) (fun i ⟨hi,ht⟩ => ?_)
  unfold nu
  refine ae (ae (ai (FI Y (FI Y (FH (aY Y) (FH (a6 Y Y) (FL (aa ?_))))))))
  refine bm Y (fun hc => ?_) (fun hc => ?_) <;> simp at hc
  ·refine aw (aa (ae (au (ae (be 10 a4 Z U (FI Y (FI Y ?_)))))))
   (refine FH (aC Y Y ?_) ?_;omega)
   refine FH (aN Y) (FI Y (FI Y ?_))
   (refine FH (aC Y Y ?_) ?_;omega)
   refine FH (aN Y) ?_
   refine FH (am (pq _ _) Y ⟨S,S,FM⟩) ?_
   refine FH (dk Y) (FL (FL (aa ?_)))
   refine bm Y (fun hc2 => ?_) (fun hc2 => ?_)
   ·simp at hc2
    refine ae (ai (FJ Y (FL (aa (aG (bJ (aS (aS (bJ ?_)))))))))
    refine aS ?_
    refine aT Tryz.results65 (.tmp Y (ar ?_))
    have : ¬ (u=v):=by intro e;subst e;exact hc2 Y
    simp [this]
   ·have he:u.getD i 0=v.getD i 0:=by simpa using hc2
    refine aw (aF (aa (ai (FI Y ?_))))
    (refine FH (cA Y Y (aR ?_ ?_)) ?_;omega;omega)
    refine FJ Y (FL ?_)
    exact ci (s:=i) (i+1) ⟨by omega,sa ht hlen X he⟩ (by show u.length - (i+1)<u.length - i;omega) FE (SubM.refl _)
  ·refine aV (av (av (aE (aa (ae (ai (FJ Y (FL (aa ?_)))))))))
   refine aG ?_
   refine aT Tryz.results65 (.tmp Y (ar ?_))
   rw [List.take_of_length_le X,List.take_of_length_le X] at ht
   simp [ht]
end Tor
end
section
namespace Tor
open Go Go.RowKit Go.Proofs
def Ag (a:List (List Int)):VT:=slT .one a.length (fun i=>nu (a.getD i []))
def Eb (r c:Int) (a:List (List Int)):VT:=bH 3 [(0, .one,one (.int .i64 r)),(1, .one,one (.int .i64 c)),(2, .one,Ag a)]
attribute [local irreducible] J PJ aM one slT bW bH bj exT cn eP aX aH slV VT.le Ret bP
attribute [local irreducible] aO nu
end Tor
end
section
namespace Tor
open Go Go.RowKit Go.Proofs
def fW (v:List (Bool × List Nat)):VT:=slT (.agg 2) v.length (fun i=>nq (v.getD i (false, [])).1 (v.getD i (false, [])).2)
def nW (x:Int):Bool × List Nat:=(decide (x<0),aL x.natAbs)
theorem Ah (v:List Int):VT.le (nu v) (fW (v.map nW)):=by
 unfold nu fW
 refine VT.le_trans (dE (ψ:=fun i=>nq ((v.map nW).getD i (false, [])).1 ((v.map nW).getD i (false, [])).2) (fun i hi => ?_)) (by rw [List.length_map]; exact VT.le_refl _)
 simp only [List.getD,List.getElem?_map,List.getElem?_eq_getElem hi,Option.map_some,Option.getD_some]
 exact zT _
theorem mN : ∀ {l:List Nat},gW l→0<l.length→l.getD (l.length - 1) 0≠0
 | [], _, h => absurd h U
 | [d], h, _ => h
 | _ :: d :: l, h, _ => mN (l := d :: l) h (by simp)
theorem vk (x:Int):kB (nW x).1 (nW x).2=true:=by
 unfold kB nW
 simp only
 split
 ·rename_i h
  have e:=List.eq_nil_of_length_eq_zero h
  have:x.natAbs=0:=by rw [← cd x.natAbs,e]; rfl
  have : ¬ x<0:=by omega
  simp [this]
 ·rename_i h
  have:=mN (mD x.natAbs) X
  simpa using this
theorem dY (x:Int):dn x=0↔x=0:=by
 unfold dn
 constructor
 ·intro h;split at h
  ·assumption
  ·split at h <;> omega
 ·intro h;rw [if_pos h]
theorem wO {α:Type} {p:α→Bool} {v:List α} {d:α} {i:Nat} (h:(v.take i).all p=true) (hi:i<v.length) (he:p (v.getD i d)=true):(v.take (i+1)).all p=true:=by
 rw [List.take_add_one,List.all_append,h,List.getElem?_eq_getElem hi]
 simp only [List.getD,List.getElem?_eq_getElem hi,Option.getD_some] at he
 simp [he]
theorem vl {α:Type} {p:α→Bool} {v:List α} {d:α} {i:Nat} (hi:i<v.length) (he:p (v.getD i d)=false):v.all p=false:=by
 simp only [List.getD,List.getElem?_eq_getElem hi,Option.getD_some] at he
 rw [List.all_eq_false]; exact ⟨_,List.getElem_mem hi,by simp [he]⟩
attribute [local irreducible] J PJ aM one slT bW bH bj exT cn eP aX aH slV VT.le Ret bP
attribute [local irreducible] aO nq
end Tor
end
section
namespace Tor
open Go Go.RowKit Go.Proofs
abbrev vm:=List (Bool × List Nat)
def eO (a:List vm):VT:=slT .one a.length (fun i=>fW (a.getD i []))
def mO (r c:Int) (a:List vm):VT:=bH 3 [(0, .one,one (.int .i64 r)),(1, .one,one (.int .i64 c)),(2, .one,eO a)]
def kF (c:Int) (v:vm):Bool:=decide ((v.length:Int)=c) && v.all fun p=>kB p.1 p.2
def jP (r c:Int) (a:List vm):Bool:=decide (0≤r∧0≤c∧(a.length:Int)=r) && a.all (kF c)
attribute [local irreducible] J PJ aM one slT bW bH bj exT cn eP aX aH slV VT.le Ret bP
attribute [local irreducible] aO nq fW
end Tor
end
section
namespace Tor
open Go Go.RowKit Go.Proofs
def tab (r c:Nat) (F:Nat→Nat→Int):List (List Int):=(List.range r).map fun i=>(List.range c).map (F i)
@[simp] theorem tab_length (r c:Nat) (F:Nat→Nat→Int):(tab r c F).length=r:=by simp [tab]
theorem Cq {r c i:Nat} (F:Nat→Nat→Int) (hi:i<r):(tab r c F).getD i []=(List.range c).map (F i):=by simp [tab,List.getD,hi]
theorem Ec {c j:Nat} (f:Nat→Int) (hj:j<c):((List.range c).map f).getD j 0=f j:=by simp [List.getD,hj]
def bw (c:Nat) (f:Nat→Int):VT:=slT (.agg 2) c (fun j=>aO (f j))
theorem pF (c:Nat) (f:Nat→Int):VT.le (bw c f) (nu ((List.range c).map f)):=by
 unfold bw nu
 refine VT.le_trans (dE (ψ:=fun j=>aO (((List.range c).map f).getD j 0)) (fun j hj => ?_)) (fK (by simp))
 rw [Ec f hj]; exact VT.le_refl _
def bO (r c:Nat) (F:Nat→Nat→Int):VT:=bH 3 [(0, .one,one (.int .i64 r)),(1, .one,one (.int .i64 c)),(2, .one,slT .one r (fun i=>bw c (F i)))]
theorem Ai (r c:Nat) (F:Nat→Nat→Int):VT.le (bO r c F) (Eb r c (tab r c F)):=by
 unfold bO Eb Ag
 refine fL (fun q hq => ?_)
 rcases List.mem_cons.1 hq with rfl | hq
 ·exact ⟨_,List.mem_cons_self,S⟩
 rcases List.mem_cons.1 hq with rfl | hq
 ·exact ⟨_,List.mem_cons_of_mem _ List.mem_cons_self,S⟩
 rcases List.mem_cons.1 hq with rfl | hq
 ·refine ⟨_,List.mem_cons_of_mem _ (List.mem_cons_of_mem _ List.mem_cons_self),VT.le_trans (dE (ψ:=fun i=>nu ((tab r c F).getD i [])) (fun i hi => ?_)) (fK (by simp))⟩
  rw [Cq F hi]; exact pF _ _
 ·cases hq
theorem sb {r c:Nat} {F G:Nat→Nat→Int} (h : ∀ i j,i<r→j<c→F i j=G i j):VT.le (bO r c F) (bO r c G):=by
 unfold bO
 refine fL (fun q hq => ?_)
 rcases List.mem_cons.1 hq with rfl | hq
 ·exact ⟨_,List.mem_cons_self,S⟩
 rcases List.mem_cons.1 hq with rfl | hq
 ·exact ⟨_,List.mem_cons_of_mem _ List.mem_cons_self,S⟩
 rcases List.mem_cons.1 hq with rfl | hq
 ·refine ⟨_,List.mem_cons_of_mem _ (List.mem_cons_of_mem _ List.mem_cons_self),dE fun i hi=>dE fun j hj=>fK (by rw [h i j hi hj])⟩
 ·cases hq
theorem jA:VT.le (one (.agg #[.bool false, .slice none 0 0])) (aO 0):=by
 intro v h e
 have e:v = .agg #[.bool false, .slice none 0 0]:=e
 subst e
 refine ⟨_,rfl,rfl,by simp [Value.oneCell'],fun q hq => ?_⟩
 rcases List.mem_cons.1 hq with rfl | hq
 ·exact ⟨.bool false,rfl,rfl⟩
 ·rcases List.mem_cons.1 hq with rfl | hq
  ·exact ⟨.slice none 0 0,rfl,⟨none,0,rfl,Nat.le_refl _,by decide,fun i hi=>absurd hi (Nat.not_lt_zero _)⟩⟩
  ·cases hq
theorem e6 {sv:Option Nat} {T:TypeId} {L:Lay} {cap n:Nat} {φ:Nat→VT} {g:RH} {h:Hp} (hp:(aH sv T L cap n φ).p g h) (he:sv=none):n=0:=by
 obtain ⟨h1,h2,h3,_⟩:=hp;have:=h3 he;omega
theorem Aj {bs:List Nat} {i:Nat} (h:i<bs.length):bs[i]? = some (bs.getD i 0):=by simp [List.getD,h]
def kg (sv:Option Nat) (cap r c:Nat) (bs:List Nat):Own:=aH sv 32 .one cap r (fun q=>one (slV (some (bs.getD q 0)) c c))
def iN (c:Nat) (bs:List Nat) (F:Nat→Nat→Int):Own:=eC 37 (.agg 2) c bs (fun q k=>aO (F q k))
theorem i9 {c:Nat} {bs:List Nat} {F G:Nat→Nat→Int} (h : ∀ i j,i<bs.length→j<c→F i j=G i j):Own.le (iN c bs F) (iN c bs G):=mg fun i j hi hj=>by rw [h i j hi hj]
abbrev E3 (r:Nat) := {s:List Nat × Option Nat × Nat // s.1.length=r∧(s.2.1=none→r=0)}
def nv (r c:Nat) (s:E3 r):VT:=bH 3 [(0, .one,one (.int .i64 r)),(1, .one,one (.int .i64 c)),(2, .one,one (slV s.1.2.1 r s.1.2.2))]
theorem k9 {r c:Nat} {sv:Option Nat} {cap:Nat} {bs:List Nat} {F:Nat→Nat→Int} {cs:cy} (hb:bs.length=r) (hc:(0,Lay.one,one (.int .i64 r))∈cs∧(1,Lay.one,one (.int .i64 c))∈cs∧(2,Lay.one,one (slV sv r cap))∈cs) :
  rz [kg sv cap r c bs,iN c bs F] cs [(0, .one,one (.int .i64 r)),(1, .one,one (.int .i64 c)),(2, .one,slT .one r (fun i=>bw c (F i)))]:=by
 refine .cons hc.1 (Ent.refl _) (.cons hc.2.1 (Ent.refl _) (.cons hc.2.2 ?_ .nil))
 refine Ent.slE List.mem_cons_self fun q hq => ?_
 exact Ent.row (List.mem_cons_of_mem _ List.mem_cons_self) (Aj X)
attribute [local irreducible] J PJ aM one slT bW bH bj exT cn eP aX aH slV VT.le Ret bP
attribute [local irreducible] eC
theorem oC (r c:Nat) (hr:r≤1048576) (hc:c≤1048576):OkM Tryz.prog 45 [one (.int .i64 r),one (.int .i64 c)] (nv r c) (fun s => [kg s.1.2.1 s.1.2.2 r c s.1.1,iN c s.1.1 (fun _ _=>0)]):=by
 refine OkM.enter Tryz.func45 Y Tryz.ntmps45 Y (fun w O => ?_)
 refine ae (ai ?_)
 refine bF (T:=30) Y Y Y (fun b => ?_)
 refine FL (aa (ae (ai (iL (n:=0) Y Y Y Y Y ?_))))
 refine PartsK.nil (fun b => ?_)
 refine FJ Y (FL (aa (ae (ae (ai (FJ Y (FL (aa (au ?_)))))))))
 rename_i bc
 refine gM (ConvM.rows0 (T:=37) (L := .agg 2) (c:=c) (φ:=fun _ _=>aO 0) _) ?_
 refine cO (σ:=List Nat × Option Nat × Nat) (fun s => [(0,one (.int .i64 r)),(1,one (.int .i64 c)),(4,one (.pointer (some ⟨bc,0,none⟩))),(5,one (slV s.2.1 s.1.length s.2.2)),(6,one (.int .i64 s.1.length))])
  (fun s => [aH s.2.1 32 .one s.2.2 s.1.length (fun q=>one (slV (some (s.1.getD q 0)) c c)),aX bc 30 3 (dT #[Value.int IntKind.i64 0,Value.int IntKind.i64 0,Value.slice none 0 0] [(0,Lay.one),(1,Lay.one),(2,Lay.one)]),iN c s.1 (fun _ _=>0)])
  (fun s=>s.1.length≤r) (fun s=>r - s.1.length) ([],some b,0) (Nat.zero_le _) FE (.keep (a7 (fun q hq=>by omega)) (SubM.refl _)) (fun s hk => ?_)
 obtain ⟨bs,sv0,cap0⟩:=s
 simp only at hk ⊢
 refine ae (ae (ai (FI Y (FI Y (FH (a6 Y Y) (FL (aa ?_)))))))
 refine bm Y (fun hc => ?_) (fun hc => ?_) <;> simp at hc
 ·refine aw (aa (ae (au (ai (FI Y (FI Y ?_))))))
  refine bY c c Y Y Y Y (Nat.le_refl _) Y Y X Y Y (fun bz => ?_)
  refine eH Y Y Y Y ?_
  (refine cq 1 Y Y Y (leN Y) ?_ ?_ Y (ltN Y) (fun sv cap => ?_);omega;omega)
  refine FJ Y (FL (aF (aa (ai (FI Y ?_)))))
  (refine FH (cA Y Y (aR ?_ ?_)) ?_;omega;omega)
  refine FJ Y (FL (fN (ConvM.row (k:=2) Y) (ci (s:=(bs,sv0,cap0)) (bs ++ [bz],sv,cap) (by simp;omega) (by simp;omega) (.cons Y S (.cons Y S (.cons Y S (.cons Y (gB (by simp)) (.cons Y (ar (by simp)) .nil))))) ?_)))
  refine .keep (ff (by simp) (fun q hq => ?_)) (.keep FG (.keep (oU fun i j hi hj => ?_) .nil))
  ·by_cases h:q<bs.length
   ·rw [if_pos h]; simp [List.getElem?_append_left h]
   ·have:q=bs.length:=by omega
    subst this;rw [if_neg h]; simp
  ·simp only
   split
   ·exact VT.le_refl _
   ·exact jA
 ·have hlen:bs.length=r:=by omega
  subst hlen
  refine iS (i:=0) (F:=sv0=none→bs.length=0) Y (fun g h hp he=>e6 hp he) (fun hF => ?_)
  refine aV (av (av (aE (aa (ae (ai (FI Y (FI Y (FI Y ?_)))))))))
  refine stB Y Y Y (BuildK.cons Y Y Y (BuildK.cons Y Y Y (BuildK.cons Y Y Y (BuildK.nil (a8 1 Y Y Y Y (FL (aa (aG ?_))))))))
  refine kb ⟨(bs,sv0,cap0),rfl,hF⟩ Tryz.results45 (.cellW 1 Y Y S) ?_
  exact .keep FG (.drop (SubM.refl _))
end Tor
end
section
namespace Tor
open Go Go.RowKit Go.Proofs
def gZ (k:IntKind) (l:List Int):VT:=slT .one l.length (fun i=>one (.int k (l.getD i 0)))
theorem fu {sv:Option Nat} {r:Nat} (h:sv=none→r=0) (hr:0<r) : ∃ b,sv=some b:=by
 cases sv with
 | none => have := h Y; omega
 | some b => exact ⟨b, rfl⟩
theorem qk (i c j:Nat):((i:Int)*c+j).toNat=i*c+j:=by
 have:((i:Int)*c+j)=((i*c+j:Nat):Int):=by simp
 rw [this,Int.toNat_natCast]
def gP (f:Nat→Int) (c i j:Nat):Nat→Nat→Int:=fun q k=>if q<i∨(q=i∧k<j) then f (q*c+k) else 0
theorem Ak {l:List Int} {i:Nat} {p:Int→Prop} (h : ∀ x∈l,p x) (h0:p 0):p (l.getD i 0):=by
 rcases Nat.lt_or_ge i l.length with hi | hi
 ·simp only [List.getD,List.getElem?_eq_getElem hi,Option.getD_some]; exact h _ (List.getElem_mem hi)
 ·simp only [List.getD,List.getElem?_eq_none hi,Option.getD_none]; exact h0
theorem tR {T:TypeId} {c:Nat} {bs:List Nat} {f:Nat→Int} {i j:Nat} (x:Int) (hx:x=f (i*c+j)) :
  Own.le (eC T (.agg 2) c bs (oc (fun q k=>aO (gP f c i j q k)) i j (aO x))) (eC T (.agg 2) c bs (fun q k=>aO (gP f c i (j+1) q k))):=by
 subst hx
 refine mg fun q k hq hk => ?_
 unfold oc gP
 by_cases h:q=i∧k=j
 ·obtain ⟨rfl,rfl⟩:=h;simp
 ·rw [if_neg h]
  have e:(q<i∨q=i∧k<j+1)↔(q<i∨q=i∧k<j):=by omega
  simp only [e]
attribute [local irreducible] J PJ aM one slT bW bH bj exT cn eP aX aH slV VT.le Ret bP
attribute [local irreducible] aO eC
theorem Al (r c:Nat) (l:List Int) (hr0:r≤1048576) (hc0:c≤1048576) (hl : ∀ x∈l, -9223372036854775808≤x∧x≤9223372036854775807):Ok Tryz.prog 43 [one (.int .i64 r),one (.int .i64 c),gZ .i64 l] (bO r c (fun i j=>l.getD (i*c+j) 0)):=by
 unfold gZ
 refine Ok.enter Tryz.func43 Y Tryz.ntmps43 Y (fun w O => ?_)
 refine ae (ai ?_)
 refine bF (T:=30) Y Y Y (fun b => ?_)
 refine FL (aa (ae (ai (FI Y (FI Y ?_)))))
 refine gz (oC r c hr0 hc0) Y ⟨S,S,FM⟩ Y Y (fun s => ?_)
 obtain ⟨⟨bs,sv1,cap1⟩,hlen,hsv⟩:=s
 simp only at hlen hsv
 unfold nv
 refine bF (T:=30) Y Y Y (fun b => ?_)
 refine a8 0 Y Y Y Y (FL (aa (ae (ae (ai (FJ Y (FL (aa (au ?_)))))))))
 rename_i b2
 refine cO (σ:=Nat) (fun i => [(0,one (.int .i64 r)),(1,one (.int .i64 c)),(2,slT .one l.length (fun i=>one (.int .i64 (l.getD i 0)))),(6,one (.pointer (some ⟨b2,0,none⟩))),(7,one (.pointer (some ⟨b,0,none⟩))),(8,one (.int .i64 (i:Nat)))])
  (fun i => [aX b 30 3 [(0, .one,one (.int .i64 r)),(1, .one,one (.int .i64 c)),(2, .one,one (slV sv1 r cap1))],kg sv1 cap1 r c bs,iN c bs (gP (fun n=>l.getD n 0) c i 0),
   aX b2 30 3 (dT #[Value.int IntKind.i64 0,Value.int IntKind.i64 0,Value.slice none 0 0] [(0,Lay.one),(1,Lay.one),(2,Lay.one)])])
  (fun i=>i≤r) (fun i=>r - i) 0 (Nat.zero_le _) FE (.keep FG (.keep FG (.keep (i9 fun i j hi hj=>by simp [gP]) (SubM.refl _)))) (fun i hi => ?_)
 refine ae (ae (ai (FI Y (FI Y (FH (a6 Y Y) (FL (aa ?_)))))))
 refine bm Y (fun hc => ?_) (fun hc => ?_) <;> simp at hc
 ·have hir:i<r:=by omega
  obtain ⟨bo,rfl⟩:=fu hsv X
  refine aw (aa (ae (au (ae (ai (FJ Y (FL (aa (au ?_)))))))))
  refine cO (σ:=Nat) (fun j => [(0,one (.int .i64 r)),(1,one (.int .i64 c)),(2,slT .one l.length (fun i=>one (.int .i64 (l.getD i 0)))),(6,one (.pointer (some ⟨b2,0,none⟩))),(7,one (.pointer (some ⟨b,0,none⟩))),(8,one (.int .i64 (i:Nat))),(9,one (.int .i64 (j:Nat)))])
   (fun j => [aX b 30 3 [(0, .one,one (.int .i64 r)),(1, .one,one (.int .i64 c)),(2, .one,one (slV (some bo) r cap1))],kg (some bo) cap1 r c bs,iN c bs (gP (fun n=>l.getD n 0) c i j),
   aX b2 30 3 (dT #[Value.int IntKind.i64 0,Value.int IntKind.i64 0,Value.slice none 0 0] [(0,Lay.one),(1,Lay.one),(2,Lay.one)])])
   (fun j=>j≤c) (fun j=>c - j) 0 (Nat.zero_le _) FE (SubM.refl _) (fun j hj => ?_)
  have hm:i*c≤1048576*1048576:=Nat.mul_le_mul X hc0
  have hm2:(i:Int)*c≤1099511627776:=by omega
  have hm3:0≤(i:Int)*c:=by have:=Nat.zero_le (i*c);omega
  refine ae (ae ?_)
  refine gk (σ:=Unit) (fun _ => [(0,one (.int .i64 r)),(1,one (.int .i64 c)),(2,slT .one l.length (fun i=>one (.int .i64 (l.getD i 0)))),(6,one (.pointer (some ⟨b2,0,none⟩))),(7,one (.pointer (some ⟨b,0,none⟩))),(8,one (.int .i64 (i:Nat))),(9,one (.int .i64 (j:Nat))),(30,one (.bool (decide (j<c∧i*c+j<l.length))))])
   (fun _ => [aX b 30 3 [(0, .one,one (.int .i64 r)),(1, .one,one (.int .i64 c)),(2, .one,one (slV (some bo) r cap1))],kg (some bo) cap1 r c bs,iN c bs (gP (fun n=>l.getD n 0) c i j),
   aX b2 30 3 (dT #[Value.int IntKind.i64 0,Value.int IntKind.i64 0,Value.slice none 0 0] [(0,Lay.one),(1,Lay.one),(2,Lay.one)])]) (fun _=>True) ?_ (fun _ _ => ?_)
  ·refine ai (FI Y (FI Y (FH (a6 Y Y) (FI Y ?_))))
   refine oN (t:=21) Y (fun b h1 => ?_)
   rw [h1]
   cases b
   ·simp at h1
    refine sg0 Y Y Y Y (sg0 Y Y Y Y (sg0 Y Y Y Y (sg0 Y Y Y Y (sg0 Y Y Y Y (sg0 Y Y Y Y (sg0 Y Y Y Y (sg0 Y Y Y Y (FH (bG Y Y) (FL ?_)))))))))
    refine c7 () trivial (.cons Y S (.cons Y S (.cons Y S (.cons Y S (.cons Y S (.cons Y S (.cons Y S (.cons Y (ar ?_) .nil)))))))) (SubM.refl _)
    congr 1;symm;rw [decide_eq_false_iff_not]; omega
   ·simp at h1
    refine FK (ab Y) (FK (ab Y) ?_)
    (refine FK (nQ Y Y (aR ?_ ?_)) ?_;omega;omega)
    refine FK (ab Y) ?_
    (refine FK (cA Y Y (aR ?_ ?_)) ?_;omega;omega)
    refine FK (ab Y) (FK (aY Y) (FK (a6 Y Y) (FH (a5 Y Y) (FL ?_))))
    refine c7 () trivial (.cons Y S (.cons Y S (.cons Y S (.cons Y S (.cons Y S (.cons Y S (.cons Y S (.cons Y (ar ?_) .nil)))))))) (SubM.refl _)
    congr 1;rw [decide_eq_decide]
    have:((i*c:Nat):Int)=(i:Int)*c:=by simp
    omega
  ·refine aa ?_
   refine bm Y (fun hc2 => ?_) (fun hc2 => ?_) <;> simp only [decide_eq_true_eq,decide_eq_false_iff_not] at hc2
   ·have hm4:((i*c:Nat):Int)=(i:Int)*c:=by simp
    refine aw (aa (ae (au (be 16 a4 Z U (FH (aj Y) (FH (ak 0 Y Y Y) (FI Y ?_)))))))
    (refine FH (aq Y Y ?_) ?_;omega)
    (refine FH (bg 1 Y Y ?_) ?_;omega)
    refine FI Y (FI Y (FI Y (FI Y ?_)))
    (refine FH (nQ Y Y (aR ?_ ?_)) ?_;omega;omega)
    refine FI Y ?_
    (refine FH (cA Y Y (aR ?_ ?_)) ?_;omega;omega)
    (refine FH (aC Y Y ?_) ?_;omega)
    refine FH (aN Y) ?_
    have hv:=Ak (i:=((i:Int)*c+j).toNat) hl U
    refine FH (am (iB _ hv.1 hv.2) Y ⟨S,FM⟩) ?_
    (refine FH (aq Y Y ?_) ?_;omega)
    refine FL ?_
    (refine mh 2 Y Y Y (Aj ?_) ?_ Y ?_;omega;omega)
    refine FL (aF (aa (ai (FI Y ?_))))
    (refine FH (cA Y Y (aR ?_ ?_)) ?_;omega;omega)
    refine FJ Y (FL ?_)
    refine ci (s:=j) (j+1) (show _ from by omega) X FE (.keep FG (.keep FG (.keep (tR _ (by rw [qk])) (SubM.refl _))))
   ·refine aV (av (av (aE (aF (aa (ai (FI Y ?_)))))))
    (refine FH (cA Y Y (aR ?_ ?_)) ?_;omega;omega)
    refine FJ Y (FL ?_)
    refine ci (s:=i) (i+1) (show _ from by omega) X FE (.keep FG (.keep FG (.keep (i9 fun q k hq hk => ?_) (SubM.refl _))))
    unfold gP
    by_cases h:q<i∨(q=i∧k<j)
    ·rw [if_pos h,if_pos X]
    ·rw [if_neg h]
     by_cases h2:q=i
     ·subst h2;rw [if_pos X]
      have:l.length≤q*c+k:=by omega
      simp [List.getD,List.getElem?_eq_none this]
     ·rw [if_neg X]
 ·have hin:i=r:=by omega
  subst hin
  refine aV (av (av (aE (aa (ae (ai (FH (aI 0 Y Y) (a8 3 Y Y Y Y (FL ?_)))))))))
  refine aa (aG ?_)
  have hperm : ∀ (x y z u:Own), [x,y,z,u].Perm ([y,z] ++ [x,u]):=fun x y z u=>(List.Perm.swap y x _).trans (List.Perm.cons y (List.Perm.swap z x _))
  refine iW [kg sv1 cap1 i c bs,iN c bs (gP (fun n=>l.getD n 0) c i 0)] (hperm _ _ _ _) (.keep (xv.refl _) (.keep (xv.box (k9 hlen ⟨by simp,by simp,by simp⟩)) .nil)) (xw.refl _) ?_
  refine aT Tryz.results43 (.cellW 1 Y Y ?_)
  exact sb fun a b ha hb=>by simp [gP,ha]
end Tor
end
section
namespace Tor
open Go Go.RowKit Go.Proofs
theorem Ed (x:Int) : -10<x.tmod 10∧x.tmod 10<10:=⟨by
 have:=Int.tmod_lt_of_pos (-x) (show (0:Int)<10 by decide)
 rw [Int.neg_tmod] at this;omega,Int.tmod_lt_of_pos x U⟩
def dig (l:List Int) (n:Nat):Int:=(l.getD n 0).tmod 10
attribute [local irreducible] J PJ aM one slT bW bH bj exT cn eP aX aH slV VT.le Ret bP
attribute [local irreducible] aO eC
theorem nX (r c:Nat) (l:List Int) (hr0:r≤16) (hc0:c≤16):OkM Tryz.prog 47 [one (.int .i64 r),one (.int .i64 c),gZ .i8 l] (nv r c) (fun s => [kg s.1.2.1 s.1.2.2 r c s.1.1,iN c s.1.1 (fun i j=>dig l (i*c+j))]):=by
 unfold gZ
 refine OkM.enter Tryz.func47 Y Tryz.ntmps47 Y (fun w O => ?_)
 refine ae (ai ?_)
 refine bF (T:=30) Y Y Y (fun b => ?_)
 refine FL (aa (ae (ai (FI Y (FH (qt Y Y) (FH (wa Y Y) (FI Y (FH (qt Y Y) (FH (wa Y Y) ?_)))))))))
 refine gz (oC r c X X) Y ⟨ar (by congr 1;omega),ar (by congr 1;omega),FM⟩ Y Y (fun s => ?_)
 obtain ⟨⟨bs,sv1,cap1⟩,hlen,hsv⟩:=s
 simp only at hlen hsv
 unfold nv
 refine bF (T:=30) Y Y Y (fun b => ?_)
 refine a8 0 Y Y Y Y (FL (aa (ae (ae (ai (FJ Y (FL (aa (au ?_)))))))))
 rename_i b2
 refine cO (σ:=Nat) (fun i => [(2,slT .one l.length (fun i=>one (.int .i8 (l.getD i 0)))),(6,one (.pointer (some ⟨b2,0,none⟩))),(7,one (.pointer (some ⟨b,0,none⟩))),(8,one (.int .i64 (i:Nat)))])
  (fun i => [aX b 30 3 [(0, .one,one (.int .i64 r)),(1, .one,one (.int .i64 c)),(2, .one,one (slV sv1 r cap1))],kg sv1 cap1 r c bs,iN c bs (gP (dig l) c i 0),
   aX b2 30 3 (dT #[Value.int IntKind.i64 0,Value.int IntKind.i64 0,Value.slice none 0 0] [(0,Lay.one),(1,Lay.one),(2,Lay.one)])])
  (fun i=>i≤r) (fun i=>r - i) 0 (Nat.zero_le _) FE (.keep FG (.keep FG (.keep (i9 fun i j hi hj=>by simp [gP]) (SubM.refl _)))) (fun i hi => ?_)
 refine ae (ae (ai (FI Y (FH (aj Y) (FH (ak 0 Y Y Y) (FH (a6 Y Y) (FL (aa ?_))))))))
 refine bm Y (fun hc => ?_) (fun hc => ?_) <;> simp at hc
 ·have hir:i<r:=by omega
  obtain ⟨bo,rfl⟩:=fu hsv X
  refine aw (aa (ae (au (ae (ai (FJ Y (FL (aa (au ?_)))))))))
  refine cO (σ:=Nat) (fun j => [(2,slT .one l.length (fun i=>one (.int .i8 (l.getD i 0)))),(6,one (.pointer (some ⟨b2,0,none⟩))),(7,one (.pointer (some ⟨b,0,none⟩))),(8,one (.int .i64 (i:Nat))),(9,one (.int .i64 (j:Nat)))])
   (fun j => [aX b 30 3 [(0, .one,one (.int .i64 r)),(1, .one,one (.int .i64 c)),(2, .one,one (slV (some bo) r cap1))],kg (some bo) cap1 r c bs,iN c bs (gP (dig l) c i j),
   aX b2 30 3 (dT #[Value.int IntKind.i64 0,Value.int IntKind.i64 0,Value.slice none 0 0] [(0,Lay.one),(1,Lay.one),(2,Lay.one)])])
   (fun j=>j≤c) (fun j=>c - j) 0 (Nat.zero_le _) FE (SubM.refl _) (fun j hj => ?_)
  have hm:i*c≤16*16:=Nat.mul_le_mul X hc0
  have hm2:(i:Int)*c≤256:=by omega
  have hm3:0≤(i:Int)*c:=by have:=Nat.zero_le (i*c);omega
  refine ae (ae ?_)
  refine gk (σ:=Unit) (fun _ => [(2,slT .one l.length (fun i=>one (.int .i8 (l.getD i 0)))),(6,one (.pointer (some ⟨b2,0,none⟩))),(7,one (.pointer (some ⟨b,0,none⟩))),(8,one (.int .i64 (i:Nat))),(9,one (.int .i64 (j:Nat))),(37,one (.bool (decide (j<c∧i*c+j<l.length))))])
   (fun _ => [aX b 30 3 [(0, .one,one (.int .i64 r)),(1, .one,one (.int .i64 c)),(2, .one,one (slV (some bo) r cap1))],kg (some bo) cap1 r c bs,iN c bs (gP (dig l) c i j),
   aX b2 30 3 (dT #[Value.int IntKind.i64 0,Value.int IntKind.i64 0,Value.slice none 0 0] [(0,Lay.one),(1,Lay.one),(2,Lay.one)])]) (fun _=>True) ?_ (fun _ _ => ?_)
  ·refine ai (FI Y (FH (aj Y) (FH (ak 0 Y Y Y) (FH (a6 Y Y) (FI Y ?_)))))
   refine oN (t:=27) Y (fun b h1 => ?_)
   rw [h1]
   cases b
   ·simp at h1
    refine sg0 Y Y Y Y (sg0 Y Y Y Y (sg0 Y Y Y Y (sg0 Y Y Y Y (sg0 Y Y Y Y (sg0 Y Y Y Y (sg0 Y Y Y Y (sg0 Y Y Y Y (sg0 Y Y Y Y (FH (bG Y Y) ?_)))))))))
    refine FL ?_
    refine c7 () trivial (.cons Y S (.cons Y S (.cons Y S (.cons Y S (.cons Y S (.cons Y (ar ?_) .nil)))))) (SubM.refl _)
    congr 1;symm;rw [decide_eq_false_iff_not]; omega
   ·simp at h1
    refine FK (ab Y) (FK (aj Y) (FK (ak 0 Y Y Y) ?_))
    (refine FK (nQ Y Y (aR ?_ ?_)) ?_;omega;omega)
    refine FK (ab Y) ?_
    (refine FK (cA Y Y (aR ?_ ?_)) ?_;omega;omega)
    refine FK (ab Y) (FK (aY Y) (FK (a6 Y Y) (FH (a5 Y Y) (FL ?_))))
    refine c7 () trivial (.cons Y S (.cons Y S (.cons Y S (.cons Y S (.cons Y S (.cons Y (ar ?_) .nil)))))) (SubM.refl _)
    congr 1;rw [decide_eq_decide]
    have:((i*c:Nat):Int)=(i:Int)*c:=by simp
    omega
  ·refine aa ?_
   refine bm Y (fun hc2 => ?_) (fun hc2 => ?_) <;> simp only [decide_eq_true_eq,decide_eq_false_iff_not] at hc2
   ·have hm4:((i*c:Nat):Int)=(i:Int)*c:=by simp
    refine aw (aa (ae (au (be 19 a4 Z U (FH (aj Y) (FH (ak 0 Y Y Y) (FI Y ?_)))))))
    (refine FH (aq Y Y ?_) ?_;omega)
    (refine FH (bg 1 Y Y ?_) ?_;omega)
    refine FI Y (FI Y (FI Y (FH (aj Y) (FH (ak 0 Y Y Y) ?_))))
    (refine FH (nQ Y Y (aR ?_ ?_)) ?_;omega;omega)
    refine FI Y ?_
    (refine FH (cA Y Y (aR ?_ ?_)) ?_;omega;omega)
    (refine FH (aC Y Y ?_) ?_;omega)
    refine FH (aN Y) (FH (jr Y Y U Y) ?_)
    have hv:=Ed (l.getD (i*c+j) 0)
    refine FH (c6 Y ?_ ?_) ?_; · omega
    ·omega
    refine FH (am (iB _ X X) Y ⟨S,FM⟩) ?_
    (refine FH (aq Y Y ?_) ?_;omega)
    refine FL ?_
    (refine mh 2 Y Y Y (Aj ?_) ?_ Y ?_;omega;omega)
    refine FL (aF (aa (ai (FI Y ?_))))
    (refine FH (cA Y Y (aR ?_ ?_)) ?_;omega;omega)
    refine FJ Y (FL ?_)
    refine ci (s:=j) (j+1) (show _ from by omega) X FE (.keep FG (.keep FG (.keep (tR _ Y) (SubM.refl _))))
   ·refine aV (av (av (aE (aF (aa (ai (FI Y ?_)))))))
    (refine FH (cA Y Y (aR ?_ ?_)) ?_;omega;omega)
    refine FJ Y (FL ?_)
    refine ci (s:=i) (i+1) (show _ from by omega) X FE (.keep FG (.keep FG (.keep (i9 fun q k hq hk => ?_) (SubM.refl _))))
    unfold gP
    by_cases h:q<i∨(q=i∧k<j)
    ·rw [if_pos h,if_pos X]
    ·rw [if_neg h]
     by_cases h2:q=i
     ·subst h2;rw [if_pos X]
      have:l.length≤q*c+k:=by omega
      simp [dig,List.getD,List.getElem?_eq_none this]
     ·rw [if_neg X]
 ·have hin:i=r:=by omega
  subst hin
  refine aV (av (av (aE (aa (ae (ai (FH (aI 0 Y Y) (a8 3 Y Y Y Y (FL ?_)))))))))
  refine aa (aG ?_)
  refine kb ⟨(bs,sv1,cap1),hlen,hsv⟩ Tryz.results47 (.cellW 3 Y Y ?_) ?_
  ·show VT.le _ (nv i c _)
   unfold nv
   exact VT.le_refl _
  ·refine .drop (.keep FG (.keep (i9 fun a b ha hb => ?_) (.drop .nil)))
   have:a<i:=by have:a<bs.length:=ha;omega
   simp [gP,this]
theorem pG {r c:Nat} (F:Nat→Nat→Int) (s:E3 r):Ent [kg s.1.2.1 s.1.2.2 r c s.1.1,iN c s.1.1 F] (nv r c s) (bO r c F):=by
 unfold nv bO
 exact Ent.agg (k9 s.2.1 ⟨by simp,by simp,by simp⟩)
theorem pH (r c:Nat) (l:List Int) (hr0:r≤16) (hc0:c≤16):Ok Tryz.prog 47 [one (.int .i64 r),one (.int .i64 c),gZ .i8 l] (bO r c (fun i j=>dig l (i*c+j))) :=
 (nX r c l hr0 hc0).ok fun s=>pG _ s
end Tor
end
section
namespace Tor
open Go Go.RowKit Go.Proofs
instance {neg:Bool} {l:List Nat} : Flat (nq neg l) (.agg 2):=by unfold nq;infer_instance
theorem vn {neg:Bool} {l:List Nat} {v:Value} {h:Hp} (FA:(nq neg l).p v h):l.length≤281474976710656:=by
 obtain ⟨c,_,_,_,h4⟩:=FA
 obtain ⟨x,_,hp⟩:=h4 _ (List.mem_cons_of_mem _ List.mem_cons_self)
 exact fB hp
theorem ql {r c:Int} {a:List vm} {v:Value} {h:Hp} (FA:(mO r c a).p v h):a.length≤2^48:=by
 obtain ⟨c,_,_,_,h4⟩:=FA
 obtain ⟨x,_,hp⟩:=h4 _ (List.mem_cons_of_mem _ (List.mem_cons_of_mem _ List.mem_cons_self))
 exact fB hp
def pI (r c:Nat) (F:Nat→Nat→Int):List vm:=(tab r c F).map (·.map nW)
theorem Am (r c:Nat) (F:Nat→Nat→Int):VT.le (bO r c F) (mO r c (pI r c F)):=by
 refine VT.le_trans (Ai r c F) ?_
 unfold Eb mO
 refine fL (fun q hq => ?_)
 rcases List.mem_cons.1 hq with rfl | hq
 ·exact ⟨_,List.mem_cons_self,S⟩
 rcases List.mem_cons.1 hq with rfl | hq
 ·exact ⟨_,List.mem_cons_of_mem _ List.mem_cons_self,S⟩
 rcases List.mem_cons.1 hq with rfl | hq
 ·refine ⟨_,List.mem_cons_of_mem _ (List.mem_cons_of_mem _ List.mem_cons_self),?_⟩
  unfold Ag eO pI
  refine VT.le_trans (dE (ψ:=fun i=>fW (((tab r c F).map (·.map nW)).getD i [])) (fun i hi => ?_)) (fK (by simp))
  refine VT.le_trans (Ah _) (fK ?_)
  simp [List.getD,List.getElem?_eq_getElem hi]
 ·cases hq
theorem vo (r c:Nat) (F:Nat→Nat→Int):jP r c (pI r c F)=true:=by
 unfold jP pI
 simp only [List.length_map,tab_length,Bool.and_eq_true,decide_eq_true_eq,List.all_map]
 refine ⟨⟨by omega,by omega,FM⟩,?_⟩
 rw [List.all_eq_true]
 intro x hx
 simp only [tab,List.mem_map,List.mem_range] at hx
 obtain ⟨i,hi,rfl⟩:=hx
 simp only [kF,Function.comp,List.length_map,List.length_range,List.all_map,Bool.and_eq_true,decide_eq_true_eq]
 refine ⟨trivial,?_⟩
 rw [List.all_eq_true]
 intro y hy
 exact vk _
attribute [local irreducible] J PJ aM one slT bW bH bj exT cn eP aX aH slV VT.le Ret bP
theorem An (neg:Bool) (l:List Nat):Ok Tryz.prog 124 [nq neg l] (one (.bool (kB neg l))):=by
 refine Ok.enter Tryz.func124 Y Tryz.ntmps124 Y (fun w O => ?_)
 refine jE (t:=0) Y (fun _ _=>vn) (fun hl => ?_)
 unfold nq
 by_cases h0:l.length=0
 ·refine ae (ai ?_)
  refine aQ Y Y (ltN Y) (fun b => ?_)
  refine FJ Y (FL (aa (ae (ae (ai (FH (aj Y) (FH (ak 0 Y Y Y) (FH (aY Y) (FJ Y ?_)))))))))
  refine FL (aa (ae (ai (FI Y (FH (cU Y Y) (FL (aa ?_)))))))
  refine bm Y (fun hc => ?_) (fun hc => ?_) <;> simp only [decide_eq_true_eq,decide_eq_false_iff_not,ne_eq,Decidable.not_not] at hc
  ·omega
  ·refine aw (aa (ae (ai (FH (aj Y) (FH (ak 0 Y Y Y) (FH (dk Y) (FJ Y (FL (aa ?_)))))))))
   refine aG ?_
   exact aT Tryz.results124 (.tmp Y (ar (by unfold kB;rw [if_pos h0])))
 ·refine ae (ai ?_)
  refine aQ Y Y (ltN Y) (fun b => ?_)
  refine FJ Y (FL (aa (ae (ae (ai (FH (aj Y) (FH (ak 0 Y Y Y) (FH (aY Y) (FJ Y ?_)))))))))
  refine FL (aa (ae (ai (FI Y (FH (cU Y Y) (FL (aa ?_)))))))
  refine bm Y (fun hc => ?_) (fun hc => ?_) <;> simp only [decide_eq_true_eq,decide_eq_false_iff_not,ne_eq,Decidable.not_not] at hc
  ·refine ae (ai (FH (aj Y) (FH (ak 0 Y Y Y) (FI Y ?_))))
   (refine FH (d4 Y Y (aR ?_ ?_)) ?_;omega;omega)
   (refine FH (im Y Y ?_ ?_) ?_;omega;omega)
   refine FH (aN Y) (FH (dj Y Y) (FJ Y (FL (aa (aG (aS ?_))))))
   refine aT Tryz.results124 (.tmp Y (ar ?_))
   have e:(↑l.length - 1:Int).toNat=l.length - 1:=by omega
   unfold kB;rw [if_neg h0,e]; congr 1;rw [decide_eq_decide]; omega
  ·omega
attribute [local irreducible] aO nq
attribute [local irreducible] fW
theorem tS (r c:Int) (a:List vm):Ok Tryz.prog 77 [mO r c a] (one (.bool (jP r c a))):=by
 refine Ok.enter Tryz.func77 Y Tryz.ntmps77 Y (fun w O => ?_)
 refine jE (t:=0) Y (fun _ _=>ql) (fun ha => ?_)
 unfold mO
 unfold eO
 refine ae (ai ?_)
 refine aQ Y Y (ltN Y) (fun b => ?_)
 refine FJ Y (FL (aa (ae (ae (ai (FH (aj Y) (FH (ak 0 Y Y Y) (FH (a6 Y Y) (FI Y ?_)))))))))
 refine oN (t:=10) Y (fun bo hb => ?_)
 rw [hb]
 cases bo
 ·have e1:0≤r:=by simpa using hb
  refine FK (aj Y) (FK (ak 0 Y Y Y) (FK (a6 Y Y) (FH (bG Y Y) (FI Y ?_))))
  refine oN (t:=15) Y (fun bo hb2 => ?_)
  rw [hb2]
  cases bo
  ·have e2:0≤c:=by simpa using hb2
   refine FK (aj Y) (FK (ak 0 Y Y Y) (FK (aY Y) (FK (aj Y) (FK (ak 0 Y Y Y) (FK (dj Y Y) (FH (bG Y Y) (FL (aa ?_))))))))
   refine bm Y (fun hc => ?_) (fun hc => ?_) <;> simp only [decide_eq_true_eq,decide_eq_false_iff_not,ne_eq,Decidable.not_not] at hc
   ·refine ae (ai (FJ Y (FL (aa (aG (aS ?_))))))
    refine aT Tryz.results77 (.tmp Y (ar ?_))
    simp [jP,hc]
   ·have e3:(a.length:Int)=r:=hc
    refine aw (aa (ae (ae (ai (FH (aj Y) (FH (ak 0 Y Y Y) (FH (aY Y) (FI Y (FL ?_)))))))))
    refine aa (au ?_)
    refine cO (σ:=Nat) (fun i => [(1,one (.pointer (some ⟨b,0,none⟩))),(24,eO a),(25,one (.int .i64 a.length)),(26,one (.int .i64 (i:Nat)))])
     (fun _ => [aX b 30 3 [(0, .one,one (.int .i64 r)),(1, .one,one (.int .i64 c)),(2, .one,eO a)]])
     (fun i=>i≤a.length∧(a.take i).all (kF c)=true) (fun i=>a.length - i) 0 ⟨Nat.zero_le _,rfl⟩ FE (SubM.refl _) (fun i ⟨hi,ht⟩ => ?_)
    unfold eO
    refine ae (ai (FH (a6 Y Y) (FL (aa (ae ?_)))))
    refine bm Y (fun hc => ?_) (fun hc => ?_) <;> simp at hc
    ·refine aw (aa (ae (au (ae (ai ?_)))))
     (refine FH (aC Y Y ?_) ?_;omega)
     refine FH (aN Y) (FJ Y (FL (aa (ae (ae (ai (FI Y ?_)))))))
     unfold fW
     refine FH (aY Y) (FH (aj Y) (FH (ak 0 Y Y Y) (FH (dj Y Y) (FL (aa ?_)))))
     refine bm Y (fun hc2 => ?_) (fun hc2 => ?_) <;> simp only [decide_eq_true_eq,decide_eq_false_iff_not,ne_eq,Decidable.not_not] at hc2
     ·refine ae (ai (FJ Y (FL (aa (aG (aS (bJ (aS (aS ?_)))))))))
      refine bJ (aS ?_)
      refine aT Tryz.results77 (.tmp Y (ar ?_))
      have:=vl (p:=kF c) (d := []) hc (by simp only [kF,Bool.and_eq_false_iff]; left;simpa using hc2)
      simp [jP,this]
     ·refine jE (t:=29) Y (fun _ _=>fB) (fun hlb => ?_)
      refine aw (aa (ae (ai (FI Y (FH (aY Y) (FI Y (FL (aa (au ?_)))))))))
      refine cO (σ:=Nat) (fun j => [(1,one (.pointer (some ⟨b,0,none⟩))),(24,eO a),(25,one (.int .i64 a.length)),(26,one (.int .i64 (i:Nat))),(35,fW (a.getD i [])),(36,one (.int .i64 (a.getD i []).length)),(37,one (.int .i64 (j:Nat)))])
       (fun _ => [aX b 30 3 [(0, .one,one (.int .i64 r)),(1, .one,one (.int .i64 c)),(2, .one,eO a)]])
       (fun j=>j≤(a.getD i []).length∧((a.getD i []).take j).all (fun p=>kB p.1 p.2)=true) (fun j=>(a.getD i []).length - j) 0 ⟨Nat.zero_le _,rfl⟩ (by unfold eO fW;repeat (first | exact dV.nil | refine dV.cons Y S ?_ | (refine dV.cons Y (ar ?_) ?_;(congr 1;first | omega | (simp;omega) | simp)))) (by unfold eO fW;exact SubM.refl _) (fun j ⟨hj,hu⟩ => ?_)
      unfold eO fW
      refine ae (ai (FH (a6 Y Y) (FL (aa (ae ?_)))))
      refine bm Y (fun hc3 => ?_) (fun hc3 => ?_) <;> simp only [decide_eq_true_eq,decide_eq_false_iff_not,Int.ofNat_lt] at hc3
      ·refine aw (aa (ae (au (ae (ai ?_)))))
       (refine FH (aC Y Y ?_) ?_;omega)
       refine FH (aN Y) ?_
       refine aJ (T:=37) Y (ltN Y) (fun b => ?_)
       refine aB 0 Y Y Y Y Y (leN Y) Y (FL (aa (ae (ai (FH (ak 0 Y Y Y) ?_)))))
       refine FH (am (An ((a.getD i []).getD j (false, [])).1 ((a.getD i []).getD j (false, [])).2) Y ⟨S,FM⟩) ?_
       refine FH (dk Y) (FL (aa ?_))
       refine bm Y (fun hc4 => ?_) (fun hc4 => ?_)
       ·refine ae (ai (FJ Y (FL (aa (aG (bJ (aS (aS (bJ ?_)))))))))
        refine bJ (aS (aS (bJ (aS ?_))))
        refine aT Tryz.results77 (.tmp Y (ar ?_))
        have h1:=vl (p:=fun p:Bool × List Nat=>kB p.1 p.2) (d:=(false, [])) (v:=a.getD i []) hc3 (by simpa using hc4)
        have h2:=vl (p:=kF c) (d := []) hc (by simp only [kF,Bool.and_eq_false_iff]; right;exact h1)
        simp [jP,h2]
       ·refine aw (aF (aa (ai ?_)))
        (refine FH (cA Y Y (aR ?_ ?_)) ?_;omega;omega)
        refine FI Y (FL ?_)
        exact ci (s:=j) (j+1) ⟨by omega,wO (d:=(false, [])) hu hc3 (by simpa using hc4)⟩ (by show (a.getD i []).length - (j+1)<(a.getD i []).length - j;omega) FE (.drop (SubM.refl _))
      ·refine aV (av (av (aE (aF (aa (ai ?_))))))
       (refine FH (cA Y Y (aR ?_ ?_)) ?_;omega;omega)
       refine FI Y (FL ?_)
       rw [List.take_of_length_le X] at hu
       exact ci (s:=i) (i+1) ⟨by omega,wO (d := []) ht hc (by simp only [kF,Bool.and_eq_true]; exact ⟨by simpa using hc2,hu⟩)⟩ (by show a.length - (i+1)<a.length - i;omega) FE (SubM.refl _)
    ·refine aV (av (av (aE (aa (ae (ai (FJ Y (FL (aa ?_)))))))))
     refine aG ?_
     refine aT Tryz.results77 (.tmp Y (ar ?_))
     rw [List.take_of_length_le X] at ht
     simp [jP,ht,e1,e2,e3]
  ·have e2 : ¬ (0≤r∧0≤c):=by simp at hb2;omega
   refine sg0 Y Y Y Y (sg0 Y Y Y Y (sg0 Y Y Y Y (sg0 Y Y Y Y (sg0 Y Y Y Y (sg0 Y Y Y Y (FH (a5 Y Y) (FL (aa ?_))))))))
   refine bm Y (fun hc => ?_) (fun hc => ?_)
   ·refine ae (ai (FJ Y (FL (aa (aG (aS ?_))))))
    refine aT Tryz.results77 (.tmp Y (ar ?_))
    simp only [jP]; rw [decide_eq_false X]; rfl
   ·cases hc
 ·have e1 : ¬ 0≤r:=by simpa using hb
  refine sg0 Y Y Y Y (sg0 Y Y Y Y (sg0 Y Y Y Y (FH (a5 Y Y) (FI Y (sg0 Y Y Y Y (sg0 Y Y Y Y (sg0 Y Y Y Y (sg0 Y Y Y Y (sg0 Y Y Y Y ?_)))))))))
  refine sg0 Y Y Y Y (FH (a5 Y Y) (FL (aa ?_)))
  refine bm Y (fun hc => ?_) (fun hc => ?_)
  ·refine ae (ai (FJ Y (FL (aa (aG (aS ?_))))))
   refine aT Tryz.results77 (.tmp Y (ar ?_))
   simp [jP,e1]
  ·cases hc
end Tor
end
section
namespace Tor
open Go Go.RowKit Go.Proofs
def wP (φ ψ:VT):VT:=slT (.agg 3) 2 (fun i=>if i=0 then φ else ψ)
theorem tT {φ ψ:VT} : VT.le (slT (.agg 3) 2 (fun q => [φ, ψ].getD q bP)) (wP φ ψ):=by
 unfold wP
 refine dE fun i hi => ?_
 rcases i with _ | _ | i
 ·exact VT.le_refl _
 ·exact VT.le_refl _
 ·omega
instance {r c:Nat} {F:Nat→Nat→Int} : Flat (bO r c F) (.agg 3):=by unfold bO;infer_instance
attribute [local irreducible] J PJ aM one slT bW bH bj exT cn eP aX aH slV VT.le Ret bP
attribute [local irreducible] aO bO
theorem fX (r c:Nat) (F:Nat→Nat→Int):Ok Tryz.prog 77 [bO r c F] (one (.bool true)):=by
 have h:=tS r c (pI r c F)
 rw [vo] at h
 exact h.le ⟨Am r c F,FM⟩ S
theorem qV (ra ca:Nat) (F:Nat→Nat→Int) (rb cb:Nat) (G:Nat→Nat→Int):Ok Tryz.prog 82 [wP (bO ra ca F) (bO rb cb G)] (one (.bool true)):=by
 unfold wP
 refine Ok.enter Tryz.func82 Y Tryz.ntmps82 Y (fun w O => ?_)
 refine ae (ai (FJ Y (FL (aa (ae (ae (ai (FI Y (FH (aY Y) ?_)))))))))
 refine FI Y (FL (aa (au ?_)))
 refine cO (σ:=Nat) (fun i => [(5,slT (.agg 3) 2 (fun i=>if i=0 then bO ra ca F else bO rb cb G)),(6,one (.int .i64 (2:Nat))),(7,one (.int .i64 (i:Nat)))]) (fun _ => []) (fun i=>i≤2) (fun i=>2 - i) 0 (Nat.zero_le _) FE (SubM.refl _) (fun i hi => ?_)
 refine ae (ai (FH (a6 Y Y) (FL (aa (ae ?_)))))
 refine bm Y (fun hc => ?_) (fun hc => ?_) <;> simp only [decide_eq_true_eq,decide_eq_false_iff_not,ne_eq,Decidable.not_not] at hc
 ·have h2:i<2:=by omega
  have hF:Flat (if i=0 then bO ra ca F else bO rb cb G) (.agg 3):=by split <;> infer_instance
  refine aw (aa (ae (au (ae (ai ?_)))))
  (refine FH (aC Y Y ?_) ?_;omega)
  refine FH (aN Y) ?_
  refine bF (T:=30) Y Y Y (fun b => ?_)
  refine kv 0 Y Y Y Y (FL (aa (ae (ai (FH (ak 0 Y Y Y) ?_)))))
  have hcall:Ok Tryz.prog 77 [if i=0 then bO ra ca F else bO rb cb G] (one (.bool true)):=by
   split
   ·exact fX _ _ _
   ·exact fX _ _ _
  refine FH (am hcall Y ⟨S,FM⟩) ?_
  refine FH (dk Y) (FL (aa ?_))
  refine bm Y (fun hc2 => ?_) (fun hc2 => ?_)
  ·cases hc2
  ·refine aw (aF (aa (ai ?_)))
   (refine FH (cA Y Y (aR ?_ ?_)) ?_;omega;omega)
   refine FI Y (FL ?_)
   exact ci (s:=i) (i+1) (show _ from by omega) (by show 2 - (i+1)<2 - i;omega) FE (.drop .nil)
 ·refine aV (av (av (aE (aa (ae (ai (FJ Y (FL (aa ?_)))))))))
  refine aG ?_
  exact aT Tryz.results82 (.tmp Y S)
end Tor
end
section
namespace Tor
open Go Go.RowKit Go.Proofs
attribute [local irreducible] J PJ aM one slT bW bH bj exT cn eP aX aH slV VT.le Ret bP
theorem Ao (x:Int) (hx:bE x):Ok Tryz.prog 129 [aO x] (aO x):=by
 unfold aO
 refine Ok.enter Tryz.func129 Y Tryz.ntmps129 Y (fun w O => ?_)
 refine ae (ai ?_)
 refine aQ Y Y (ltN Y) (fun b => ?_)
 refine aJ (T:=37) Y (ltN Y) (fun b => ?_)
 refine FL (aa (ae (be 6 a4 Z U (FH (aj Y) (FH (ak 1 Y Y Y) (FH (aj Y) (FH (ak 1 Y Y Y) ?_)))))))
 refine FH (am (kD _ hx) Y ⟨S,FM⟩) ?_
 refine stB Y Y Y (BuildK.cons Y Y Y (BuildK.cons Y Y Y (BuildK.nil (FL (aB 0 Y Y Y Y Y (leN Y) Y (FL (aa (aG ?_))))))))
 refine aT Tryz.results129 (.cellB 0 Y Y Y S)
attribute [local irreducible] aO
theorem qW (n m:Nat) (f g:Nat→Int) (hn:n≤1048576) (hm:m≤1048576) (hf : ∀ i,bE (f i)) (hg : ∀ i,bE (g i)):Ok Tryz.prog 83 [bw n f,bw m g] (bw (n+m) (fun k=>if k<n then f k else g (k - n))):=by
 unfold bw
 refine Ok.enter Tryz.func83 Y Tryz.ntmps83 Y (fun w O => ?_)
 refine ae (ai (FJ Y (FL (aa (ae (ai (FI Y (FH (aY Y) (FI Y ?_)))))))))
 refine FH (aY Y) ?_
 (refine FH (cA Y Y (aR ?_ ?_)) ?_;omega;omega)
 refine bY 0 (n+m) Y Y Y (by simp) (Nat.zero_le _) Y Y X Y Y (fun bz => ?_)
 refine FJ Y (FL (aa (ae (ae (ai (FI Y (FH (aY Y) (FI Y (FL ?_)))))))))
 refine aa (au ?_)
 refine cO (σ:=Nat × Option Nat × Nat) (fun s => [(1,slT (.agg 2) m (fun j=>aO (g j))),(5,one (slV s.2.1 s.1 s.2.2)),(16,slT (.agg 2) n (fun j=>aO (f j))),(17,one (.int .i64 n)),(18,one (.int .i64 (s.1:Nat)))])
  (fun s => [aH s.2.1 37 (.agg 2) s.2.2 s.1 (fun q=>aO (f q))]) (fun s=>s.1≤n) (fun s=>n - s.1) (0,some bz,n+m) (Nat.zero_le _) FE (.keep (a7 fun q hq=>by omega) .nil) (fun s hs => ?_)
 obtain ⟨k,sv0,cap0⟩:=s
 simp only at hs ⊢
 refine ae (ai (FH (a6 Y Y) (FL (aa (ae ?_)))))
 refine bm Y (fun hc => ?_) (fun hc => ?_) <;> simp only [decide_eq_true_eq,decide_eq_false_iff_not,ne_eq,Decidable.not_not] at hc
 ·refine aw (aa (ae (au (ae (ai ?_)))))
  (refine FH (aC Y Y ?_) ?_;omega)
  refine FH (aN Y) ?_
  refine aJ (T:=37) Y (ltN Y) (fun b => ?_)
  refine aB 0 Y Y Y Y Y (leN Y) Y (FL (aa (ai (FI Y (FH (ak 0 Y Y Y) ?_)))))
  refine FH (am (Ao (f k) (hf k)) Y ⟨S,FM⟩) ?_
  refine eH Y Y Y Y ?_
  (refine cq 1 Y Y Y (leN Y) ?_ ?_ Y (ltN Y) (fun sv cap => ?_);omega;omega)
  refine FJ Y (FL (aF (aa (ai ?_))))
  (refine FH (cA Y Y (aR ?_ ?_)) ?_;omega;omega)
  refine FI Y (FL ?_)
  refine ci (s:=(k,sv0,cap0)) (k+1,sv,cap) (show _ from by simp only;omega) (by show n - (k+1)<n - k;omega) FE (.drop (.keep (a7 fun q hq => ?_) .nil))
  by_cases h:q<k
  ·rw [if_pos h]
  ·have:q=k:=by omega
   subst this;rw [if_neg h]
 ·have hk:k=n:=by omega
  subst hk
  refine aV (av (av (aE (aa (ae (ae (ai (FI Y (FH (aY Y) ?_)))))))))
  refine FI Y (FL (aa (au ?_)))
  refine cO (σ:=Nat × Option Nat × Nat) (fun s => [(5,one (slV s.2.1 (k+s.1) s.2.2)),(28,slT (.agg 2) m (fun j=>aO (g j))),(29,one (.int .i64 m)),(30,one (.int .i64 (s.1:Nat)))])
   (fun s => [aH s.2.1 37 (.agg 2) s.2.2 (k+s.1) (fun q=>aO (if q<k then f q else g (q - k)))]) (fun s=>s.1≤m) (fun s=>m - s.1) (0,sv0,cap0) (Nat.zero_le _) FE (.keep (a7 fun q hq=>by rw [if_pos hq]) .nil) (fun s hs => ?_)
  obtain ⟨j,sv1,cap1⟩:=s
  simp only at hs ⊢
  refine ae (ai (FH (a6 Y Y) (FL (aa (ae ?_)))))
  refine bm Y (fun hc2 => ?_) (fun hc2 => ?_) <;> simp only [decide_eq_true_eq,decide_eq_false_iff_not] at hc2
  ·refine aw (aa (ae (au (ae (ai ?_)))))
   (refine FH (aC Y Y ?_) ?_;omega)
   refine FH (aN Y) ?_
   refine aJ (T:=37) Y (ltN Y) (fun b => ?_)
   refine aB 0 Y Y Y Y Y (leN Y) Y (FL (aa (ai (FI Y (FH (ak 0 Y Y Y) ?_)))))
   refine FH (am (Ao (g j) (hg j)) Y ⟨S,FM⟩) ?_
   refine eH Y Y Y Y ?_
   (refine cq 1 Y Y Y (leN Y) ?_ ?_ Y (ltN Y) (fun sv cap => ?_);omega;omega)
   refine FJ Y (FL (aF (aa (ai ?_))))
   (refine FH (cA Y Y (aR ?_ ?_)) ?_;omega;omega)
   refine FI Y (FL ?_)
   refine ci (s:=(j,sv1,cap1)) (j+1,sv,cap) (show _ from by simp only;omega) (by show m - (j+1)<m - j;omega) FE (.drop (.keep (a7 fun q hq => ?_) .nil))
   by_cases h:q<k+j
   ·rw [if_pos h]
   ·have:q=k+j:=by omega
    subst this;rw [if_neg h,if_neg X]; simp
  ·have hk:j=m:=by omega
   subst hk
   refine aV (av (av (aE (aa (ae (ai (FI Y (FJ Y (FL ?_)))))))))
   refine aa (aG (bZ (t:=4) (i:=0) Y Y ?_))
   refine aT Tryz.results83 (.tmp Y S)
end Tor
end
