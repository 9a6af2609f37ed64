/-
  Theorems that the proofs of laws of this seat rest on.
  No condition.
-/
import Derived.Test.YtfaglimgjfhdfaaGreatZN1
import Derived.LoopN
set_option maxHeartbeats 20000000
set_option linter.unusedVariables false
set_option linter.unusedSimpArgs false
set_option linter.unusedSectionVars false
section
namespace Tor
open Go Go.RowKit
variable [Tor.Co.Kc]
section
variable {P:Program} {E:Env} {D:List Deferred} {Γ:Ctx} {M:Mem} {Q:Exit→Act→World→Prop}
variable {ops:Array Oper} {i:Nat} {ty:TypeId} {pos:String} {af:Array Edge} {os:List Oper} {K:List Deferred→Ctx→Mem→Prop} {d:Option Tmp} {gd:Option (Nat × Bool)} {dr:Bool} {op:Op}
/-! ### Guards -/
theorem sg1 {d t j:Nat} {want:Bool} {ψ:VT} (hg:eD ops ⟨some d,op,ty,pos,af,some (j,want)⟩=some (some t,want)) (hb:bt Γ t=some (one (.bool want))) (h:aC P E Γ M ⟨some d,op,ty,pos,af,some (j,want)⟩ ψ) (hd:Nat.ble (d+1) E.N=true)
  (hr:Run P E ops dr (i+1) D ((d, ψ) :: Γ) M os K):Run P E ops dr i D Γ M (⟨some d,op,ty,pos,af,some (j,want)⟩ :: os) K:=by
 refine .step (.guarded1 hg hb h Z (ltN hd)) hr
theorem _root_.Ce {P:Program} {E:Env} {D:List Deferred} {Γ:Ctx} {M:Mem} {ops:Array Oper} {i:Nat} {op:Op} {ty:TypeId} {pos:String} {af:Array Edge} {os:List Oper} {K:List Deferred→Ctx→Mem→Prop} {dr:Bool} {d t j:Nat} {want:Bool} {ψ:VT} (h:aC P E Γ M ⟨some d,op,ty,pos,af,some (j,want)⟩ ψ) (hr:Run P E ops dr (i+1) D ((d, ψ) :: Γ) M os K) (hg:eD ops ⟨some d,op,ty,pos,af,some (j,want)⟩=some (some t,want):=by exact rfl) (hb:bt Γ t=some (one (.bool want)):=by exact rfl) (hd:Nat.ble (d+1) E.N=true:=by exact rfl):Run P E ops dr i D Γ M (⟨some d,op,ty,pos,af,some (j,want)⟩ :: os) K:=sg1 hg hb h hd hr
theorem sg0 {d t j:Nat} {b want:Bool} (hg:eD ops ⟨some d,op,ty,pos,af,some (j,want)⟩=some (some t,want)) (hb:bt Γ t=some (one (.bool b))) (hne:(b == want)=false) (hd:Nat.ble (d+1) E.N=true)
  (hr:Run P E ops dr (i+1) D ((d,bQ) :: Γ) M os K):Run P E ops dr i D Γ M (⟨some d,op,ty,pos,af,some (j,want)⟩ :: os) K:=by
 refine .step (.guarded0 hg hb hne Z (ltN hd)) hr
theorem mq {t:Nat} {b:Bool} (ht:bt Γ t=some (one (.bool b))) (h : ∀ b',b=b'→Run P E ops dr i D Γ M os K):Run P E ops dr i D Γ M os K:=h b Z
theorem bh {c x y:Operand} {φ:VT} (hc:aB Γ c=some (one (.bool true))) (hx:aB Γ x=some φ):aC P E Γ M ⟨d, .pick c x y,ty,pos,af,gd⟩ φ :=
 aC.ofRun fun ac w hb hf=>by
  have hc':ac.eval c = .bool true:=hf c _ (by simp [Op.operands]) hc
  exact ⟨ac.eval x,by simp [execOp,hc',asBool],hf x _ (by simp [Op.operands]) hx⟩
theorem bT {c x y:Operand} {φ:VT} (hc:aB Γ c=some (one (.bool false))) (hy:aB Γ y=some φ):aC P E Γ M ⟨d, .pick c x y,ty,pos,af,gd⟩ φ :=
 aC.ofRun fun ac w hb hf=>by
  have hc':ac.eval c = .bool false:=hf c _ (by simp [Op.operands]) hc
  exact ⟨ac.eval y,by simp [execOp,hc',asBool],hf y _ (by simp [Op.operands]) hy⟩
/-! ### Results -/
inductive ResOk (P:Program) (Γ:Ctx) (M:Mem):ResultVar→VT→Prop
 | tmp {t : Nat} {φ ψ : VT} : bt Γ t = some φ → VT.le φ ψ → ResOk P Γ M (.tmp t) ψ
 | cellB {t b m : Nat} {T T' : TypeId} {L : Lay} {cs : bW} {φ ψ : VT} (i : Nat) [LayOf P T L] : bt Γ t = some (one (.pointer (some ⟨b, 0, none⟩))) → M[i]? = some (aT b T' m cs) → fP cs 0 = some (L, φ) → VT.le φ ψ → ResOk P Γ M (.cell t T) ψ
 | cellW {t b m : Nat} {T T' : TypeId} {cs : bW} {ψ : VT} (i : Nat) [LayOf P T (.agg m)] : bt Γ t = some (one (.pointer (some ⟨b, 0, none⟩))) → M[i]? = some (aT b T' m cs) → VT.le (bE m cs) ψ → ResOk P Γ M (.cell t T) ψ
def nv (tmps:Array Value):ResultVar→Sem Value
 | .tmp t => pure (tmps.getD t undef)
 | .cell c t => do loadVar t (← asAddr (tmps.getD c undef))
theorem fe (fn:Func) (tmps:Array Value):results fn tmps=(do
  let vs ← fn.results.mapM (nv tmps)
  pure (if h:vs.size=1 then vs[0] else .tuple vs)):=rfl
theorem ResOk.run {r:ResultVar} {ψ:VT} (h:ResOk P Γ M r ψ) {a:Act} {w:World} (hS:St E D Γ M a w) :
  ∃ v,(nv a.tmps r).run P w = .ok v w∧ψ.p v (hv E M w):=by
 cases h with
 | tmp h1 h2 => exact ⟨_, rfl, h2 _ _ (hS.tm _ _ h1)⟩
 | @cellB t b m T T' L cs φ _ i hL h1 h2 h3 h4 =>
  have e:a.tmps.getD t undef = .pointer (some ⟨b,0,none⟩):=hS.tm _ _ h1
  obtain ⟨c,hc,_,_,hcs⟩:=dA hS.base h2
  obtain ⟨v,hv',hp⟩:=hcs _ (dU h3)
  refine ⟨v,?_,h4 _ _ hp⟩
  simp only [nv,e,asAddr,Sem.run_bind,Sem.run_pure,Result.andThen_ok,dk hc hv']
 | @cellW t b m T T' cs _ i hL h1 h2 h3 =>
  have e:a.tmps.getD t undef = .pointer (some ⟨b,0,none⟩):=hS.tm _ _ h1
  obtain ⟨c,hc,hs,ha,hcs⟩:=dA hS.base h2
  have hx':bP (.agg m) c 0=some (.agg c):=by simp [bP, ← hs]
  refine ⟨.agg c,?_,h3 _ _ ⟨c,rfl,hs,ha,hcs⟩⟩
  simp only [nv,e,asAddr,Sem.run_bind,Sem.run_pure,Result.andThen_ok,dk hc hx']
theorem lg {w:World} {ψ:VT} {v:Value} (h:ψ.p v (hv E M w)):ψ.p v (hid E.O (view w)):=ψ.mono (lX fun b hb=>List.mem_append.2 (.inl hb)) h
theorem aV {w0:World} {O:List Nat} {N:Nat} {fn:Func} {r:ResultVar} {ψ:VT} (hr:fn.results = #[r]) (h:ResOk P Γ M r ψ) :
  PJ ⟨w0,O, [],N,none⟩ [] Γ M .ret (cG P fn (Ret O ψ w0)):=by
 intro a w hS
 refine ⟨hS.df,fun w₁ hw₁ => ?_⟩
 replace hS:=hS.ext hw₁
 obtain ⟨v,h1,h2⟩:=h.run hS
 refine ⟨v,?_,v,rfl,lg h2,hS.ret⟩
 have hm:(fn.results.mapM (nv a.tmps)).run P w₁ = .ok #[v] w₁:=by rw [hr]; simp [h1]
 rw [fe,Sem.run_bind,hm]; rfl
theorem db {w0:World} {O:List Nat} {N:Nat} {fn:Func} {r r':ResultVar} {ψ ψ':VT} (hr:fn.results = #[r,r']) (h:ResOk P Γ M r ψ) (h':ResOk P Γ M r' ψ') :
  PJ ⟨w0,O, [],N,none⟩ [] Γ M .ret (cG P fn (Ret O (bw [ψ, ψ']) w0)):=by
 intro a w hS
 refine ⟨hS.df,fun w₁ hw₁ => ?_⟩
 replace hS:=hS.ext hw₁
 obtain ⟨v,h1,h2⟩:=h.run hS
 obtain ⟨v',h1',h2'⟩:=h'.run hS
 refine ⟨.tuple #[v,v'],?_,_,rfl,⟨[_,_],rfl,lg h2,lg h2',Cg⟩,hS.ret⟩
 have hm:(fn.results.mapM (nv a.tmps)).run P w₁ = .ok #[v,v'] w₁:=by rw [hr]; simp [h1,h1']
 rw [fe,Sem.run_bind,hm]; rfl
theorem vX {w0:World} {O:List Nat} {N:Nat} {fn:Func} {r r' r'':ResultVar} {ψ ψ' ψ'':VT} (hr:fn.results = #[r,r',r'']) (h:ResOk P Γ M r ψ) (h':ResOk P Γ M r' ψ') (h'':ResOk P Γ M r'' ψ'') :
  PJ ⟨w0,O, [],N,none⟩ [] Γ M .ret (cG P fn (Ret O (bw [ψ, ψ', ψ'']) w0)):=by
 intro a w hS
 refine ⟨hS.df,fun w₁ hw₁ => ?_⟩
 replace hS:=hS.ext hw₁
 obtain ⟨v,h1,h2⟩:=h.run hS
 obtain ⟨v',h1',h2'⟩:=h'.run hS
 obtain ⟨v'',h1'',h2''⟩:=h''.run hS
 refine ⟨.tuple #[v,v',v''],?_,_,rfl,⟨[_,_,_],rfl,lg h2,lg h2',lg h2'',Cg⟩,hS.ret⟩
 have hm:(fn.results.mapM (nv a.tmps)).run P w₁ = .ok #[v,v',v''] w₁:=by rw [hr]; simp [h1,h1',h1'']
 rw [fe,Sem.run_bind,hm]; rfl
/-! ### Struct literals -/
class BuildOf (P:Program) (T:TypeId) (m:outParam Nat) (z:outParam (Array Value)) (pl:outParam (List (Nat × Lay))):Prop where
 zero : ∀ w,(zeroValue T).run P w = .ok (.agg z) w
 zs:z.size=m
 zo:z.all (·.oneCell')=true
 run : ∀ (parts:Array (Nat × Value)) (cells:Array Value) (w:World),Instr.fill (fun i=>(pl[i]?).map fun q=>(q.1,q.2.sz)) z parts.toList=some cells →
  (Instr.build T parts).run P w = .ok (.agg cells) w
def dJ (z:Array Value):List (Nat × Lay)→bW
 | [] => []
 | (o, L) :: r => (o, L, match bP L z o with | some v => one v | none => bQ) :: dJ z r
inductive BuildOk (Γ:Ctx) (pl:List (Nat × Lay)):bW→List (Nat × Operand)→bW→Prop
 | nil {C} : BuildOk Γ pl C [] C
 | cons {C i x r C' o L φ χ} [hF : Flat φ L] : pl[i]? = some (o, L) → aB Γ x = some φ → fP C o = some (L, χ) → BuildOk Γ pl (kf C o φ) r C' → BuildOk Γ pl C ((i, x) :: r) C'
theorem ip (v:Array Value) (off:Nat) (c:Array Value) (h:off+v.size≤c.size):v.zipIdx.foldl (fun cs (x,j)=>cs.setIfInBounds (off+j) x) c=ct c off v:=by
 have key : ∀ (l:List Value) (k:Nat) (c:Array Value),off+k+l.length≤c.size→(l.zipIdx k).foldl (fun cs (x:Value × Nat)=>cs.setIfInBounds (off+x.2) x.1) c=ct c (off+k) l.toArray:=by
  intro l
  induction l with
  | nil => intro k c h; apply Array.ext_getElem?; intro j; rw [dT (by simp at h ⊢; omega), if_neg (by simp only [List.size_toArray, List.length_nil]; omega)]; rfl
  | cons x l ih =>
   intro k c h
   simp only [List.length_cons] at h
   simp only [List.zipIdx_cons,List.foldl_cons]
   rw [ih (k+1) _ (by simp;omega)]
   apply Array.ext_getElem?; intro j
   have q1:off+(k+1)+l.toArray.size≤(c.setIfInBounds (off+k) x).size:=by simp only [List.size_toArray,Array.size_setIfInBounds]; omega
   have q2:off+k+(x :: l).toArray.size≤c.size:=by simp only [List.size_toArray,List.length_cons]; omega
   rw [dT q1,dT q2]
   simp only [List.size_toArray,List.length_cons]
   by_cases hj:j=off+k
   ·have hlt:off+k<c.size:=by omega
    subst hj;rw [if_neg X,if_pos X,Nat.sub_self]; simp [hlt]
   ·by_cases h2:off+(k+1)≤j∧j<off+(k+1)+l.length
    ·rw [if_pos h2,if_pos X]
     rw [show j - (off+k)=(j - (off+(k+1)))+1 by omega]; simp
    ·rw [if_neg h2,if_neg X]; simp [Ne.symm hj]
 have:=key v.toList 0 c (by simpa using h)
 simp only [Nat.add_zero,Array.toArray_toList] at this
 rw [← this, ← Array.foldl_toList,Array.toList_zipIdx]
theorem rO : ∀ {C:bW} {o:Nat} {φ:VT},eV C=true→eV (kf C o φ)=true:=by
 have hall : ∀ (C:bW) (o:Nat) (φ:VT) (p:Nat→Lay→Bool),(kf C o φ).all (fun q=>p q.1 q.2.1)=C.all (fun q=>p q.1 q.2.1):=by
  intro C o φ p
  induction C with
  | nil => rfl
  | cons q C ih =>
   obtain ⟨k,l,v⟩:=q
   rw [kf]; cases h:Nat.beq k o
   ·simp only [cond_false,List.all_cons,ih]
   ·simp only [cond_true,List.all_cons]
 intro C
 induction C with
 | nil => intro o φ h; rfl
 | cons q C ih =>
  obtain ⟨k,l,v⟩:=q
  intro o φ h
  simp only [eV,Bool.and_eq_true] at h
  rw [kf]; cases hk:Nat.beq k o
  ·simp only [cond_false,eV,Bool.and_eq_true]
   exact ⟨by rw [hall C o φ (fun a b=>decide (k+l.sz≤a) || decide (a+b.sz≤k))]; exact h.1,ih h.2⟩
  ·simp only [cond_true,eV,Bool.and_eq_true]; exact h
theorem ki {z:Array Value} {h:Hp} : ∀ {pl:List (Nat × Lay)},(pl.all fun q=>(bP q.2 z q.1).isSome)=true→gk (dJ z pl) z h
 | [], _, q, hq => by cases hq
 | (o, L) :: r, ha, q, hq => by
  simp only [List.all_cons,Bool.and_eq_true] at ha
  rw [dJ] at hq
  rcases List.mem_cons.1 hq with rfl | hq
  ·obtain ⟨v,hv⟩:=Option.isSome_iff_exists.1 ha.1
   simp only at hv ⊢; rw [hv]; exact ⟨v,rfl,rfl⟩
  ·exact ki ha.2 q hq
theorem pY {a:Act} {h:Hp} {pl:List (Nat × Lay)} {m:Nat} : ∀ {C C':bW} {parts:List (Nat × Operand)} {c:Array Value},BuildOk Γ pl C parts C'→(∀ x φ,x∈parts.map (·.2)→aB Γ x=some φ→φ.p (a.eval x) h) →
  (∀ q∈pl,q.1+q.2.sz≤m)→c.size=m→c.all (·.oneCell')=true→eV C=true→gk C c h →
  ∃ c',Instr.fill (fun i=>(pl[i]?).map fun q=>(q.1,q.2.sz)) c (parts.map fun (i,x)=>(i,a.eval x))=some c'∧c'.size=m∧c'.all (·.oneCell')=true∧gk C' c' h
 | C, _, [], c, .nil, _, _, hs, ho, _, hc => ⟨c, rfl, hs, ho, hc⟩
 | C, C', (i, x) :: r, c, .cons (o := o) (L := L) (φ := φ) (hF := hF) h1 h2 h3 h4, hf, hpl, hs, ho, hap, hc => by
  have hp:=hf x φ (by simp) h2
  obtain ⟨f1,f2,f3⟩:=hF.ok _ _ hp
  have hfit:=hpl _ (List.mem_of_getElem? h1)
  simp only at hfit
  have hle:o+(a.eval x).cells.size≤c.size:=by rw [f1,hs]; exact hfit
  obtain ⟨c',k1,k2,k3,k4⟩:=pY (c:=ct c o (a.eval x).cells) h4 (fun y ψ hy he=>hf y ψ (by simp at hy ⊢; exact .inr hy) he) hpl (by rw [cP hle]; exact hs) (im ho f2) (rO hap)
   (oF hle f1 (dN (by rw [hs]; exact hfit) f1 f3) hp hap h3 hc)
  refine ⟨c',?_,k2,k3,k4⟩
  simp only [List.map_cons,Instr.fill,h1,Option.map_some]
  rw [if_neg (by simp [f1,hs]; exact hfit),ip _ _ _ hle]
  exact k1
theorem oG {T:TypeId} {m:Nat} {z:Array Value} {pl:List (Nat × Lay)} [hB:BuildOf P T m z pl] {parts:Array (Nat × Operand)} {C:bW}
  (h:BuildOk Γ pl (dJ z pl) parts.toList C) (hz:(pl.all fun q=>(bP q.2 z q.1).isSome && decide (q.1+q.2.sz≤m))=true) (hap:eV (dJ z pl)=true) :
  aC P E Γ M ⟨d, .build T parts,ty,pos,af,gd⟩ (bE m C) :=
 aC.ofRun fun a w hb hf=>by
  have hz1:(pl.all fun q=>(bP q.2 z q.1).isSome)=true:=by
   rw [List.all_eq_true] at hz ⊢; intro q hq;have:=hz q hq;simp only [Bool.and_eq_true] at this;exact this.1
  have hz2 : ∀ q∈pl,q.1+q.2.sz≤m:=by
   rw [List.all_eq_true] at hz;intro q hq;have:=hz q hq;simp only [Bool.and_eq_true,decide_eq_true_eq] at this;exact this.2
  obtain ⟨c',k1,k2,k3,k4⟩:=pY (a:=a) (h:=hv E M w) h (fun x φ hx he=>hf x φ (by simpa [Op.operands] using hx) he) hz2 hB.zs hB.zo hap (ki hz1)
  refine ⟨.agg c',?_,c',rfl,k2,k3,k4⟩
  have hr:=hB.run (parts.map fun (i,x)=>(i,a.eval x)) c' w (by rw [Array.toList_map]; exact k1)
  simp only [execOp,Sem.run_bind,hr,Result.andThen_ok,Sem.run_pure]
/-! ### BuildOf from closed facts -/
def mr (P:Program) (T:TypeId):Option (List (Nat × Option Nat)) :=
 match P.underlying T with
 | some (.struct fs) => some (fs.toList.map fun f => (f.offset, (P.info? f.type).map (·.size)))
 | _ => none
theorem ms : ∀ (fs:List Field) (pl:List (Nat × Lay)) (w:World),fs.map (fun f=>(f.offset,(P.info? f.type).map (·.size)))=pl.map (fun q=>(q.1,some q.2.sz)) →
  (fs.mapM fun f=>(do pure (f.offset, ← Go.sizeOf f.type):Sem (Nat × Nat))).run P w = .ok (pl.map fun q=>(q.1,q.2.sz)) w
 | [], [], w, _ => by simp
 | [], _ :: _, w, h => by simp at h
 | _ :: _, [], w, h => by simp at h
 | f :: fs, q :: pl, w, h => by
  simp only [List.map_cons,List.cons.injEq,Prod.mk.injEq] at h
  have ih:=ms fs pl w h.2
  have hs:(Go.sizeOf f.type).run P w = .ok q.2.sz w:=by
   cases hi:P.info? f.type with
   | none => rw [hi] at h; simp at h
   | some i => rw [hi] at h; simp at h; simp [Go.sizeOf, Sem.run_bind, fS hi, h.1.2]
  simp only [List.mapM_cons,Sem.run_bind,hs,Result.andThen_ok,Sem.run_pure,ih,List.map_cons,h.1.1]
theorem BuildOf.by_struct {T:TypeId} {m by':Nat} {z:Array Value} {pl:List (Nat × Lay)} (hz:ZeroOf P T (.agg z) by') (hs:z.size=m) (ho:z.all (·.oneCell')=true)
  (h:mr P T=some (pl.map fun q=>(q.1,some q.2.sz))):BuildOf P T m z pl where
 zero:=fun w=>ZeroOf.run w
 zs:=hs
 zo:=ho
 run:=by
  intro parts cells w hfill
  unfold mr at h
  split at h
  ·rename_i fs hfs
   simp only [Option.some.injEq] at h
   have hp:=ms fs.toList pl w h
   have hp':(fs.mapM fun f=>(do pure (f.offset, ← Go.sizeOf f.type):Sem (Nat × Nat))).run P w = .ok (pl.map fun q=>(q.1,q.2.sz)).toArray w:=by
    rw [Array.mapM_eq_mapM_toList]
    show ((fs.toList.mapM fun f=>(do pure (f.offset, ← Go.sizeOf f.type):Sem (Nat × Nat))) >>= fun l=>pure l.toArray).run P w=_
    rw [Sem.run_bind,hp]; rfl
   have hz':=ZeroOf.run (P:=P) (T:=T) (z := .agg z) w
   unfold Instr.build
   simp only [Sem.run_bind,hz',Result.andThen_ok,aO hfs,hp',Value.cells]
   have e:(fun x=>(pl.map fun q=>(q.1,q.2.sz)).toArray[x]?)=fun (i:Nat)=>(pl[i]?).map fun (q:Nat × Lay)=>(q.1,q.2.sz):=by funext i;simp
   rw [e,hfill]; rfl
  ·cases h
theorem mu {f g:Nat→Option (Nat × Nat)} {m:Nat} (h : ∀ i,f i=g i∨(g i=none ∧ ∃ o s,f i=some (o,s)∧0<s∧m<o+s)) : ∀ (l:List (Nat × Value)) (c:Array Value),c.size=m→Instr.fill f c l=Instr.fill g c l
 | [], c, _ => rfl
 | (i, v) :: l, c, hc => by
  simp only [Instr.fill]
  rcases h i with h1 | ⟨h1,o,s,h2,h3,h4⟩
  ·rw [h1]
   cases g i with
   | none => rfl
   | some q =>
    obtain ⟨o,s⟩:=q
    simp only
    split
    ·rfl
    ·rename_i hh
     refine mu h l _ ?_
     rw [ip _ _ _ (by simp at hh;omega),cP (by simp at hh;omega)]; exact hc
  ·rw [h1,h2]; simp only
   rw [if_pos]
   simp only [ne_eq,Bool.or_eq_true,decide_eq_true_eq]
   by_cases hv:v.cells.size=s
   ·right;omega
   ·left;exact hv
theorem BuildOf.by_array {T e:TypeId} {n m by':Nat} {L:Lay} {z:Array Value} (hz:ZeroOf P T (.agg z) by') (hA:ArrayOf P T n e) (hL:LayOf P e L) (hs:z.size=m) (ho:z.all (·.oneCell')=true) (hm:n*L.sz=m) (h0:0<L.sz) :
  BuildOf P T m z ((List.range n).map fun i=>(i*L.sz,L)) where
 zero:=fun w=>ZeroOf.run w
 zs:=hs
 zo:=ho
 run:=by
  intro parts cells w hfill
  have hz':=ZeroOf.run (P:=P) (T:=T) (z := .agg z) w
  unfold Instr.build
  simp only [Sem.run_bind,hz',Result.andThen_ok,aO hA.und,cn (L:=L),Value.cells]
  rw [mu (g:=fun i=>(((List.range n).map fun i=>(i*L.sz,L))[i]?).map fun q=>(q.1,q.2.sz)) (m:=m) (fun i => ?_) _ _ hs]
  ·rw [hfill]; rfl
  ·rcases Nat.lt_or_ge i n with h | h
   ·left;simp [h]
   ·right
    refine ⟨by simp [List.getElem?_eq_none,h],i*L.sz,L.sz,rfl,h0,?_⟩
    have:=Nat.mul_le_mul_right L.sz h
    omega
end
end Tor
end
section
namespace Tor
open Go Go.RowKit
variable [Tor.Co.Kc]
section
variable {P:Program} {E:Env} {D:List Deferred} {Γ:Ctx} {M:Mem} {Q:Exit→Act→World→Prop}
variable {ops:Array Oper} {i:Nat} {ty:TypeId} {pos:String} {af:Array Edge} {os:List Oper} {K:List Deferred→Ctx→Mem→Prop} {d:Option Tmp} {gd:Option (Nat × Bool)} {dr:Bool} {op:Op}
theorem vY {L:Lay} {c:Array Value} {o:Nat} {x:Value} (h:bP L c o=some x):o+L.sz≤c.size:=by
  cases L with
  | one => have := (Array.getElem?_eq_some_iff.1 h).1; simp only [Lay.sz]; omega
  | agg n => simp only [bP] at h; split at h
             · assumption
             · cases h
theorem fC {L:Lay} {c c':Array Value} {o o':Nat} (h1:o+L.sz≤c.size) (h2:o'+L.sz≤c'.size) (h : ∀ j,j<L.sz→c[o+j]? = c'[o'+j]?):bP L c o=bP L c' o':=by
 cases L with
 | one => have := h 0 (by simp [Lay.sz]); rw [Nat.add_zero, Nat.add_zero] at this; exact this
 | agg n =>
  simp only [bP,Lay.sz] at *
  rw [if_pos h1,if_pos h2]
  congr 2
  apply Array.ext_getElem?; intro j
  rw [cI,cI]
  split
  ·rename_i hj;exact h j hj
  ·rfl
theorem rP {L:Lay} {c:Array Value} {o j:Nat} {x:Value} (h:bP L c o=some x) (hx:x.cells.all (·.oneCell')=true) (hs:x.cells.size=L.sz) (h0:bP L x.cells 0=some x) (hj:j<L.sz) : ∃ y,c[o+j]? = some y∧y.oneCell'=true:=by
 cases L with
 | one =>
  simp only [Lay.sz] at *
  have:j=0:=by omega
  subst this
  refine ⟨x,h,?_⟩
  simp only [bP] at h0
  exact (Array.all_eq_true_iff_forall_mem.1 hx) x (Array.mem_of_getElem? h0)
 | agg n =>
  simp only [bP,Lay.sz] at *
  split at h
  ·rename_i hle
   cases h
   simp only [Value.cells] at hx
   have e:=cI c o n j
   rw [if_pos hj] at e
   have hlt:o+j<c.size:=by omega
   refine ⟨c[o+j],by simp [hlt],?_⟩
   refine (Array.all_eq_true_iff_forall_mem.1 hx) _ (Array.mem_of_getElem? (i:=j) ?_)
   rw [e]; simp [hlt]
  ·cases h
theorem lM {L:Lay} {w:World} {h:Hp} (hle:Hp.le h (view w)) {a:Option Addr} {m cap:Nat} {ψ:Nat→VT} [hF : ∀ q,Flat (ψ q) L] (hsz:0<L.sz)
  (he : ∀ i,i<m → ∃ b o c T f x,a=some ⟨b,o,none⟩∧h b=some (c,T,f)∧bP L c (o+i*L.sz)=some x∧(ψ i).p x h) :
  ∃ new:Array Value,(Builtin.firstCells L.sz m (.slice a m cap)).run P w = .ok new w∧new.size=m*L.sz∧new.all (·.oneCell')=true ∧ ∀ i,i<m → ∃ x,bP L new (i*L.sz)=some x∧(ψ i).p x h:=by
 by_cases hm:m=0
 ·subst hm
  refine ⟨#[],?_,by simp,by simp,fun i hi=>by omega⟩
  cases a with
  | none => simp [Builtin.firstCells]
  | some ad => simp [Builtin.firstCells, loadCells, loadCellsFrom]
 ·obtain ⟨b,o,c,T,f,x0,rfl,hb,hx0,_⟩:=he 0 X
  have hc:view w b=some (c,T,f):=hle _ _ hb
  have hel : ∀ i,i<m → ∃ x,bP L c (o+i*L.sz)=some x∧(ψ i).p x h:=by
   intro i hi
   obtain ⟨b',o',c',T',f',x,h1,h2,h3,h4⟩:=he i hi
   simp only [Option.some.injEq,Addr.mk.injEq,and_true] at h1
   obtain ⟨rfl,rfl⟩:=h1
   rw [hb] at h2;cases h2
   exact ⟨x,h3,h4⟩
  have hcell : ∀ k,k<m*L.sz → ∃ y,c[o+k]? = some y∧y.oneCell'=true:=by
   intro k hk
   have hq:k / L.sz<m:=Nat.div_lt_of_lt_mul (by rw [Nat.mul_comm]; exact hk)
   obtain ⟨x,hx,hp⟩:=hel (k / L.sz) hq
   obtain ⟨f1,f2,f3⟩:=(hF (k / L.sz)).ok _ _ hp
   obtain ⟨y,hy,ho⟩:=rP (j:=k % L.sz) hx f2 f1 f3 (Nat.mod_lt _ hsz)
   refine ⟨y,?_,ho⟩
   have:o+k / L.sz*L.sz+k % L.sz=o+k:=by
    have:=Nat.div_add_mod k L.sz;rw [Nat.mul_comm] at this;omega
   rw [this] at hy;exact hy
  have hfit:o+m*L.sz≤c.size:=by
   obtain ⟨x,hx,_⟩:=hel (m - 1) X
   have:=vY hx
   have e:m*L.sz=(m - 1)*L.sz+L.sz:=by
    have:m=(m - 1)+1:=by omega
    conv=>lhs;rw [this,Nat.succ_mul]
   omega
  refine ⟨c.extract o (o+m*L.sz),?_,by simp;omega,?_,fun i hi => ?_⟩
  ·have hl:=run_loadCells (P:=P) w ⟨b,o,none⟩ (m*L.sz) (fun j=>c.getD (o+j) undef) (fun j hj=>by
    rw [cX,jm hc,Array.getD_eq_getD_getElem?]
    have:o+j<c.size:=by omega
    simp [this])
   have hE:((List.range (m*L.sz)).map fun j=>c.getD (o+j) undef).toArray=c.extract o (o+m*L.sz):=by
    apply Array.ext
    ·simp;omega
    ·intro i h1 h2
     simp at h1
     have:o+i<c.size:=by omega
     simp [Array.getD_eq_getD_getElem?,this]
   rw [hE] at hl
   exact hl
  ·rw [Array.all_eq_true_iff_forall_mem]
   intro y hy
   obtain ⟨k,hk⟩:=Array.mem_iff_getElem?.1 hy
   rw [cI] at hk
   split at hk
   ·rename_i hk'
    obtain ⟨y',h1,h2⟩:=hcell k hk'
    rw [h1] at hk;cases hk;exact h2
   ·cases hk
  ·obtain ⟨x,hx,hp⟩:=hel i hi
   refine ⟨x,?_,hp⟩
   have hi2:i*L.sz+L.sz≤m*L.sz:=by
    have:=Nat.mul_le_mul_right L.sz (show i+1≤m by omega);rwa [Nat.succ_mul] at this
   rw [← hx]
   refine fC (by simp;omega) X fun j hj => ?_
   rw [cI,if_pos X]; congr 1;omega
theorem nH (need:Nat) : ∀ (r c:Nat),c≤2*need+1000→(c<need→True)→Builtin.growBy need r c≤2*need+1000
 | 0, c, h, _ => h
 | r + 1, c, h, _ => by
  rw [Builtin.growBy]
  split
  ·exact h
  ·exact nH need r _ X (fun _=>trivial)
theorem rQ {need cap:Nat} (h:cap<need):Builtin.nextslicecap need cap≤2*need+1000:=by
 unfold Builtin.nextslicecap
 split
 ·omega
 ·split
  ·omega
  ·exact nH need 4 cap X (fun _=>trivial)
theorem Ext.drew (w:World):Ext w w.drew:=(Below.refl _ _).drew
theorem rR {T e:TypeId} {L:Lay} {z:Value} {by':Nat} [hS:SliceOf P T e] [hL:LayOf P e L] [hZ:ZeroOf P e z by'] {ψ:Nat→VT} [hF : ∀ q,Flat (ψ q) L] {w:World} {h h2:Hp} {sv:Option Nat} {n cap m cap2:Nat} {φ:Nat→VT} {a:Option Addr} {rt:TypeId}
  (hsz:0<L.sz) (hzs:z.cells.size=L.sz) (ho:(aH sv e L cap n φ).p (raw w) h) (hle:Hp.le h2 (view w))
  (he : ∀ i,i<m → ∃ b o c T f x,a=some ⟨b,o,none⟩∧h2 b=some (c,T,f)∧bP L c (o+i*L.sz)=some x∧(ψ i).p x h2)
  (hb:(2*(n+m)+1000)*by'≤2^48) (hnm:n+m≤2^48) (h12:Hp.le h2 h) :
  ∃ sv' cap' w',(Builtin.append_ #[T,T] rt #[slV sv n cap, .slice a m cap2]).run P w = .ok (slV sv' (n+m) cap') w'∧(aH sv' e L cap' (n+m) (fun i=>if i<n then φ i else ψ (i - n))).p (raw w') h ∧
   ((sv'=sv∧(w'=w ∨ ∃ b c',sv=some b∧w'=w.setRow b c'))∨(sv'=some w.heap.size ∧ ∃ c',w'=w.drew.alloc (.cells c' e))):=by
 obtain ⟨g1,g2,g3,g4⟩:=ho
 obtain ⟨ti,hti,htz,htb⟩:=hZ.info
 have hsl:=hS.und
 have hund:(underlying T).run P w = .ok (.slice e) w:=aO hsl w
 obtain ⟨new,hn1,hn2,hn3,hn4⟩:=lM (P:=P) (cap:=cap2) hle hsz he
 have hsize:=cn (P:=P) (T:=e) (L:=L) w
 have hnew' : ∀ i,i<m → ∃ x,bP L new (i*L.sz)=some x∧(ψ i).p x h:=fun i hi=>let ⟨x,hx,hp⟩:=hn4 i hi;⟨x,hx,(ψ i).mono h12 hp⟩
 have hmat:(match (TypeDesc.slice e) with | .int _=>true | _=>false)=false:=rfl
 by_cases hfit:n+m≤cap
 ·-- there is room
  cases sv with
  | none =>
   have hc0:cap=0:=g3 Z
   have hm0:m=0:=by omega
   have hn0:n=0:=by omega
   subst hm0 hn0 hc0
   refine ⟨none,0,w,?_,⟨by omega,by omega,fun _=>rfl,fun b hb=>by cases hb⟩, .inl ⟨rfl, .inl Z⟩⟩
   simp [Builtin.append_,slV,hund,hsize,Builtin.lenOf,hn1]
  | some b =>
   obtain ⟨c,hc,hcs,hce⟩:=g4 b Z
   have hrm:n*L.sz+new.size≤c.size:=by
    rw [hn2,hcs, ← Nat.add_mul]; exact Nat.mul_le_mul_right _ hfit
   have hst:=run_storeCells_at (P:=P) b (n*L.sz) e new.toList 0 c w (dS hc) (by simp;omega) (fun x hx=>(Array.all_eq_true_iff_forall_mem.1 hn3) x (by simpa using hx))
   simp only [Nat.add_zero,Array.length_toList] at hst
   refine ⟨some b,cap,w.setRow b (ct c (n*L.sz) new),?_,⟨hfit,hnm,fun hh=>(by cases hh),fun b' hb' => ?_⟩, .inl ⟨rfl, .inr ⟨b,_,rfl,rfl⟩⟩⟩
   ·simp [Builtin.append_,slV,hund,hsize,Builtin.lenOf,hn1,hfit,cX,hst,ct]
   ·cases hb'
    refine ⟨_,dH hc,by rw [cP hrm]; exact hcs,fun i hi => ?_⟩
    by_cases hin:i<n
    ·simp only [hin,if_true]
     obtain ⟨x,hx,hp⟩:=hce i hin
     refine ⟨x,?_,hp⟩
     rw [dg hrm]; · exact hx
     left
     have:=Nat.mul_le_mul_right L.sz (show i+1≤n by omega);rwa [Nat.succ_mul] at this
    ·simp only [hin,if_false]
     obtain ⟨x,hx,hp⟩:=hnew' (i - n) X
     refine ⟨x,?_,hp⟩
     rw [← hx]
     have e1:i*L.sz=n*L.sz+(i - n)*L.sz:=by rw [← Nat.add_mul]; congr 1;omega
     have e2:(i - n)*L.sz+L.sz≤m*L.sz:=by
      have:=Nat.mul_le_mul_right L.sz (show (i - n)+1≤m by omega);rwa [Nat.succ_mul] at this
     refine fC (by rw [cP hrm]; omega) X fun j hj => ?_
     rw [dT hrm,if_pos X]; congr 1;omega
 ·-- a new array
  have hold : ∃ old:Array Value,(Builtin.firstCells L.sz n (slV sv n cap)).run P w.drew = .ok old w.drew∧old.size=n*L.sz ∧ ∀ i,i<n → ∃ x,bP L old (i*L.sz)=some x∧(φ i).p x h:=by
   cases sv with
   | none =>
    have hc0:cap=0:=g3 Z
    have hn0:n=0:=by omega
    subst hn0
    exact ⟨#[],by simp [Builtin.firstCells,slV],by simp,fun i hi=>by omega⟩
   | some b =>
    obtain ⟨c,hc,hcs,hce⟩:=g4 b Z
    have hcn:n*L.sz≤c.size:=by rw [hcs]; exact Nat.mul_le_mul_right _ g1
    refine ⟨c.extract 0 (n*L.sz),?_,by simp;omega,fun i hi => ?_⟩
    ·have hc':view w.drew b=some (c,e,(0,0)):=hc
     have hl:=run_loadCells (P:=P) w.drew ⟨b,0,none⟩ (n*L.sz) (fun j=>c.getD j undef) (fun j hj=>by
      rw [cX,jm hc',Array.getD_eq_getD_getElem?,Nat.zero_add]
      have:j<c.size:=by omega
      simp [this])
     have hE:((List.range (n*L.sz)).map fun j=>c.getD j undef).toArray=c.extract 0 (n*L.sz):=by
      apply Array.ext
      ·simp;omega
      ·intro i h1 h2
       simp at h1
       have:i<c.size:=by omega
       simp [Array.getD_eq_getD_getElem?,this]
     rw [hE] at hl
     exact hl
    ·obtain ⟨x,hx,hp⟩:=hce i hi
     refine ⟨x,?_,hp⟩
     have e2:i*L.sz+L.sz≤n*L.sz:=by
      have:=Nat.mul_le_mul_right L.sz (show i+1≤n by omega);rwa [Nat.succ_mul] at this
     rw [← hx]
     refine fC (by simp;omega) X fun j hj => ?_
     have:=cI c 0 (n*L.sz) (i*L.sz+j)
     rw [Nat.zero_add,Nat.zero_add] at this
     rw [this,if_pos X]
  obtain ⟨old,ho1,ho2,ho3⟩:=hold
  have hnc:=rQ (show cap<n+m by omega)
  have hnb : ¬ (Builtin.nextslicecap (n+m) cap*by'>2^48):=by
   have:=Nat.mul_le_mul_right by' hnc;omega
  obtain ⟨new2,hn1',hn2',hn3',hn4'⟩:=lM (P:=P) (w:=w.drew) (cap:=cap2) (h:=h2) hle hsz he
  let nc:=(Question.appendCap (n+m) cap e).cut (w.tape w.drawn (.appendCap (n+m) cap e))
  have hnc2:n+m≤nc:=by show n+m≤(n+m)+_;omega
  have hzr:=ZeroOf.run (P:=P) (T:=e) (z:=z)
  refine ⟨some w.heap.size,nc,w.drew.alloc (.cells (old ++ new2 ++ Builtin.zeroCells z.cells (nc - (n+m))) e),?_,⟨hnc2,hnm,fun hh=>(by cases hh),fun b' hb' => ?_⟩, .inr ⟨rfl,_,rfl⟩⟩
  ·have hn' : ¬ (n+m≤cap):=hfit
   have h63' : ¬ (9223372036854775807<((n:Int)+(m:Int))):=by omega
   have h48' : ¬ (281474976710656<Builtin.nextslicecap (n+m) cap*ti.bytes):=by rw [htb]; simpa using hnb
   have htis:ti.size=L.sz:=by
    obtain ⟨ti',k1,k2⟩:=hL.info
    rw [hti] at k1;cases k1;exact k2
   simp only [slV] at ho1 ⊢
   simp [Builtin.append_,aO hsl,Go.sizeOf,typeInfo,zeroValue,hti,htz,htis,Builtin.lenOf,hn',h63',h48',Question.forced,hn1',ho1,newRow]
   exact ⟨rfl,rfl⟩
  ·cases hb'
   refine ⟨_,ci w.drew _ _ _,?_,fun i hi => ?_⟩
   ·simp only [Array.size_append,ho2,hn2',Builtin.zeroCells,Array.size_map,Array.size_range,hzs, ← Nat.add_mul]
    congr 1;omega
   ·have key : ∀ (k:Nat),k<(n+m)*L.sz→(old ++ new2 ++ Builtin.zeroCells z.cells (nc - (n+m)))[k]? = if k<n*L.sz then old[k]? else new2[k - n*L.sz]? := by
     intro k hk
     rw [Nat.add_mul] at hk
     rw [Array.getElem?_append_left (by simp only [Array.size_append]; omega),Array.getElem?_append]
     simp only [ho2]
    have hsz2:(n+m)*L.sz≤(old ++ new2 ++ Builtin.zeroCells z.cells (nc - (n+m))).size:=by
     simp only [Array.size_append,ho2,hn2',Nat.add_mul]; omega
    have hi2:i*L.sz+L.sz≤(n+m)*L.sz:=by
     have:=Nat.mul_le_mul_right L.sz (show i+1≤n+m by omega);rwa [Nat.succ_mul] at this
    by_cases hin:i<n
    ·simp only [hin,if_true]
     obtain ⟨x,hx,hp⟩:=ho3 i hin
     refine ⟨x,?_,hp⟩
     have e2:i*L.sz+L.sz≤n*L.sz:=by
      have:=Nat.mul_le_mul_right L.sz (show i+1≤n by omega);rwa [Nat.succ_mul] at this
     rw [← hx]
     exact fC X X fun j hj=>by rw [key _ X,if_pos X]
    ·simp only [hin,if_false]
     obtain ⟨x,hx,hp⟩:=hn4' (i - n) X
     refine ⟨x,?_,(ψ _).mono h12 hp⟩
     have e1:i*L.sz=n*L.sz+(i - n)*L.sz:=by rw [← Nat.add_mul]; congr 1;omega
     have e2:(i - n)*L.sz+L.sz≤m*L.sz:=by
      have:=Nat.mul_le_mul_right L.sz (show (i - n)+1≤m by omega);rwa [Nat.succ_mul] at this
     rw [← hx]
     refine fC X X fun j hj => ?_
     rw [key _ X,if_neg X]; congr 1;omega
theorem St.renew {a:Act} {w:World} (hS:St E D Γ M a w) {j:Nat} {o o':Own} (hM:M[j]? = some o) {c:Array Value} {T:TypeId} (hbl:o'.bl = [w.heap.size])
  (hp:o'.p (raw (w.drew.alloc (.cells c T))) (hv E M w)) {d:Nat} (hd:d<E.N) {v:Value} {ψ:VT} (hv':ψ.p v (hv E M w)) :
  St E D ((d, ψ) :: Γ) (M.set j o') (a.put (some d) v) (w.drew.alloc (.cells c T)):=by
 have k:Ext w w.drew:=Ext.drew w
 have hS':St E D Γ M a w.drew:=⟨hS.base.ext k,hS.sz,hS.df,fun t φ h=>φ.mono (Base.hv_ext k) (hS.tm t φ h)⟩
 have h1:=hS'.alloc (o:=o') (c:=c) (T:=T) (d:=d) (v:=v) (ψ:=ψ) hbl hp hd hv'
 -- the entry is moved from the front to its place
 have hlt:=(List.getElem?_eq_some_iff.1 hM).1
 have hmem : ∀ q∈M.set j o',q∈o' :: M:=by
  intro q hq
  rcases List.mem_or_eq_of_mem_set hq with h | h
  ·exact List.mem_cons_of_mem _ h
  ·subst h;exact List.mem_cons_self
 have hblk : ∀ {M:Mem} {j:Nat},j<M.length → ∀ b,b∈aS (M.set j o')→b∈aS (o' :: M):=by
  intro M j hj b hb
  obtain ⟨q,hq,hbq⟩:=List.mem_flatMap.1 hb
  rcases List.mem_or_eq_of_mem_set hq with h | h
  ·exact List.mem_flatMap.2 ⟨q,List.mem_cons_of_mem _ h,hbq⟩
  ·subst h;exact List.mem_flatMap.2 ⟨_,List.mem_cons_self,hbq⟩
 have hnd : ∀ {M:Mem} {j:Nat},j<M.length→(aS (o' :: M)).Nodup→(aS (M.set j o')).Nodup:=by
  intro M
  induction M with
  | nil => intro j hj; simp at hj
  | cons x M ih =>
   intro j hj hn
   simp only [blks_cons] at hn
   rw [← List.append_assoc,List.nodup_append,List.nodup_append] at hn
   obtain ⟨⟨n1,n2,n3⟩,n4,n5⟩:=hn
   cases j with
   | zero =>
    simp only [List.set_cons_zero,blks_cons,List.nodup_append]
    exact ⟨n1,n4,fun a ha b hb=>n5 a (List.mem_append.2 (.inl ha)) b hb⟩
   | succ j =>
    simp only [List.set_cons_succ,blks_cons,List.nodup_append]
    have hj':j<M.length:=by simpa using hj
    refine ⟨n2,ih hj' ?_,fun a ha b hb => ?_⟩
    ·simp only [blks_cons,List.nodup_append]
     exact ⟨n1,n4,fun a ha b hb=>n5 a (List.mem_append.2 (.inl ha)) b hb⟩
    ·have:=hblk hj' b hb
     simp only [blks_cons,List.mem_append] at this
     rcases this with h | h
     ·exact fun e=>n3 b h a ha e.symm
     ·exact n5 a (List.mem_append.2 (.inr ha)) b h
 have hle:Hp.le (hv E (o' :: M) (w.drew.alloc (.cells c T))) (hv E (M.set j o') (w.drew.alloc (.cells c T))):=ld fun b hb=>hblk hlt b hb
 refine ⟨⟨fun q hq=>q.loc (fun _ _=>rfl) hle (h1.base.mem q (hmem q hq)),hnd hlt h1.base.nd,fun b hb=>h1.base.dis b (hblk hlt b hb),fun b hb=>h1.base.lo b (hblk hlt b hb),fun b hb=>h1.base.ex b ?_,h1.base.fr⟩,h1.sz,h1.df,fun t φ h=>φ.mono hle (h1.tm t φ h)⟩
 rcases List.mem_append.1 hb with h | h
 ·exact List.mem_append.2 (.inl h)
 ·exact List.mem_append.2 (.inr (hblk hlt b h))
open Co in
theorem uA (ts:Array TypeId) (t:TypeId) (args:Array Value):Plain P (Builtin.append_ ts t args):=by
 have f : ∀ (s n:Nat) (v:Value),Plain P (Builtin.firstCells s n v):=fun s n v=>by unfold Builtin.firstCells loadCells;split <;> (repeat' first | exact Tor.Co.pl_ret _ | exact Tor.Co.pl_stk _ | exact Tor.Co.pl_uns _ | exact Tor.Co.pl_prog | exact Tor.Co.pl_ld _ | exact Tor.Co.pl_st _ _ | exact Tor.Co.pl_ch _ | exact Tor.Co.pl_rt _ | exact Tor.Co.pl_bounds _ _ _ _ | exact Tor.Co.pl_info _ | exact Tor.Co.pl_und _ | exact Tor.Co.pl_zero _ | exact Tor.Co.pl_size _ | exact Tor.Co.pl_agg _ | exact Tor.Co.pl_lvar _ _ | exact Tor.Co.pl_svar _ _ _ | exact Tor.Co.pl_row _ _ | exact Tor.Co.pl_part _ _ _ | exact Tor.Co.pl_room' _ | exact Tor.Co.pl_intOf _ | exact Tor.Co.pl_int _ | exact Tor.Co.pl_bool _ | exact Tor.Co.pl_sure _ | exact Tor.Co.pl_addr _ | exact Tor.Co.pl_lcf _ _ _ _ | exact Tor.Co.pl_stc _ _ _ | apply Tor.Co.Plain.bind | intro _ | split | dsimp only)
 have l : ∀ v:Value,Plain P (Builtin.lenOf v):=fun v=>by unfold Builtin.lenOf;split <;> (repeat' first | exact Tor.Co.pl_ret _ | exact Tor.Co.pl_stk _ | exact Tor.Co.pl_uns _ | exact Tor.Co.pl_prog | exact Tor.Co.pl_ld _ | exact Tor.Co.pl_st _ _ | exact Tor.Co.pl_ch _ | exact Tor.Co.pl_rt _ | exact Tor.Co.pl_bounds _ _ _ _ | exact Tor.Co.pl_info _ | exact Tor.Co.pl_und _ | exact Tor.Co.pl_zero _ | exact Tor.Co.pl_size _ | exact Tor.Co.pl_agg _ | exact Tor.Co.pl_lvar _ _ | exact Tor.Co.pl_svar _ _ _ | exact Tor.Co.pl_row _ _ | exact Tor.Co.pl_part _ _ _ | exact Tor.Co.pl_room' _ | exact Tor.Co.pl_intOf _ | exact Tor.Co.pl_int _ | exact Tor.Co.pl_bool _ | exact Tor.Co.pl_sure _ | exact Tor.Co.pl_addr _ | exact Tor.Co.pl_lcf _ _ _ _ | exact Tor.Co.pl_stc _ _ _ | apply Tor.Co.Plain.bind | intro _ | split | dsimp only)
 have dead : ∀ {α:Type} {s n m:Nat} {b:Option Addr} {x:Value} {k:Bool→Sem α},(∀ r,Dead P (k r))→Plain P (Builtin.mayShare s n m b x >>= k):=fun h => .dead (Dead.bind h)
 unfold Builtin.append_
 have du : ∀ {α:Type} (u:Unsupported),Dead P (unsupported u:Sem α):=fun u=>Dead.halt
 repeat' with_reducible first | exact du _ | refine Dead.bind fun _ => ?_ | exact pl_ret _ | exact pl_stk _ | exact pl_uns _ | exact pl_rt _ | exact pl_ch _ | exact pl_und _ | exact pl_zero _ | exact pl_size _ | exact pl_info _ | exact pl_int _ | exact pl_room' _ | exact pl_row _ _ | exact pl_stc _ _ _ | exact f _ _ _ | exact l _ | refine dead fun r => ?_ | apply Plain.bind | refine pl_ite ?_ ?_ | intro _ | split | dsimp only
 all_goals trace_state
open Co in
theorem Am {d:Option Tmp} {gd:Option (Nat × Bool)} {xs:Array Operand} {ts:Array TypeId} {ρ:Operand→Value} : Plain P (execOp ρ ⟨d, .call ⟨.builtin .append,xs,ts⟩,ty,pos,af,gd⟩):=by
 suffices h:Plain P (builtin .append ts ty #[] (xs.map ρ)) from h
 exact (uA _ _ _).bind fun _=>pl_ret _
theorem dB {T e:TypeId} {L:Lay} {z:Value} {by':Nat} [hS:SliceOf P T e] [hL:LayOf P e L] [hZ:ZeroOf P e z by'] [hFz:Flat (one z) L] {x y:Operand} {sv:Option Nat} {n cap m d:Nat} {φ ψ:Nat→VT} [hF : ∀ q,Flat (ψ q) L] (j:Nat)
  (hx:aB Γ x=some (one (slV sv n cap))) (hM:M[j]? = some (aH sv e L cap n φ)) (hy:aB Γ y=some (slT L m ψ)) (hsz:0<L.sz) (hb:(2*(n+m)+1000)*by'≤2^48) (hnm:n+m≤2^48)
  (hi:ops[i]? = some ⟨some d, .call ⟨.builtin .append, #[x,y], #[T,T]⟩,ty,pos,af,none⟩) (hd:d<E.N)
  (h : ∀ sv' cap',Run P E ops false (i+1) D ((d,one (slV sv' (n+m) cap')) :: Γ) (M.set j (aH sv' e L cap' (n+m) (fun q=>if q<n then φ q else ψ (q - n)))) os K) :
  Run P E ops false i D Γ M (⟨some d, .call ⟨.builtin .append, #[x,y], #[T,T]⟩,ty,pos,af,none⟩ :: os) K:=by
 refine Run.one (K':=fun D' Γ' M' => ∃ sv' cap',D'=D∧Γ'=(d,one (slV sv' (n+m) cap')) :: Γ∧M'=M.set j (aH sv' e L cap' (n+m) (fun q=>if q<n then φ q else ψ (q - n)))) Z (fun a w hSt => ?_) (fun D' Γ' M' ⟨sv',cap',h1,h2,h3⟩=>by subst h1 h2 h3;exact h sv' cap') hi (fun _ _ _ _=>Am)
 have h1:a.eval x=slV sv n cap:=cq hSt hx
 obtain ⟨ad,cap2,h2,h3,h4,he⟩:=cq hSt hy
 have ho:=dA hSt.base hM
 obtain ⟨z1,_,_⟩:=hFz.ok z (fun _=>none) Z
 obtain ⟨sv',cap',w',hr,hp,hw⟩:=rR (P:=P) (T:=T) (e:=e) (rt:=ty) (cap2:=cap2) hsz z1 ho (vQ _ _) he hb hnm (Hp.le_refl _)
 refine ⟨.ok (.value (slV sv' (n+m) cap')) w',?_,D,_,_,⟨sv',cap',rfl,rfl,rfl⟩,?_⟩
 ·simp only [execOp,resolve,invoke,builtin,Sem.run_bind,Sem.run_pure,Result.andThen_ok,List.map_toArray,List.map_cons,List.map_nil,h1,h2,hr]
 ·show St E D _ _ (a.put (some d) _) _
  rcases hw with ⟨rfl,hw⟩ | ⟨hs,c',rfl⟩
  ·have hSt2:St E D Γ (M.set j (aH sv' e L cap' (n+m) (fun q=>if q<n then φ q else ψ (q - n)))) a w':=by
    refine hSt.own hM Z ?_ ?_ ?_ ?_ ?_ hp
    ·intro k hk
     rcases hw with rfl | ⟨b,c',hb',rfl⟩
     ·rfl
     ·exact c7 _ _ _ _ (by intro e';apply hk;simp [aH,hb',e'])
    all_goals (rcases hw with rfl | ⟨b,c',hb',rfl⟩ <;> first | rfl | exact dI _ _ _)
   exact hSt2.put (Ext.refl _) hd Z
  ·exact hSt.renew hM (by simp [aH,hs]) hp hd Z
/-! ### Slice literals -/
inductive PartsOk (Γ:Ctx) (L:Lay):Nat→List (Nat × Operand)→List VT→Prop
 | nil {k} : PartsOk Γ L k [] []
 | cons {k x r φ φs} [hF : Flat φ L] : aB Γ x = some φ → PartsOk Γ L (k + 1) r φs → PartsOk Γ L k ((k, x) :: r) (φ :: φs)
theorem PartsOk.len {L:Lay} {k:Nat} {r:List (Nat × Operand)} {φs:List VT} (h:PartsOk Γ L k r φs):φs.length=r.length:=by
 induction h with
 | nil => rfl
 | cons _ _ ih => simp [ih]
theorem mv {L:Lay} {a:Act} {h:Hp} {m:Nat} {r:List (Nat × Operand)} {φs:List VT} {k:Nat} (hp:PartsOk Γ L k r φs) :
  ∀ (c:Array Value),(∀ x φ,x∈r.map (·.2)→aB Γ x=some φ→φ.p (a.eval x) h)→c.size=m→k*L.sz+r.length*L.sz≤m →
  ∃ c',Instr.fill (fun i=>some (i*L.sz,L.sz)) c (r.map fun (i,x)=>(i,a.eval x))=some c'∧c'.size=m ∧
   (∀ q,q<k→bP L c' (q*L.sz)=bP L c (q*L.sz)) ∧ ∀ q φ, φs[q]? = some φ → ∃ x,bP L c' ((k+q)*L.sz)=some x∧φ.p x h:=by
 induction hp with
 | nil => intro c _ hs _; exact ⟨c, rfl, hs, fun _ _ => rfl, fun q φ e => by simp at e⟩
 | @cons k x r φ φs hF hx hr ih =>
  intro c hf hs hle
  have hpv:=hf x φ (by simp) hx
  obtain ⟨f1,f2,f3⟩:=hF.ok _ _ hpv
  simp only [List.length_cons,Nat.add_mul,Nat.one_mul] at hle
  have hfit:k*L.sz+(a.eval x).cells.size≤c.size:=by rw [f1,hs]; omega
  obtain ⟨c',k1,k2,k3,k4⟩:=ih (ct c (k*L.sz) (a.eval x).cells) (fun y ψ hy he=>hf y ψ (by simp at hy ⊢; exact .inr hy) he) (by rw [cP hfit]; exact hs) (by rw [Nat.add_mul,Nat.one_mul]; omega)
  refine ⟨c',?_,k2,fun q hq => ?_,fun q ψ e => ?_⟩
  ·simp only [List.map_cons,Instr.fill]
   rw [if_neg (by simp [f1]; omega),ip _ _ _ hfit]; exact k1
  ·rw [k3 q X,dg hfit]
   left
   have:=Nat.mul_le_mul_right L.sz (show q+1≤k by omega);rwa [Nat.succ_mul] at this
  ·cases q with
   | zero =>
    simp at e;subst e
    refine ⟨a.eval x,?_,hpv⟩
    rw [Nat.add_zero,k3 k X]; exact dN (by rw [hs]; omega) f1 f3
   | succ q =>
    simp at e
    obtain ⟨v,hv1,hv2⟩:=k4 q ψ e
    exact ⟨v,by rw [show k+(q+1)=k+1+q by omega]; exact hv1,hv2⟩
theorem iT {T e:TypeId} {L:Lay} {z:Value} {by' n:Nat} [hS:SliceOf P T e] [hL:LayOf P e L] [hZ:ZeroOf P e z by'] {parts:Array (Nat × Value)} {c':Array Value} {w:World} (hn:n*L.sz≤2^24) (hzs:z.cells.size=L.sz)
  (h:Instr.fill (fun i=>some (i*L.sz,L.sz)) (dt z.cells (n*L.sz)) parts.toList=some c') :
  (Instr.buildSlice T n parts).run P w = .ok (.slice (some ⟨w.heap.size,0,none⟩) n n) (w.alloc (.cells c' e)):=by
 unfold Instr.buildSlice
 have hn' : ¬ (n*L.sz>2^24):=by omega
 simp only [Sem.run_bind,aO hS.und,Result.andThen_ok,cn (L:=L),if_neg hn',Sem.run_pure]
 by_cases h0:n*L.sz=0
 ·simp only [if_pos h0,Sem.run_bind,Sem.run_pure,Result.andThen_ok]
  have e0:(Array.range (n*L.sz)).map (fun x=>(#[]:Array Value)[x % (#[]:Array Value).size]!)=dt z.cells (n*L.sz):=by rw [h0]; simp [dt]
  rw [e0,h]
  simp only [Sem.run_bind,io,Result.andThen_ok,Sem.run_pure]
 ·have hz:=ZeroOf.run (P:=P) (T:=e) (z:=z) w
  simp only [if_neg h0,Sem.run_bind,hz,Result.andThen_ok,Sem.run_pure]
  have e0:(Array.range (n*L.sz)).map (fun x=>z.cells[x % z.cells.size]!)=dt z.cells (n*L.sz):=rfl
  rw [e0,h]
  simp only [Sem.run_bind,io,Result.andThen_ok,Sem.run_pure]
theorem pZ {w:World} {c:Array Value} {T:TypeId} (hb:Base E M w):hid (E.O ++ aS M) (view (w.alloc (.cells c T))) w.heap.size=some (c,T,(0,0)) :=
 eA (fun h=>by have:=hb.ex _ h;omega) (ci w c T _)
theorem kj {T e:TypeId} {L:Lay} {z:Value} {by' n:Nat} [hS:SliceOf P T e] [hL:LayOf P e L] [hZ:ZeroOf P e z by'] [hFz:Flat (one z) L] {parts:Array (Nat × Operand)} {φs:List VT}
  (h:PartsOk Γ L 0 parts.toList φs) (hn:parts.size=n) (hsm:n*L.sz≤2^24) (hsz:0<L.sz):aC P E Γ M ⟨d, .buildSlice T n parts,ty,pos,af,gd⟩ (slT L n (fun q=>φs.getD q bQ)) :=
 aC.ofRun' fun a w hb hf=>by
  obtain ⟨z1,_,_⟩:=hFz.ok z (fun _=>none) Z
  have hlen:=h.len
  have hn48:n≤2^24:=by
   have:=Nat.le_mul_of_pos_right n hsz;omega
  obtain ⟨c',k1,k2,_,k4⟩:=mv (a:=a) (h:=hv E M w) (m:=n*L.sz) h (dt z.cells (n*L.sz)) (fun x φ hx he=>hf x φ (by simpa [Op.operands] using hx) he) (eO _ _) (by simp [hn])
  have hr:=iT (P:=P) (T:=T) (w:=w) (parts:=parts.map fun (i,x)=>(i,a.eval x)) hsm z1 (by rw [Array.toList_map]; exact k1)
  refine ⟨.slice (some ⟨w.heap.size,0,none⟩) n n,w.alloc (.cells c' e),?_,Ext.alloc w _,?_⟩
  ·simp only [execOp,Sem.run_bind,hr,Result.andThen_ok,Sem.run_pure]
  ·refine ⟨_,_,rfl,Nat.le_refl _,by omega,fun q hq => ?_⟩
   have hq':q<φs.length:=by rw [hlen]; simp [hn]; exact hq
   obtain ⟨x,hx,hp⟩:=k4 q φs[q] (by simp [hq'])
   refine ⟨w.heap.size,0,c',e,(0,0),x,rfl,pZ hb,by simpa using hx,?_⟩
   have:φs.getD q bQ=φs[q]:=by simp [List.getD,hq']
   show (φs.getD q bQ).p x _
   rw [this]; exact (φs[q]).mono (Base.hv_ext (Ext.alloc w _)) hp
theorem oH {T e:TypeId} {L:Lay} {z:Value} {by' n d:Nat} [hS:SliceOf P T e] [hL:LayOf P e L] [hZ:ZeroOf P e z by'] [hFz:Flat (one z) L] {parts:Array (Nat × Operand)} {φs:List VT}
  (h:PartsOk Γ L 0 parts.toList φs) (hn:parts.size=n) (hsm:n*L.sz≤2^24) (hsz:0<L.sz) (hi:ops[i]? = some ⟨some d, .buildSlice T n parts,ty,pos,af,none⟩) (hd:d<E.N)
  (hr : ∀ b,Run P E ops false (i+1) D ((d,one (slV (some b) n n)) :: Γ) (aH (some b) e L n n (fun q=>φs.getD q bQ) :: M) os K) :
  Run P E ops false i D Γ M (⟨some d, .buildSlice T n parts,ty,pos,af,none⟩ :: os) K:=by
 refine Run.one (K':=fun D' Γ' M' => ∃ b,D'=D∧Γ'=(d,one (slV (some b) n n)) :: Γ∧M'=aH (some b) e L n n (fun q=>φs.getD q bQ) :: M) Z (fun a w hSt => ?_) (fun D' Γ' M' ⟨b,h1,h2,h3⟩=>by subst h1 h2 h3;exact hr b) hi
 obtain ⟨z1,_,_⟩:=hFz.ok z (fun _=>none) Z
 have hlen:=h.len
 have hn48:n≤2^24:=by
  have:=Nat.le_mul_of_pos_right n hsz;omega
 obtain ⟨c',k1,k2,_,k4⟩:=mv (a:=a) (h:=hv E M w) (m:=n*L.sz) h (dt z.cells (n*L.sz)) (fun x φ hx he=>cq hSt he) (eO _ _) (by simp [hn])
 have hr':=iT (P:=P) (T:=T) (w:=w) (parts:=parts.map fun (i,x)=>(i,a.eval x)) hsm z1 (by rw [Array.toList_map]; exact k1)
 refine ⟨.ok (.value (slV (some w.heap.size) n n)) (w.alloc (.cells c' e)),?_,D,_,_,⟨w.heap.size,rfl,rfl,rfl⟩,?_⟩
 ·simp only [execOp,Sem.run_bind,hr',Result.andThen_ok,Sem.run_pure]; rfl
 ·refine hSt.alloc (o:=aH (some w.heap.size) e L n n (fun q=>φs.getD q bQ)) Z ⟨Nat.le_refl _,by omega,(fun h=>by cases h),fun b hb => ?_⟩ hd Z
  cases hb
  refine ⟨c',ci w _ _ _,k2,fun q hq => ?_⟩
  have hq':q<φs.length:=by rw [hlen]; simp [hn]; exact hq
  obtain ⟨x,hx,hp⟩:=k4 q φs[q] (by simp [hq'])
  have:φs.getD q bQ=φs[q]:=by simp [List.getD,hq']
  exact ⟨x,by simpa using hx,by show (φs.getD q bQ).p x _;rw [this]; exact hp⟩
end
end Tor
namespace Tor
open Go Go.RowKit
variable [Tor.Co.Kc]
section
variable {P:Program} {E:Env} {D:List Deferred} {Γ:Ctx} {M:Mem} {ops:Array Oper} {i:Nat} {ty:TypeId} {pos:String} {af:Array Edge} {os:List Oper} {K:List Deferred→Ctx→Mem→Prop}
theorem bZ {T:TypeId} {m d:Nat} {z:Array Value} {pl:List (Nat × Lay)} [hB:BuildOf P T m z pl] (hz:(pl.all fun q=>(bP q.2 z q.1).isSome)=true) (hi:ops[i]? = some ⟨some d, .alloc T,ty,pos,af,none⟩) (hd:Nat.ble (d+1) E.N=true)
  (h : ∀ b,Run P E ops false (i+1) D ((d,one (.pointer (some ⟨b,0,none⟩))) :: Γ) (aT b T m (dJ z pl) :: M) os K) :
  Run P E ops false i D Γ M (⟨some d, .alloc T,ty,pos,af,none⟩ :: os) K:=by
 refine Run.one (K':=fun D' Γ' M' => ∃ b,D'=D∧Γ'=(d,one (.pointer (some ⟨b,0,none⟩))) :: Γ∧M'=aT b T m (dJ z pl) :: M) Z (fun a w hS => ?_) (fun D' Γ' M' ⟨b,h1,h2,h3⟩=>by subst h1 h2 h3;exact h b) hi
 refine ⟨.ok (.value (.pointer (some ⟨w.heap.size,0,none⟩))) (w.alloc (.cells z T)),?_,D,_,_,⟨w.heap.size,rfl,rfl,rfl⟩,?_⟩
 ·have hz:=hB.zero w
  simp [execOp,Instr.alloc,Sem.run_bind,hz,newVar,newRow,newObj,Sem.run,Value.cells]
 ·exact hS.alloc (o:=aT w.heap.size T m (dJ z pl)) Z ⟨z,ci w _ _ _,hB.zs,hB.zo,ki hz⟩ (ltN hd) Z
theorem leN {a b:Nat} (h:Nat.ble a b=true):a≤b:=Nat.le_of_ble_eq_true h
end
end Tor
namespace Tor
open Go Go.RowKit
variable [Tor.Co.Kc]
section
variable {P:Program} {E:Env} {D:List Deferred} {Γ:Ctx} {M:Mem} {Q:Exit→Act→World→Prop}
theorem tn {c:Code} {t:Nat} {F:Prop} {φ:VT} (ht:bt Γ t=some (cj F φ)) (h:F→J P E D ((t, φ) :: Γ) M c Q):J P E D Γ M c Q :=
 iR ht (fun _ _ h=>h.1) fun hF=>pV ht (fun _ _ h=>h.2) (h hF)
def Ok (P:Program) (f:FuncId) (φs:List VT) (ψ:VT):Prop :=
 ∀ (w:World) (O:List Nat) (vs:List Value),(∀ b∈O,b<w.heap.size)→fb φs vs (hid O (view w))→jG P f vs.toArray w (Ret O ψ w)
theorem Ok.enter {f:FuncId} {fn:Func} {c:Code} {N:Nat} {φs:List VT} {ψ:VT} (hf:P.funcs[f]? = some fn) (hb:fn.body=some c) (hN:fn.ntmps=N) (hle:Nat.ble φs.length N=true)
  (h : ∀ (w:World) (O:List Nat),J P ⟨w,O, [],N,none⟩ [] (fK 0 φs) [] c (cG P fn (Ret O ψ w))) (hpl:cU c=true:=by kernel_rfl):Ok P f φs ψ :=
 fun w O vs hO hv=>Tor.enter hf hb hN hO hv (Nat.le_of_ble_eq_true hle) (h w O) hpl
def gK:List VT→List VT→Prop
 | [], [] => True
 | φ :: φs, ψ :: ψs => VT.le φ ψ ∧ gK φs ψs
 | _, _ => False
theorem fU {h:Hp} : ∀ {φs ψs:List VT} {vs:List Value},gK φs ψs→fb φs vs h→fb ψs vs h
 | [], [], _, _, hp => hp
 | _ :: _, _ :: _, _ :: _, ⟨h1, h2⟩, ⟨p1, p2⟩ => ⟨h1 _ _ p1, fU h2 p2⟩
 | [], _ :: _, _, h, _ => h.elim
 | _ :: _, [], _, h, _ => h.elim
theorem gl : ∀ φs:List VT,gK φs φs
 | [] => trivial
 | _ :: φs => ⟨A, gl φs⟩
theorem Ok.le {f:FuncId} {φs φs':List VT} {ψ ψ':VT} (h:Ok P f φs ψ) (hl:gK φs' φs) (hr:VT.le ψ ψ'):Ok P f φs' ψ' :=
 fun w O vs hO hv=>(h w O vs hO (fU hl hv)).mono fun e w' ⟨v,h1,h2,h3⟩=>⟨v,h1,hr _ _ h2,h3⟩
variable {d:Option Tmp} {ty:TypeId} {pos:String} {af:Array Edge} {gd:Option (Nat × Bool)}
theorem ao {f:FuncId} [hF:Fn P f] {xs:Array Operand} {ats:Array TypeId} {φs φs':List VT} {ψ:VT} (h:Ok P f φs' ψ) (hx:fB Γ xs.toList=some φs) (hle:gK φs φs') :
  aC P E Γ M ⟨d, .call ⟨.value (.func f),xs,ats⟩,ty,pos,af,gd⟩ ψ :=
 Al hx fun w vs hO hp=>h w _ vs hO (fU hle hp)
theorem tp {F:Prop} {φ ψ:VT} (hF:F) (h:VT.le φ ψ):VT.le φ (cj F ψ):=fun v g h2=>⟨hF,h v g h2⟩
theorem vZ {α:Type} {φ:VT} {ψ:α→VT} (x:α) (h:VT.le φ (ψ x)):VT.le φ (exT ψ):=fun v g h2=>⟨x,h v g h2⟩
theorem jI {φ ψ:VT} (h:φ=ψ):VT.le φ ψ:=h▸VT.le_refl _
theorem fV {m:Nat} {cs cs':bW} (h : ∀ q∈cs', ∃ ψ,(q.1,q.2.1, ψ)∈cs∧VT.le ψ q.2.2):VT.le (bE m cs) (bE m cs') :=
 fun v g ⟨c,h1,h2,h3,h4⟩=>⟨c,h1,h2,h3,fun q hq=>let ⟨ψ,h5,h6⟩:=h q hq;let ⟨x,h7,h8⟩:=h4 _ h5;⟨x,h7,h6 _ _ h8⟩⟩
end
end Tor
end
section
namespace Tor
open Go Go.RowKit
variable [Tor.Co.Kc]
section
variable {P:Program} {E:Env} {D:List Deferred} {Γ:Ctx} {M:Mem} {Q:Exit→Act→World→Prop}
variable {d:Option Tmp} {ty:TypeId} {pos:String} {af:Array Edge} {gd:Option (Nat × Bool)}
theorem eW {σ:Type} {c:Code} {n:Act→World→Prop} (G:σ→Ctx) (Ms:σ→Mem) (ok:σ→Prop)
  (h:J P E D Γ M c (Exit.then (fun a w => ∃ s,ok s∧St E D (G s) (Ms s) a w) Q)) (hy : ∀ s,ok s→PJ E D (G s) (Ms s) .normal (Exit.then n Q)):J P E D Γ M c (Exit.then n Q) :=
 fun a w hS=>(h a w hS).mono fun e a w hq=>by
  cases e <;> first | exact hq | (obtain ⟨s,hs,hS'⟩:=hq;exact hy s hs a w hS')
theorem gL {L:Lay} {φ:Nat→VT} : VT.le (one (.slice none 0 0)) (slT L 0 φ):=fun v h e=>by
 cases e;exact ⟨none,0,rfl,Nat.le_refl _,by decide,fun i hi=>by omega⟩
theorem kn {sv:Option Nat} {T:TypeId} {L:Lay} {cap n:Nat} {φ ψ:Nat→VT} (H : ∀ q,q<n→VT.le (φ q) (ψ q)):Own.le (aH sv T L cap n φ) (aH sv T L cap n ψ) :=
 ⟨rfl,fun g h ⟨h1,h2,h3,h4⟩=>⟨h1,h2,h3,fun b hb=>let ⟨c,hc,hs,he⟩:=h4 b hb;⟨c,hc,hs,fun i hi=>let ⟨x,hx,hp⟩:=he i hi;⟨x,hx,H i hi _ _ hp⟩⟩⟩⟩
theorem bV {sv:Option Nat} {T:TypeId} {L:Lay} {cap n:Nat} {φ ψ:Nat→VT} (H : ∀ q,q<n→φ q=ψ q):Own.le (aH sv T L cap n φ) (aH sv T L cap n ψ) :=
 kn fun q hq=>by rw [H q hq]; exact VT.le_refl _
theorem yz {b:Nat} {T:TypeId} {m:Nat} {cs cs':bW} (h : ∀ q∈cs', ∃ ψ,(q.1,q.2.1, ψ)∈cs∧VT.le ψ q.2.2):Own.le (aT b T m cs) (aT b T m cs') :=
 ⟨rfl,fun g k ⟨c,h1,h2,h3,h4⟩=>⟨c,h1,h2,h3,fun q hq=>let ⟨ψ,h5,h6⟩:=h q hq;let ⟨x,h7,h8⟩:=h4 _ h5;⟨x,h7,h6 _ _ h8⟩⟩⟩
theorem d5 {T T':TypeId} {x y:Operand} {a b:Nat} (hx:aB Γ x=some (one (.int .u64 (a:Int)))) (hy:aB Γ y=some (one (.int .u64 (b:Int)))) (h:a+b<18446744073709551616) :
  aC P E Γ M ⟨d, .binOp .add T x y T',ty,pos,af,gd⟩ (one (.int .u64 ((a+b:Nat):Int))) :=
 cz hx hy (by rw [cY]; omega)
theorem jM {T T':TypeId} {x y:Operand} {a b:Nat} (hx:aB Γ x=some (one (.int .u64 (a:Int)))) (hy:aB Γ y=some (one (.int .u64 (b:Int)))) (h:a*b<18446744073709551616) :
  aC P E Γ M ⟨d, .binOp .mul T x y T',ty,pos,af,gd⟩ (one (.int .u64 ((a*b:Nat):Int))) :=
 mj hx hy (by rw [cY, ← Int.natCast_mul]; omega)
theorem eX {T T':TypeId} {x y:Operand} {a b:Nat} (hx:aB Γ x=some (one (.int .u64 (a:Int)))) (hy:aB Γ y=some (one (.int .u64 (b:Int)))) (ha:a<18446744073709551616) (hb:b<18446744073709551616) :
  aC P E Γ M ⟨d, .binOp .sub T x y T',ty,pos,af,gd⟩ (one (.int .u64 (((a+18446744073709551616 - b) % 18446744073709551616:Nat):Int))) :=
 ef hx hy (by rw [cY]; omega)
theorem mw {T T':TypeId} {x y:Operand} {a b:Nat} (hx:aB Γ x=some (one (.int .u64 (a:Int)))) (hy:aB Γ y=some (one (.int .u64 (b:Int)))) (ha:a<18446744073709551616) (h0:b≠0) :
  aC P E Γ M ⟨d, .binOp .quo T x y T',ty,pos,af,gd⟩ (one (.int .u64 ((a / b:Nat):Int))) :=
 z4 hx hy X (by
  rw [← Int.ofNat_tdiv,cY]
  have:=Nat.div_le_self a b
  generalize a / b=q at *
  omega)
theorem tq {T T':TypeId} {x:Operand} {a:Nat} (hx:aB Γ x=some (one (.int .u64 (a:Int)))) (ha:a<18446744073709551616) :
  aC P E Γ M ⟨d, .binOp .quo T x (.const (.int .u64 4294967296)) T',ty,pos,af,gd⟩ (one (.int .u64 ((a / 4294967296:Nat):Int))) :=
 mw (b:=4294967296) hx Z ha U
theorem aC.le {o:Oper} {φ ψ:VT} (h:aC P E Γ M o φ) (hle:VT.le φ ψ):aC P E Γ M o ψ :=
 fun a w hb hx next hn=>h a w hb hx next (fun v w' he hp=>hn v w' he (hle v _ hp))
theorem cd {T T':TypeId} {k:IntKind} [IntOf P T k] [IntOf P T' .u64] {x:Operand} {k0:IntKind} {a:Nat} (hx:aB Γ x=some (one (.int k0 (a:Int)))) (h:a<18446744073709551616) :
  aC P E Γ M ⟨d, .convert T T' x,ty,pos,af,gd⟩ (one (.int .u64 (a:Int))):=iQ hx (by rw [cY]; omega)
theorem cF {T T':TypeId} {k:IntKind} [IntOf P T k] [IntOf P T' .u32] {x:Operand} {k0:IntKind} {a:Nat} (hx:aB Γ x=some (one (.int k0 (a:Int)))) :
  aC P E Γ M ⟨d, .convert T T' x,ty,pos,af,gd⟩ (one (.int .u32 ((a % 4294967296:Nat):Int))):=iQ hx (by rw [mo]; omega)
theorem fw {T T':TypeId} {x:Operand} {k':IntKind} {a:Nat} (hx:aB Γ x=some (one (.int .u64 (a:Int)))) :
  aC P E Γ M ⟨d, .binOp .shr T x (.const (.int k' 32)) T',ty,pos,af,gd⟩ (one (.int .u64 ((a / 4294967296:Nat):Int))) :=
 vT hx Z U (by
  show Int.fdiv (a:Int) (2^32)=_
  rw [Int.fdiv_eq_ediv_of_nonneg _ U]; omega)
theorem oI {T T':TypeId} {x:Operand} {k':IntKind} {a:Nat} (hx:aB Γ x=some (one (.int .u64 (a:Int)))) :
  aC P E Γ M ⟨d, .binOp .shr T x (.const (.int k' 63)) T',ty,pos,af,gd⟩ (one (.int .u64 ((a / 9223372036854775808:Nat):Int))) :=
 vT hx Z U (by
  show Int.fdiv (a:Int) (2^63)=_
  rw [Int.fdiv_eq_ediv_of_nonneg _ U]; omega)
theorem dc {T T':TypeId} {k:IntKind} [IntOf P T k] [IntOf P T' .i64] {x:Operand} {k0:IntKind} {a:Int} (hx:aB Γ x=some (one (.int k0 a))) (h1 : -9223372036854775808≤a) (h2:a≤9223372036854775807) :
  aC P E Γ M ⟨d, .convert T T' x,ty,pos,af,gd⟩ (one (.int .i64 a)):=iQ hx (aR h1 h2)
end
end Tor
namespace Tor
open Go Go.RowKit
variable [Tor.Co.Kc]
section
variable {P:Program} {E:Env} {D:List Deferred} {Γ:Ctx} {M:Mem} {Q:Exit→Act→World→Prop}
variable {ops:Array Oper} {i:Nat} {ty:TypeId} {pos:String} {af:Array Edge} {os:List Oper} {K:List Deferred→Ctx→Mem→Prop} {gd:Option (Nat × Bool)} {dr:Bool}
inductive BuildK (Γ:Ctx) (pl:List (Nat × Lay)) (K:bW→Prop):bW→List (Nat × Operand)→Prop
 | nil {C} : K C → BuildK Γ pl K C []
 | cons {C i x r o L φ χ} [hF : Flat φ L] : pl[i]? = some (o, L) → aB Γ x = some φ → fP C o = some (L, χ) → BuildK Γ pl K (kf C o φ) r → BuildK Γ pl K C ((i, x) :: r)
theorem BuildK.ok {pl:List (Nat × Lay)} {K:bW→Prop} {C:bW} {r:List (Nat × Operand)} (h:BuildK Γ pl K C r) : ∃ C',BuildOk Γ pl C r C'∧K C':=by
 induction h with
 | nil h => exact ⟨_, .nil, h⟩
 | cons h1 h2 h3 _ ih => obtain ⟨C', h4, h5⟩ := ih; exact ⟨C', .cons h1 h2 h3 h4, h5⟩
theorem stB {T:TypeId} {m d:Nat} {z:Array Value} {pl:List (Nat × Lay)} [hB:BuildOf P T m z pl] {parts:Array (Nat × Operand)} (hz:(pl.all fun q=>(bP q.2 z q.1).isSome && decide (q.1+q.2.sz≤m))=true) (hap:eV (dJ z pl)=true) (hd:Nat.ble (d+1) E.N=true)
  (h:BuildK Γ pl (fun C=>Run P E ops dr (i+1) D ((d,bE m C) :: Γ) M os K) (dJ z pl) parts.toList):Run P E ops dr i D Γ M (⟨some d, .build T parts,ty,pos,af,none⟩ :: os) K :=
 let ⟨_,h1,h2⟩:=h.ok;st (oG h1 hz hap) hd h2
inductive PartsK (Γ:Ctx) (L:Lay) (K:List VT→Prop):Nat→List VT→List (Nat × Operand)→Prop
 | nil {k φs} : K φs.reverse → PartsK Γ L K k φs []
 | cons {k φs x r φ} [hF : Flat φ L] : aB Γ x = some φ → PartsK Γ L K (k + 1) (φ :: φs) r → PartsK Γ L K k φs ((k, x) :: r)
theorem PartsK.ok {L:Lay} {K:List VT→Prop} {k:Nat} {φs:List VT} {r:List (Nat × Operand)} (h:PartsK Γ L K k φs r) : ∃ ψs,PartsOk Γ L k r ψs∧K (φs.reverse ++ ψs):=by
 induction h with
 | nil h => exact ⟨[], .nil, by simpa using h⟩
 | cons h1 _ ih => obtain ⟨ψs, h2, h3⟩ := ih; exact ⟨_ :: ψs, .cons h1 h2, by simpa using h3⟩
theorem stS {T e:TypeId} {L:Lay} {z:Value} {by' n d:Nat} [hS:SliceOf P T e] [hL:LayOf P e L] [hZ:ZeroOf P e z by'] [hFz:Flat (one z) L] {parts:Array (Nat × Operand)}
  (hn:parts.size=n) (hsm:Nat.ble (n*L.sz) 16777216=true) (hsz:Nat.ble 1 L.sz=true) (hd:Nat.ble (d+1) E.N=true)
  (h:PartsK Γ L (fun φs=>Run P E ops dr (i+1) D ((d,slT L n (fun q=>φs.getD q bQ)) :: Γ) M os K) 0 [] parts.toList):Run P E ops dr i D Γ M (⟨some d, .buildSlice T n parts,ty,pos,af,none⟩ :: os) K :=
 let ⟨_,h1,h2⟩:=h.ok;st (kj h1 hn (Nat.le_of_ble_eq_true hsm) (Nat.le_of_ble_eq_true hsz)) hd h2
theorem my {T e:TypeId} {L:Lay} {z:Value} {by' d:Nat} [hS:SliceOf P T e] [hL:LayOf P e L] [hZ:ZeroOf P e z by'] [hFz:Flat (one z) L] {x:Operand} {φ:VT} [hF:Flat φ L]
  (hx:aB Γ x=some φ) (hsm:Nat.ble (1*L.sz) 16777216=true) (hsz:Nat.ble 1 L.sz=true) (hd:Nat.ble (d+1) E.N=true)
  (h:Run P E ops dr (i+1) D ((d,slT L 1 (fun _=>φ)) :: Γ) M os K):Run P E ops dr i D Γ M (⟨some d, .buildSlice T 1 #[(0,x)],ty,pos,af,none⟩ :: os) K :=
 st ((kj (n:=1) (φs := [φ]) (.cons hx .nil) Z (Nat.le_of_ble_eq_true hsm) (Nat.le_of_ble_eq_true hsz)).le (cH Z (fun q hq=>by
  have h3:q<1:=hq
  have:q=0:=by omega
  subst this;rfl))) hd h
theorem oJ {T e:TypeId} {L:Lay} {z:Value} {by' n d:Nat} [hS:SliceOf P T e] [hL:LayOf P e L] [hZ:ZeroOf P e z by'] [hFz:Flat (one z) L] {parts:Array (Nat × Operand)}
  (hn:parts.size=n) (hsm:Nat.ble (n*L.sz) 16777216=true) (hsz:Nat.ble 1 L.sz=true) (hi:ops[i]? = some ⟨some d, .buildSlice T n parts,ty,pos,af,none⟩) (hd:Nat.ble (d+1) E.N=true)
  (h:PartsK Γ L (fun φs => ∀ b,Run P E ops false (i+1) D ((d,one (slV (some b) n n)) :: Γ) (aH (some b) e L n n (fun q=>φs.getD q bQ) :: M) os K) 0 [] parts.toList):Run P E ops false i D Γ M (⟨some d, .buildSlice T n parts,ty,pos,af,none⟩ :: os) K :=
 let ⟨_,h1,h2⟩:=h.ok;oH h1 hn (Nat.le_of_ble_eq_true hsm) (Nat.le_of_ble_eq_true hsz) hi (ltN hd) h2
end
end Tor
end
section
namespace Tor
open Go Go.RowKit
variable [Tor.Co.Kc]
section
variable {P:Program} {E:Env} {ops:Array Oper}
def iG:Nat→Array Oper→Nat→Nat→Bool
 | 0, _, _, _ => false
 | f + 1, ops, i, j => eJ ops i j || (List.range ops.size).any fun k => eJ ops k j && iG f ops i k
def eg (fq n:Nat) (ops:Array Oper):Bool :=
 decide (n≤ops.size) &&
 ((List.range ops.size).all fun j =>
  (match ops[j]? with | some o=>o.after.all (fun e => !Region.binds .any e || decide (e.on<j)) | none=>true) &&
  ((List.range j).all fun i=>iG fq ops i j || (decide (j<n) && !iF ops i j)))
theorem cV {fq n:Nat} (h:eg fq n ops=true) {i j:Nat} (hij:i<j) (hj:j<ops.size):iG fq ops i j=true∨(j<n∧iF ops i j=false):=by
 simp only [eg,Bool.and_eq_true,List.all_eq_true,List.mem_range] at h
 have:=(h.2 j hj).2 i hij
 simpa using this
theorem uC {fq n:Nat} (h:eg fq n ops=true) {j:Nat} {o:Oper} (ho:ops[j]? = some o) {e:Edge} (he:e∈o.after) (hb:Region.binds .any e=true):e.on<j:=by
 simp only [eg,Bool.and_eq_true,List.all_eq_true,List.mem_range] at h
 have hj:j<ops.size:=by
  rcases Nat.lt_or_ge j ops.size with h | h
  ·exact h
  ·rw [Array.getElem?_eq_none h] at ho;cases ho
 have:=(h.2 j hj).1
 rw [ho] at this
 simp only [Array.all_eq_true'] at this
 have:=this e he
 simpa [hb] using this
theorem lh {l:Array Bool} (hl:Lst ops l) : ∀ (f j:Nat),l.getD j false=true → ∀ i,iG f ops i j=true→l.getD i false=true
 | 0, j, _, i, h => by cases h
 | f + 1, j, hj, i, h => by
  simp only [iG,Bool.or_eq_true,List.any_eq_true,Bool.and_eq_true] at h
  rcases h with h | ⟨k,_,h1,h2⟩
  ·exact hl.closed j hj i h
  ·exact lh hl f k (hl.closed j hj k h1) i h2
theorem p6 {l:Array Bool} (hl:Lst ops l) {f j i:Nat} (hj:j∈Region.ready .any ops l) (h:iG f ops i j=true):l.getD i false=true:=by
 cases f with
 | zero => cases h
 | succ f =>
  simp only [iG,Bool.or_eq_true,List.any_eq_true,Bool.and_eq_true] at h
  rcases h with h | ⟨k,_,h1,h2⟩
  ·exact bS hj h
  ·exact lh hl f k (bS hj h1) i h2
theorem jo {fq n:Nat} (hok:eg fq n ops=true) {l:Array Bool} (hs:l.size=ops.size) {j:Nat} (hj:j<ops.size) (hl:l.getD j false=false) : ∃ i,i∈Region.ready .any ops l:=by
 induction j using Nat.strongRecOn with
 | _ j ih =>
  by_cases h:j∈Region.ready .any ops l
  ·exact ⟨j,h⟩
  ·have ho:ops[j]? = some ops[j]:=by simp [hj]
   rw [mem_ready] at h
   have h1:l.getD j true=false:=by rw [c5 X true false]; exact hl
   have h2 : ¬ ∀ e∈ops[j].after,Region.binds .any e=true→l.getD e.on false=true:=fun hall=>h ⟨h1,_,ho,hall⟩
   obtain ⟨e,h2⟩:=Classical.not_forall.1 h2
   obtain ⟨he,h2⟩:=Classical.not_imp.1 h2
   obtain ⟨hb,h2⟩:=Classical.not_imp.1 h2
   have hlt:=uC hok ho he hb
   exact ih e.on hlt X (by simpa using h2)
theorem rS {fq n:Nat} (hok:eg fq n ops=true) {G:Nat→Ctx} {M:Mem} {D:List Deferred} (hG : ∀ j o,j<n→ops[j]? = some o→StepG P E (G j) M ops o (G (j+1)))
  {Q:Act→World→Prop} (htail : ∀ a w,St E D (G n) M a w→Co.wpOpsX P ops Q (List.range' n (ops.size - n)) a w) :
  ∀ (fuel:Nat) (l:Array Bool) (a:Act) (w:World),Lst ops l→left ops l≤fuel→Base E M w→a.tmps.size=E.N→a.defers=D→Inv E ops n G M l a w →
   (∃ i,i<n∧l.getD i false=false)→Co.wpAnyX P .any ops Q fuel l a w:=by
 have hn:n≤ops.size:=by simp only [eg,Bool.and_eq_true] at hok;exact of_decide_eq_true hok.1
 -- the tail, once the head is done
 have tail : ∀ (m:Nat) (fuel:Nat) (l:Array Bool) (k:Nat) (a:Act) (w:World),k+m=ops.size→n≤k→Lst ops l→(∀ j,j<ops.size→(l.getD j false=true↔j<k))→m≤fuel →
   Co.wpOpsX P ops Q (List.range' k m) a w→Co.wpAnyX P .any ops Q fuel l a w:=by
  intro m
  induction m with
  | zero =>
   intro fuel l k a w hkm hnk hl hiff _ h
   have hr:Region.ready .any ops l = []:=by
    rw [List.eq_nil_iff_forall_not_mem]
    intro j hj
    have h1:=cy hj
    have h2:=(mem_ready.1 hj).1
    have h3:=(hiff j h1).2 X
    rw [c5 (by have:=hl.size;omega) true false,h3] at h2;cases h2
   have hq:Q a w:=by simpa [Co.wpOpsX] using h
   cases fuel with
   | zero => exact ⟨hr, hq⟩
   | succ f => exact ⟨fun _ => hq, fun i hi => by rw [hr] at hi; cases hi⟩
  | succ m ih =>
   intro fuel l k a w hkm hnk hl hiff hf h
   obtain ⟨f,rfl⟩ : ∃ f,fuel=f+1:=⟨fuel - 1,by omega⟩
   have hsz:=hl.size
   have hkl:l.getD k false=false:=by
    rw [← Bool.not_eq_true]; intro h';have:=(hiff k X).1 h';omega
   refine ⟨fun hr => ?_,fun i hi w₁ hw₁ => ?_⟩
   ·obtain ⟨i,hi⟩:=jo hok hsz (j:=k) X hkl
    rw [hr] at hi;cases hi
   ·have hi1:=cy hi
    have hi2:=(mem_ready.1 hi).1
    rw [c5 X true false] at hi2
    have hik:k≤i:=by
     rcases Nat.lt_or_ge i k with h' | h'
     ·rw [(hiff i hi1).2 h'] at hi2;cases hi2
     ·exact h'
    have:i=k:=by
     rcases Nat.lt_or_ge k i with h' | h'
     ·rcases cV hok h' hi1 with hp | ⟨hp,_⟩
      ·have:=p6 hl hi hp;rw [this] at hkl;cases hkl
      ·omega
     ·omega
    subst this
    rw [List.range'_succ] at h
    refine Co.wpOpX_mono (fun a' w' h' => ?_) (h w₁ hw₁)
    refine ih f _ (i+1) a' w' X X ⟨by simpa using hsz,?_⟩ ?_ X h'
    ·intro j hj i' hp
     rw [aZ X] at hj ⊢
     split
     ·rfl
     ·split at hj
      ·rename_i h1;subst h1;exact bS hi hp
      ·exact hl.closed j hj i' hp
    ·intro j hj
     rw [aZ X]
     split
     ·rename_i h1;subst h1;simp
     ·rename_i h1;rw [hiff j hj]; omega
 intro fuel
 induction fuel with
 | zero =>
  intro l a w hl hleft _ _ _ _ ⟨i,hi,hil⟩
  have:=dj (ops:=ops) hl.size (i:=i) X hil
  omega
 | succ fuel ih =>
  intro l a w hl hleft hbase hsz hdf hinv ⟨i0,hi0,hil0⟩
  have hls:=hl.size
  refine ⟨fun hr => ?_,fun i hi w₁ hw₁ => ?_⟩
  ·obtain ⟨i,hi⟩:=jo hok hls (j:=i0) X hil0
   rw [hr] at hi;cases hi
  ·have hi1:=cy hi
   have hi2:l.getD i false=false:=by
    have:=(mem_ready.1 hi).1
    rw [c5 X true false] at this;exact this
   have hin:i<n:=by
    rcases Nat.lt_or_ge i n with h' | h'
    ·exact h'
    ·rcases cV hok (i:=i0) (j:=i) X hi1 with hp | ⟨hp,_⟩
     ·have:=p6 hl hi hp;rw [this] at hil0;cases hil0
     ·omega
   have ho:ops[i]? = some ops[i]:=by simp [hi1]
   obtain ⟨d, ψ,hd,hN,hΓ,hrun⟩:=(hG i _ hin ho).run ho
   have hdi:dstOf ops i=some d:=by simp [dstOf,ho,hd]
   replace hbase:=hbase.ext hw₁
   replace hinv:Inv E ops n G M l a w₁:=fun k hk t φ h1 h2 h3=>φ.mono (Base.hv_ext hw₁) (hinv k hk t φ h1 h2 h3)
   refine hrun a _ hbase (fun t φ ht hlk => ?_) _ fun v w' k hv' => ?_
   ·refine hinv i X t φ hlk (fun j hj hdj => ?_) (fun j hj hjs hdj => ?_)
    ·rcases cV hok hj hi1 with hp | ⟨_,hp⟩
     ·exact p6 hl hi hp
     ·rw [dY hdj (by simpa [cR,ho] using ht)] at hp;cases hp
    ·rcases Nat.lt_or_ge i j with h' | h'
     ·rw [← Bool.not_eq_true]; intro hlj
      rcases cV hok h' hjs with hp | ⟨_,hp⟩
      ·have:=lh hl _ j hlj i hp;rw [this] at hi2;cases hi2
      ·rw [dF hdj (by simpa [cR,ho] using ht)] at hp;cases hp
     ·have:j=i:=by omega
      subst this;exact hi2
   ·have hl':Lst ops (l.setIfInBounds i true):=by
     refine ⟨by simpa using hls,fun j hj i' hp => ?_⟩
     rw [aZ X] at hj ⊢
     split
     ·rfl
     ·split at hj
      ·rename_i h1;subst h1;exact bS hi hp
      ·exact hl.closed j hj i' hp
    have hbase':=hbase.ext k
    have hsz':(a.put (some d) v).tmps.size=E.N:=by simp [Act.put,hsz]
    have hinv':Inv E ops n G M (l.setIfInBounds i true) (a.put (some d) v) w':=by
     intro k' hk' t φ hlk hlo hhi
     by_cases htd:d=t
     ·subst htd
      have hik:i<k':=by
       rcases Nat.lt_or_ge i k' with h' | h'
       ·exact h'
       ·have:=hhi i h' hi1 hdi;rw [aZ X] at this;simp at this
      have hno : ∀ j,i+1≤j→j<k'→dstOf ops j≠some d:=by
       intro j h1 h2 hdj
       have h3:=hlo j h2 hdj
       rw [aZ X,if_neg X] at h3
       rcases cV hok (i:=i) (j:=j) X X with hp | ⟨_,hp⟩
       ·have:=lh hl _ j h3 i hp;rw [this] at hi2;cases hi2
       ·rw [eL hdi hdj] at hp;cases hp
      rw [di hG hn (i:=i+1) X hk' hno,hΓ,aW,if_pos Z] at hlk
      cases hlk
      rw [be (by rw [hsz]; exact hN)]; exact hv'
     ·rw [aP htd]
      refine φ.mono (Base.hv_ext k) (hinv k' hk' t φ hlk (fun j hj hdj => ?_) (fun j hj hjs hdj => ?_))
      ·have:=hlo j hj hdj;rw [aZ X] at this
       split at this
       ·rename_i h1;subst h1;rw [hdi] at hdj;cases hdj;exact absurd Z htd
       ·exact this
      ·have:=hhi j hj hjs hdj;rw [aZ X] at this
       split at this
       ·cases this
       ·exact this
    have hleft':=dj (ops:=ops) hls hi1 hi2
    by_cases hmore : ∃ i',i'<n∧(l.setIfInBounds i true).getD i' false=false
    ·exact ih _ _ _ hl' X hbase' hsz' hdf hinv' hmore
    ·have hall : ∀ j,j<n→(l.setIfInBounds i true).getD j false=true:=by
      intro j hj;rw [← Bool.not_eq_false]; intro h;exact hmore ⟨j,hj,h⟩
     have hlate : ∀ j,n≤j→j<ops.size→(l.setIfInBounds i true).getD j false=false:=by
      intro j hj hjs
      rw [aZ X,if_neg X, ← Bool.not_eq_true]
      intro hlj
      rcases cV hok (i:=i) (j:=j) X hjs with hp | ⟨hp,_⟩
      ·have:=lh hl _ j hlj i hp;rw [this] at hi2;cases hi2
      ·omega
     have hSt:St E D (G n) M (a.put (some d) v) w' :=
      ⟨hbase',hsz',hdf,fun t φ hlk=>hinv' n (Nat.le_refl _) t φ hlk (fun j hj _=>hall j hj) (fun j hj hjs _=>hlate j hj hjs)⟩
     refine tail (ops.size - n) fuel _ n _ w' X (Nat.le_refl _) hl' (fun j hj => ?_) ?_ (htail _ _ hSt)
     ·constructor
      ·intro h;rcases Nat.lt_or_ge j n with h' | h'
       ·exact h'
       ·rw [hlate j h' hj] at h;cases h
      ·exact hall j
     ·have:ops.size - n≤left ops (l.setIfInBounds i true):=by
       unfold left
       have h1:(List.range' n (ops.size - n)).Sublist ((List.range ops.size).filter fun i' => !(l.setIfInBounds i true).getD i' false):=by
        have h2:((List.range' n (ops.size - n)).filter fun i' => !(l.setIfInBounds i true).getD i' false)=List.range' n (ops.size - n):=by
         rw [List.filter_eq_self]
         intro j hj;rw [List.mem_range'_1] at hj
         rw [hlate j X X]; rfl
        rw [← h2]
        refine List.Sublist.filter _ ?_
        have h3:List.range ops.size=List.range' 0 n ++ List.range' n (ops.size - n):=by
         have := @List.range'_append 0 n (ops.size - n) 1
         rw [List.range_eq_range']
         simp only [Nat.one_mul,Nat.zero_add] at this
         rw [this]; congr 1;omega
        rw [h3]; exact List.sublist_append_right _ _
       have:=h1.length_le;simpa using this
      omega
theorem tr {D:List Deferred} {Γ:Ctx} {M:Mem} {id:Nat} {Q:Exit→Act→World→Prop} (fq n:Nat) (hm:P.follows .mixedOrders=true) (hok:eg fq n ops=true) (hn0:0<n)
  (h:Run P E ops true 0 D Γ M (ops.toList.take n) (fun D' Γ' M'=>Run P E ops false n D' Γ' M' (ops.toList.drop n) (fun D' Γ' M'=>PJ E D' Γ' M' .normal Q))):J P E D Γ M (.region id ops true) Q:=by
 intro a w hS
 have hn:n≤ops.size:=by simp only [eg,Bool.and_eq_true] at hok;exact of_decide_eq_true hok.1
 refine dM hm fun w₁ hw₁ => ?_
 have k:Ext w { w₁ with drawn:=w₁.drawn+1 } := hw₁.trans ⟨rfl,rfl,rfl,Nat.le_refl _,fun _ _=>rfl⟩
 obtain ⟨G,hG0,hK,hG⟩:=h.chain Z
 have hlen:(ops.toList.take n).length=n:=by simp [hn]
 rw [hlen,Nat.zero_add] at hK
 refine rS (D:=D) hok (G:=G) (M:=M) (fun j o hj ho => ?_) (fun a' w' hS' => ?_) ops.size _ a _ ⟨by simp,fun j hj => ?_⟩ ?_ (hS.base.ext k) hS.sz hS.df ?_ ⟨0,hn0,?_⟩
 ·have:=hG j o (by rw [List.getElem?_take,if_pos hj]; simpa using ho)
  simpa using this
 ·have:=hK.seq (Q .normal) [] (fun j _=>by simp [List.getElem?_drop]) (fun D' Γ' M' a w hK hS=>by simpa [Co.wpOpsX] using hK a w hS) a' w' hS'
  simpa using this
 ·simp [Array.getD_eq_getD_getElem?,Array.getElem?_replicate] at hj;split at hj <;> simp at hj
 ·unfold left;refine Nat.le_trans (List.length_filter_le _ _) (by simp)
 ·intro k' hk' t φ hlk hlo _
  have hno : ∀ j,0≤j→j<k'→dstOf ops j≠some t:=by
   intro j _ hj hd
   have:=hlo j hj hd
   simp [Array.getD_eq_getD_getElem?,Array.getElem?_replicate] at this;split at this <;> simp at this
  rw [di (fun j o hj ho=>by have:=hG j o (by rw [List.getElem?_take,if_pos hj]; simpa using ho);simpa using this) hn (Nat.zero_le _) hk' hno,hG0] at hlk
  exact φ.mono (Base.hv_ext k) (hS.tm t φ hlk)
 ·simp [Array.getD_eq_getD_getElem?,Array.getElem?_replicate]; split <;> rfl
end
end Tor
end
section
namespace Tor
open Go Go.RowKit
variable [Tor.Co.Kc]
section
variable {P:Program} {E:Env} {D:List Deferred} {Γ:Ctx} {M M':Mem} {Q:Exit→Act→World→Prop}
theorem gc (h:M.Perm M'):(aS M).Perm (aS M'):=h.flatMap_right _
theorem tt {w:World} (h:M.Perm M'):hv E M w=hv E M' w:=by
 funext b
 have:b∈E.O ++ aS M↔b∈E.O ++ aS M':=by simp only [List.mem_append,(gc h).mem_iff]
 simp only [hv,hid,this]
theorem ko {a:Act} {w:World} (h:M.Perm M') (hS:St E D Γ M a w):St E D Γ M' a w where
 base := {
  mem:=fun o ho=>by
   have:=hS.base.mem o (h.mem_iff.2 ho)
   have e:hid (E.O ++ aS M) (view w)=hid (E.O ++ aS M') (view w):=tt h
   rw [e] at this;exact this
  nd:=(gc h).nodup_iff.1 hS.base.nd
  dis:=fun b hb=>hS.base.dis b ((gc h).mem_iff.2 hb)
  lo:=fun b hb=>hS.base.lo b ((gc h).mem_iff.2 hb)
  ex:=fun b hb=>hS.base.ex b (by
   simp only [List.mem_append,(gc h).mem_iff] at hb ⊢; exact hb)
  fr:=hS.base.fr }
 sz:=hS.sz
 df:=hS.df
 tm:=fun t φ ht=>tt (E:=E) (w:=w) h▸hS.tm t φ ht
def An {σ:Type} (O:List Nat) (ψ:σ→VT) (Ms:σ→Mem) (w:World) (e:Ending) (w':World):Prop :=
 ∃ s v,e = .returned v∧(ψ s).p v (hid (O ++ aS (Ms s)) (view w'))∧Ext w w'∧(∀ o∈Ms s,o.p (raw w') (hid (O ++ aS (Ms s)) (view w')))∧(aS (Ms s)).Nodup ∧ ∀ b∈aS (Ms s),w.heap.size≤b∧b<w'.heap.size∧b ∉ O
def OkM {σ:Type} (P:Program) (f:FuncId) (φs:List VT) (ψ:σ→VT) (Ms:σ→Mem):Prop :=
 ∀ (w:World) (O:List Nat) (vs:List Value),(∀ b∈O,b<w.heap.size)→fb φs vs (hid O (view w))→jG P f vs.toArray w (An O ψ Ms w)
theorem bj (N M:Mem):aS (N ++ M)=aS N ++ aS M:=List.flatMap_append
theorem St.take {a:Act} {w w':World} (hS:St E D Γ M a w) (hx:Ext w w') {N:Mem} (hmem : ∀ o∈N,o.p (raw w') (hid ((E.O ++ aS M) ++ aS N) (view w'))) (hnd:(aS N).Nodup)
  (hb : ∀ b∈aS N,w.heap.size≤b∧b<w'.heap.size) {d:Nat} (hd:d<E.N) {v:Value} {ψ:VT} (hv':ψ.p v (hid ((E.O ++ aS M) ++ aS N) (view w'))) :
  St E D ((d, ψ) :: Γ) (N ++ M) (a.put (some d) v) w':=by
 have hnew : ∀ b∈E.O ++ aS M,b<w.heap.size:=hS.base.ex
 have ehv:hid (E.O ++ aS (N ++ M)) (view w')=hid ((E.O ++ aS M) ++ aS N) (view w'):=by
  funext b
  have:b∈E.O ++ aS (N ++ M)↔b∈(E.O ++ aS M) ++ aS N:=by
   simp only [bj,List.mem_append]
   constructor
   ·rintro (h | h | h)
    ·exact .inl (.inl h)
    ·exact .inr h
    ·exact .inl (.inr h)
   ·rintro ((h | h) | h)
    ·exact .inl h
    ·exact .inr (.inr h)
    ·exact .inr (.inl h)
  simp only [hid,this]
 have hle:Hp.le (hv E M w) (hid (E.O ++ aS (N ++ M)) (view w')):=by
  intro b x e
  obtain ⟨h1,h2⟩:=cW e
  refine eA ?_ (hx.view _ _ h2)
  intro h
  have hlt:=d9 h2
  rw [bj] at h
  rcases List.mem_append.1 h with h | h
  ·exact h1 (List.mem_append.2 (.inl h))
  ·rcases List.mem_append.1 h with h | h
   ·have:=(hb b h).1;omega
   ·exact h1 (List.mem_append.2 (.inr h))
 have hb':=hS.base.ext hx
 refine ⟨⟨?_,?_,?_,?_,?_,hb'.fr⟩,by simp [Act.put,hS.sz],hS.df,?_⟩
 ·intro q hq
  rcases List.mem_append.1 hq with hq | hq
  ·rw [ehv]; exact hmem q hq
  ·exact q.loc (fun b hb=>(fJ (hx.block b (hS.base.ex b (List.mem_append.2 (.inr (cJ hq hb)))))).symm) hle (hS.base.mem q hq)
 ·rw [bj,List.nodup_append]
  refine ⟨hnd,hS.base.nd,fun x hx y hy => ?_⟩
  have h1:=(hb x hx).1
  have h2:=hnew y (List.mem_append.2 (.inr hy));omega
 ·intro b h
  rw [bj] at h
  rcases List.mem_append.1 h with h | h
  ·intro hO;have:=hnew _ (List.mem_append.2 (.inl hO));have:=(hb b h).1;omega
  ·exact hS.base.dis b h
 ·intro b h
  rw [bj] at h
  rcases List.mem_append.1 h with h | h
  ·exact .inl (Nat.le_trans hS.base.fr.size (hb b h).1)
  ·exact hS.base.lo b h
 ·intro b h
  rw [bj] at h
  rcases List.mem_append.1 h with h | h
  ·exact hb'.ex b (List.mem_append.2 (.inl h))
  ·rcases List.mem_append.1 h with h | h
   ·exact (hb b h).2
   ·exact hb'.ex b (List.mem_append.2 (.inr h))
 ·intro t φ h
  rw [aW] at h
  show φ.p _ (hid (E.O ++ aS (N ++ M)) (view w'))
  split at h
  ·rename_i e;cases h;rw [← e,be (by rw [hS.sz]; exact hd),ehv]; exact hv'
  ·rename_i e;rw [aP e]; exact φ.mono hle (hS.tm t φ h)
theorem OkM.enter {σ:Type} {f:FuncId} {fn:Func} {c:Code} {N:Nat} {φs:List VT} {ψ:σ→VT} {Ms:σ→Mem} (hf:P.funcs[f]? = some fn) (hb:fn.body=some c) (hN:fn.ntmps=N) (hle:Nat.ble φs.length N=true)
  (h : ∀ (w:World) (O:List Nat),J P ⟨w,O, [],N,none⟩ [] (fK 0 φs) [] c (cG P fn (An O ψ Ms w))) (hpl:cU c=true:=by kernel_rfl):OkM P f φs ψ Ms :=
 fun w O vs hO hv=>Tor.enter hf hb hN hO hv (Nat.le_of_ble_eq_true hle) (h w O) hpl
theorem mz {σ:Type} {w0:World} {O:List Nat} {N:Nat} {fn:Func} {r:ResultVar} {ψ:σ→VT} {Ms:σ→Mem} (s:σ) (hr:fn.results = #[r]) (h:ResOk P Γ M r (ψ s)) (hm:SubM M (Ms s)) :
  PJ ⟨w0,O, [],N,none⟩ [] Γ M .ret (cG P fn (An O ψ Ms w0)):=by
 intro a w hS
 refine ⟨hS.df,fun w₁ hw₁ => ?_⟩
 replace hS:=hS.ext hw₁
 obtain ⟨v,h1,h2⟩:=h.run hS
 have hB:=hS.base.sub hm
 refine ⟨v,?_,s,v,rfl,(ψ s).mono (ld fun b hb=>hm.sub.subset hb) h2,hS.ret,hB.mem,hB.nd,fun b hb=>⟨?_,hB.ex b (List.mem_append.2 (.inr hb)),hB.dis b hb⟩⟩
 ·have hm:(fn.results.mapM (nv a.tmps)).run P w₁ = .ok #[v] w₁:=by rw [hr]; simp [h1]
  rw [fe,Sem.run_bind,hm]; rfl
 ·rcases hB.lo b hb with h | h
  ·exact h
  ·cases h
variable {ops:Array Oper} {i:Nat} {ty:TypeId} {pos:String} {af:Array Edge} {os:List Oper} {K:List Deferred→Ctx→Mem→Prop}
theorem gM {σ:Type} {f:FuncId} [hF:Fn P f] {xs:Array Operand} {ats:Array TypeId} {φs φs':List VT} {ψ:σ→VT} {Ms:σ→Mem} {d:Nat} (h:OkM P f φs' ψ Ms) (hx:fB Γ xs.toList=some φs) (hle:gK φs φs')
  (hi:ops[i]? = some ⟨some d, .call ⟨.value (.func f),xs,ats⟩,ty,pos,af,none⟩) (hd:Nat.ble (d+1) E.N=true)
  (hr : ∀ s,Run P E ops false (i+1) D ((d, ψ s) :: Γ) (Ms s ++ M) os K):Run P E ops false i D Γ M (⟨some d, .call ⟨.value (.func f),xs,ats⟩,ty,pos,af,none⟩ :: os) K:=by
 refine .act (K':=fun D' Γ' M' => ∃ s,D'=D∧Γ'=(d, ψ s) :: Γ∧M'=Ms s ++ M) (fun a w hS next hn => ?_) (fun D' Γ' M' ⟨s,h1,h2,h3⟩=>by subst h1 h2 h3;exact hr s)
 have hp:=fv (a:=a) (h:=hv E M w) hx (fun x φ hx' he=>cq hS he)
 have hc:=h w _ _ hS.base.ex (fU hle hp)
 simp only [Co.wpOpX,hi,cO (o:=⟨some d, .call ⟨.value (.func f),xs,ats⟩,ty,pos,af,none⟩) Z,if_true]
 refine ⟨fun _=>hF.plain _,?_⟩
 have hr:(execOp a.eval ⟨some d, .call ⟨.value (.func f),xs,ats⟩,ty,pos,af,none⟩).run P w = .ok (.enter f (xs.toList.map a.eval).toArray) w:=by
  have h0:a.eval (.func f) = .func (.func f) #[] #[]:=rfl
  have h9:(xs.map a.eval)=(xs.toList.map a.eval).toArray:=by simp [← Array.toList_map]
  simp [execOp,resolve,Deferred.ofValue,invoke,h0,hF.run,h9]
 rw [hr]
 refine ig hc ?_
 rintro e w' ⟨s,v,rfl,hv',hext,hmem,hnd,hb⟩
 refine ⟨v,rfl,?_⟩
 exact hn _ _ _ _ _ ⟨s,rfl,rfl,rfl⟩ (hS.take hext hmem hnd (fun b h=>⟨(hb b h).1,(hb b h).2.1⟩) (Nat.le_of_ble_eq_true hd) hv')
theorem wa (h:M.Perm M') (hr:Run P E ops false i D Γ M' os K):Run P E ops false i D Γ M os K := .conv (fun a w hS=>ko h hS) hr
theorem SubM.dropN : ∀ (N:Mem) {K:Mem},SubM (N ++ K) K
 | [], K => SubM.refl K
 | _ :: N, _ => .drop (SubM.dropN N)
end
end Tor
end
section
namespace Tor
open Go Go.RowKit
variable [Tor.Co.Kc]
section
variable {P:Program} {E:Env} {D:List Deferred} {Γ:Ctx} {M:Mem} {Q:Exit→Act→World→Prop}
variable {ops:Array Oper} {i:Nat} {ty:TypeId} {pos:String} {af:Array Edge} {os:List Oper} {K:List Deferred→Ctx→Mem→Prop} {d:Option Tmp} {gd:Option (Nat × Bool)}
def cZ (T:TypeId) (L:Lay) (c:Nat) (bs:List Nat) (φ:Nat→Nat→VT):Own where
 bl:=bs
 p g h := ∀ i b,bs[i]? = some b→(aH (some b) T L c c (φ i)).p g h
 loc:=fun he H hp i b hb=>(aH (some b) T L c c (φ i)).loc (fun b' hb'=>he b' (by
  have:b'=b:=by simpa [aH] using hb'
  rw [this]; exact List.mem_of_getElem? hb)) H (hp i b hb)
theorem p7 {T:TypeId} {L:Lay} {c:Nat} {bs:List Nat} {φ ψ:Nat→Nat→VT} (H : ∀ i j,i<bs.length→j<c→VT.le (φ i j) (ψ i j)):Own.le (cZ T L c bs φ) (cZ T L c bs ψ) :=
 ⟨rfl,fun g h hp i b hb=>(kn (fun q hq=>H i q (List.getElem?_eq_some_iff.1 hb).1 hq)).2 g h (hp i b hb)⟩
theorem iU {T:TypeId} {L:Lay} {c:Nat} {bs:List Nat} {φ ψ:Nat→Nat→VT} (H : ∀ i j,i<bs.length→j<c→φ i j=ψ i j):Own.le (cZ T L c bs φ) (cZ T L c bs ψ) :=
 p7 fun i j hi hj=>H i j hi hj▸VT.le_refl _
theorem yA {T T':TypeId} {L:Lay} [LayOf P T L] {x:Operand} {b i' j c:Nat} {bs:List Nat} {φ:Nat→Nat→VT} (k:Nat) (hx:aB Γ x=some (eP b j L.sz)) (hM:M[k]? = some (cZ T' L c bs φ)) (hb':bs[i']? = some b) (hj:j<c) :
  aC P E Γ M ⟨d, .load T x,ty,pos,af,gd⟩ (φ i' j) :=
 aC.ofRun fun a w hb hf=>by
  have h1:a.eval x = .pointer (some ⟨b,j*L.sz,none⟩):=hf x _ (by simp [Op.operands]) hx
  obtain ⟨_,_,_,h4⟩:=dA hb hM i' b hb'
  obtain ⟨c,hc,_,he⟩:=h4 b Z
  obtain ⟨v,hx',hp⟩:=he j hj
  refine ⟨v,?_,hp⟩
  simp only [execOp,h1,Instr.loadAt,Instr.sureAddr,Sem.run_bind,Sem.run_pure,Result.andThen_ok,dk hc hx']
def iV (φ:Nat→Nat→VT) (i j:Nat) (ψ:VT):Nat→Nat→VT:=fun q k=>if q=i∧k=j then ψ else φ q k
theorem uD {M:Mem} {k:Nat} {o:Own} (hn:(aS M).Nodup) (hM:M[k]? = some o):o.bl.Nodup:=by
 induction M generalizing k with
 | nil => simp at hM
 | cons x M ih =>
  rw [blks_cons,List.nodup_append] at hn
  cases k with
  | zero => simp at hM; subst hM; exact hn.1
  | succ k => simp at hM; exact ih hn.2.1 hM
theorem fD {T T':TypeId} {x y:Operand} {b i' k c:Nat} {bs:List Nat} {φ:Nat→Nat→VT} {L:Lay} {ψ:VT} [hL:LayOf P T L] [hF:Flat ψ L] (j:Nat) (hx:aB Γ x=some (eP b k L.sz)) (hy:aB Γ y=some ψ)
  (hM:M[j]? = some (cZ T' L c bs φ)) (hb':bs[i']? = some b) (hk:k<c) (hi:ops[i]? = some ⟨none, .store T x y,ty,pos,af,none⟩)
  (h:Run P E ops false (i+1) D Γ (M.set j (cZ T' L c bs (iV φ i' k ψ))) os K):Run P E ops false i D Γ M (⟨none, .store T x y,ty,pos,af,none⟩ :: os) K:=by
 refine Run.one (K':=fun D' Γ' M'=>D'=D∧Γ'=Γ∧M'=M.set j (cZ T' L c bs (iV φ i' k ψ))) Z (fun a w hS => ?_) (fun D' Γ' M' ⟨h1,h2,h3⟩=>by subst h1 h2 h3;exact h) hi
 have h1:a.eval x = .pointer (some ⟨b,k*L.sz,none⟩):=cq hS hx
 have h2:=cq hS hy
 obtain ⟨f1,f2,f3⟩:=hF.ok _ _ h2
 have hnd:=uD hS.base.nd hM
 have hall:=dA hS.base hM
 obtain ⟨g1,g2,g3,g4⟩:=hall i' b hb'
 obtain ⟨cc,hc,hs,he⟩:=g4 b Z
 have hmul : ∀ q,q<c→q*L.sz+L.sz≤c*L.sz:=fun q hq=>by
  have:=Nat.mul_le_mul_right L.sz (show q+1≤c by omega);rwa [Nat.succ_mul] at this
 have hfit:k*L.sz+L.sz≤cc.size:=by rw [hs]; exact hmul k hk
 have hst:=dq (P:=P) (T:=T) (L:=L) (o:=k*L.sz) hc f1 hfit f2
 refine ⟨.ok .skip (w.setRow b (ct cc (k*L.sz) (a.eval y).cells)),?_,D, Γ,_,⟨rfl,rfl,rfl⟩,?_⟩
 ·simp only [execOp,h1,Instr.storeAt,Instr.sureAddr,Sem.run_bind,Sem.run_pure,Result.andThen_ok,hst]
 ·show St E D Γ _ a _
  have hbm:b∈bs:=List.mem_of_getElem? hb'
  refine hS.own hM Z (fun k' hk'=>c7 _ _ _ _ (by intro e;exact hk' (by rw [e]; exact hbm))) (dI _ _ _) Z Z Z ?_
  intro q b' hq
  have hlen:=List.getElem?_eq_some_iff.1 hb'
  have hlen2:=List.getElem?_eq_some_iff.1 hq
  by_cases e:q=i'
  ·subst e
   have:b'=b:=by rw [hb'] at hq;cases hq;rfl
   subst this
   refine ⟨g1,g2,g3,fun b'' hb'' => ?_⟩
   cases hb''
   refine ⟨_,dH hc,by rw [cP X]; exact hs,fun q' hq' => ?_⟩
   show ∃ x,_∧(iV φ q k ψ q q').p x _
   unfold iV
   by_cases e:q'=k
   ·subst e;rw [if_pos ⟨rfl,rfl⟩]; exact ⟨_,dN hfit f1 f3,h2⟩
   ·rw [if_neg (fun h=>e h.2)]
    obtain ⟨v,hv,hp⟩:=he q' hq'
    refine ⟨v,?_,hp⟩
    rw [dg X]; · exact hv
    rw [f1]
    rcases Nat.lt_or_ge q' k with h' | h'
    ·left
     have:=Nat.mul_le_mul_right L.sz (show q'+1≤k by omega);rwa [Nat.succ_mul] at this
    ·right
     have:=Nat.mul_le_mul_right L.sz (show k+1≤q' by omega);rwa [Nat.succ_mul] at this
  ·have hne:b'≠b:=by
    intro eb
    have h3:bs[q]'hlen2.1=bs[i']'hlen.1:=by rw [hlen2.2,hlen.2,eb]
    have hpw:=List.pairwise_iff_getElem.1 hnd
    rcases Nat.lt_or_gt_of_ne e with h4 | h4
    ·exact hpw q i' hlen2.1 hlen.1 h4 h3
    ·exact hpw i' q hlen.1 hlen2.1 h4 h3.symm
   have hrow:=hall q b' hq
   have e2 : ∀ j',iV φ i' k ψ q j'=φ q j':=fun j'=>by unfold iV;rw [if_neg (fun h=>e h.1)]
   have e3:(iV φ i' k ψ q)=φ q:=funext e2
   rw [e3]
   refine (aH (some b') T' L c c (φ q)).loc (fun b'' hb'' => ?_) (Hp.le_refl _) hrow
   have:b''=b':=by simpa [aH] using hb''
   subst this
   exact (fJ (c7 _ _ _ _ hne)).symm
/-! ### The same memory in another form -/
structure ConvM (M M':Mem):Prop where
 pm:(aS M).Perm (aS M')
 mem : ∀ g h,(∀ o∈M,o.p g h) → ∀ o∈M',o.p g h
theorem tu {M':Mem} {a:Act} {w:World} (h:ConvM M M') (hS:St E D Γ M a w):St E D Γ M' a w:=by
 have hmem : ∀ b,b∈E.O ++ aS M↔b∈E.O ++ aS M':=fun b=>by simp only [List.mem_append,h.pm.mem_iff]
 have e:hv E M w=hv E M' w:=by
  funext b;simp only [hv,hid,hmem b]
 refine ⟨⟨?_,h.pm.nodup_iff.1 hS.base.nd,fun b hb=>hS.base.dis b (h.pm.mem_iff.2 hb),fun b hb=>hS.base.lo b (h.pm.mem_iff.2 hb),fun b hb=>hS.base.ex b ((hmem b).2 hb),hS.base.fr⟩,hS.sz,hS.df,fun t φ ht=>e▸hS.tm t φ ht⟩
 have:=h.mem (raw w) (hv E M w) hS.base.mem
 intro o ho
 have e':hid (E.O ++ aS M') (view w)=hv E M w:=e.symm
 rw [e']; exact this o ho
theorem iW {M':Mem} {c:Code} (h:ConvM M M') (hj:J P E D Γ M' c Q):J P E D Γ M c Q:=fun a w hS=>hj a w (tu h hS)
theorem fx {M':Mem} {e:Exit} (h:ConvM M M') (hj:PJ E D Γ M' e Q):PJ E D Γ M e Q:=fun a w hS=>hj a w (tu h hS)
theorem ConvM.ofPerm {M':Mem} (h:M.Perm M'):ConvM M M':=⟨gc h,fun g k H o ho=>H o (h.mem_iff.2 ho)⟩
theorem ConvM.trans {BV B C:Mem} (h:ConvM BV B) (k:ConvM B C):ConvM BV C:=⟨h.pm.trans k.pm,fun g h' H=>k.mem g h' (h.mem g h' H)⟩
theorem ConvM.rows0 {T:TypeId} {L:Lay} {c:Nat} {φ:Nat→Nat→VT} (M:Mem):ConvM M (M ++ [cZ T L c [] φ]) :=
 ⟨by simp [bj,cZ],fun g h H o ho=>(List.mem_append.1 ho).elim (H o) (fun e=>by
  rw [List.mem_singleton.1 e]; intro i b hb;simp at hb)⟩
theorem kq : ∀ {M:Mem} {k:Nat} {o o':Own} {b:List Nat},M[k]? = some o→o'.bl=o.bl ++ b→(aS (M.set k o')).Perm (b ++ aS M)
 | [], _, _, _, _, h, _ => by simp at h
 | x :: M, 0, o, o', b, h, e => by
  simp at h;subst h
  show (o'.bl ++ aS M).Perm (b ++ (x.bl ++ aS M))
  rw [e, ← List.append_assoc]; exact List.perm_append_comm.append_right _
 | x :: M, k + 1, o, o', b, h, e => by
  simp at h
  show (x.bl ++ aS (M.set k o')).Perm (b ++ (x.bl ++ aS M))
  refine ((kq h e).append_left _).trans ?_
  rw [← List.append_assoc, ← List.append_assoc]
  exact List.perm_append_comm.append_right _
theorem ConvM.row {T:TypeId} {L:Lay} {c b k:Nat} {bs:List Nat} {φ:Nat→Nat→VT} {ψ:Nat→VT} (hM:M[k]? = some (cZ T L c bs φ)) :
  ConvM (aH (some b) T L c c ψ :: M) (M.set k (cZ T L c (bs ++ [b]) (fun q=>if q<bs.length then φ q else ψ))):=by
 refine ⟨(kq (b := [b]) hM Z).symm,fun g h H o ho => ?_⟩
 obtain ⟨j,hj⟩:=List.mem_iff_getElem?.1 ho
 rw [List.getElem?_set] at hj
 by_cases e:k=j
 ·subst e
  have hlt:=(List.getElem?_eq_some_iff.1 hM).1
  simp [hlt] at hj;subst hj
  intro q b' hq
  by_cases hql:q<bs.length
  ·rw [List.getElem?_append_left hql] at hq
   have:=H _ (List.mem_cons_of_mem _ (List.mem_of_getElem? hM)) q b' hq
   show (aH (some b') T L c c (if q<bs.length then φ q else ψ)).p g h
   rw [if_pos hql]; exact this
  ·have hlt2:=(List.getElem?_eq_some_iff.1 hq).1
   simp at hlt2
   have e:q=bs.length:=by omega
   subst e
   simp at hq
   subst hq
   show (aH (some b) T L c c (if bs.length<bs.length then φ bs.length else ψ)).p g h
   rw [if_neg hql]; exact H _ List.mem_cons_self
 ·simp [e] at hj
  exact H o (List.mem_cons_of_mem _ (List.mem_of_getElem? hj))
/-! ### Own memory is opened -/
structure Opn (Ms:Mem) (g:RH) (h h':Hp):Prop where
 le:Hp.le h h'
 eq : ∀ b∈aS Ms,vw g b=h' b
 mem : ∀ o∈Ms,o.p g h
def Ent (Ms:Mem) (φ ψ:VT):Prop := ∀ g h h' v,Opn Ms g h h'→φ.p v h→ψ.p v h'
def p8 (Ms:Mem) (o o':Own):Prop:=o.bl=o'.bl ∧ ∀ g h h',Opn Ms g h h'→o.p g h→o'.p g h'
inductive EntM (Ms:Mem):Mem→Mem→Prop
 | nil : EntM Ms [] []
 | keep {o o' M M'} : p8 Ms o o' → EntM Ms M M' → EntM Ms (o :: M) (o' :: M')
theorem EntM.blks {Ms BV B:Mem} (h:EntM Ms BV B):Tor.aS BV=Tor.aS B:=by
 induction h with
 | nil => rfl
 | keep h _ ih => rw [blks_cons, blks_cons, h.1, ih]
theorem EntM.mem {Ms BV B:Mem} (h:EntM Ms BV B) : ∀ o'∈B, ∃ o∈BV,p8 Ms o o':=by
 induction h with
 | nil => intro o ho; cases ho
 | keep h _ ih =>
  intro o ho
  rcases List.mem_cons.1 ho with rfl | ho
  ·exact ⟨_,List.mem_cons_self,h⟩
  ·obtain ⟨x,hx,hx'⟩:=ih o ho;exact ⟨x,List.mem_cons_of_mem _ hx,hx'⟩
def uE (Ms:Mem) (Γ Γ':Ctx):Prop := ∀ t ψ,bt Γ' t=some ψ → ∃ φ,bt Γ t=some φ∧Ent Ms φ ψ
theorem Ent.refl {Ms:Mem} (φ:VT):Ent Ms φ φ:=fun g h h' v ho hp=>φ.mono ho.le hp
theorem Ent.le {Ms:Mem} {φ ψ:VT} (h:VT.le φ ψ):Ent Ms φ ψ:=fun g h0 h' v ho hp=>ψ.mono ho.le (h _ _ hp)
theorem p8.refl {Ms:Mem} (o:Own):p8 Ms o o:=⟨rfl,fun g h h' ho hp=>o.loc (fun _ _=>rfl) ho.le hp⟩
theorem EntM.refl {Ms:Mem} : ∀ M:Mem,EntM Ms M M
 | [] => .nil
 | o :: M => .keep (p8.refl o) (EntM.refl M)
theorem uE.refl {Ms:Mem} (Γ:Ctx):uE Ms Γ Γ:=fun t ψ h=>⟨ψ,h,Ent.refl _⟩
theorem uE.set {Ms:Mem} {t:Nat} {φ ψ:VT} (h:bt Γ t=some φ) (he:Ent Ms φ ψ):uE Ms Γ ((t, ψ) :: Γ):=fun s χ hs=>by
 rw [aW] at hs
 split at hs
 ·rename_i e;subst e;cases hs;exact ⟨φ,h,he⟩
 ·exact ⟨χ,hs,Ent.refl _⟩
theorem oK {Ms Kp Kp':Mem} {Γ':Ctx} {a:Act} {w:World} (hp:M.Perm (Ms ++ Kp)) (hk:EntM Ms Kp Kp') (hg:uE Ms Γ Γ') (hS0:St E D Γ M a w):St E D Γ' Kp' a w:=by
 have hS:=ko hp hS0
 have eb:=hk.blks
 have hopn:Opn Ms (raw w) (hv E (Ms ++ Kp) w) (hv E Kp' w):=by
  refine ⟨?_,?_,fun o ho=>hS.base.mem o (List.mem_append.2 (.inl ho))⟩
  ·unfold hv
   refine lX fun b hb => ?_
   rw [← eb] at hb
   rw [bj]
   rcases List.mem_append.1 hb with h | h
   ·exact List.mem_append.2 (.inl h)
   ·exact List.mem_append.2 (.inr (List.mem_append.2 (.inr h)))
  ·intro b hb
   have hbM:b∈aS (Ms ++ Kp):=by rw [bj]; exact List.mem_append.2 (.inl hb)
   have hnd:=hS.base.nd
   rw [bj,List.nodup_append] at hnd
   have h:b ∉ E.O ++ aS Kp':=by
    rw [← eb,List.mem_append,not_or]
    exact ⟨hS.base.dis b hbM,fun h=>hnd.2.2 b hb b h Z⟩
   simp only [hv,hid,if_neg h]; rfl
 have hsub:SubM (Ms ++ Kp) Kp:=SubM.dropN Ms
 have hB:=hS.base.sub hsub
 refine ⟨⟨fun o' ho' => ?_,eb▸hB.nd,fun b hb=>hB.dis b (eb▸hb),fun b hb=>hB.lo b (eb▸hb),fun b hb=>hB.ex b (eb▸hb),hB.fr⟩,hS.sz,hS.df,fun t ψ ht => ?_⟩
 ·obtain ⟨o,ho,he⟩:=hk.mem o' ho'
  exact he.2 _ _ _ hopn (hS.base.mem o (List.mem_append.2 (.inr ho)))
 ·obtain ⟨φ,hφ,he⟩:=hg t ψ ht
  exact he _ _ _ _ hopn (hS.tm t φ hφ)
theorem iX {c:Code} (Ms:Mem) {Kp Kp':Mem} {Γ':Ctx} (hp:M.Perm (Ms ++ Kp)) (hk:EntM Ms Kp Kp') (hg:uE Ms Γ Γ') (h:J P E D Γ' Kp' c Q):J P E D Γ M c Q:=fun a w hS=>h a w (oK hp hk hg hS)
theorem fW {e:Exit} (Ms:Mem) {Kp Kp':Mem} {Γ':Ctx} (hp:M.Perm (Ms ++ Kp)) (hk:EntM Ms Kp Kp') (hg:uE Ms Γ Γ') (h:PJ E D Γ' Kp' e Q):PJ E D Γ M e Q:=fun a w hS=>h a w (oK hp hk hg hS)
theorem wb (Ms:Mem) {Kp Kp':Mem} {Γ':Ctx} (hp:M.Perm (Ms ++ Kp)) (hk:EntM Ms Kp Kp') (hg:uE Ms Γ Γ') (h:Run P E ops false i D Γ' Kp' os K):Run P E ops false i D Γ M os K := .conv (fun a w hS=>oK hp hk hg hS) h
theorem Ent.slE {Ms:Mem} {sv:Option Nat} {T:TypeId} {L:Lay} {cap n:Nat} {φ ψ:Nat→VT} (hm:aH sv T L cap n φ∈Ms) (H : ∀ q,q<n→Ent Ms (φ q) (ψ q)):Ent Ms (one (slV sv n cap)) (slT L n ψ):=by
 intro g h h' v ho hv
 have hv:v=slV sv n cap:=hv
 subst hv
 obtain ⟨h1,h2,h3,h4⟩:=ho.mem _ hm
 cases sv with
 | none =>
  have hc:=h3 Z
  exact ⟨none,cap,rfl,h1,h2,fun i hi=>by omega⟩
 | some b =>
  obtain ⟨c,hc,hs,he⟩:=h4 b Z
  refine ⟨some ⟨b,0,none⟩,cap,rfl,h1,h2,fun i hi => ?_⟩
  obtain ⟨x,hx,hp⟩:=he i hi
  exact ⟨b,0,c,T,(0,0),x,rfl,by rw [← ho.eq b (cJ hm (by simp [aH]))]; exact hc,by rw [Nat.zero_add]; exact hx,H i hi g h h' x ho hp⟩
theorem Ent.sl {Ms:Mem} {sv:Option Nat} {T:TypeId} {L:Lay} {cap n:Nat} {φ:Nat→VT} (hm:aH sv T L cap n φ∈Ms):Ent Ms (one (slV sv n cap)) (slT L n φ):=Ent.slE hm fun q _=>Ent.refl _
theorem Ent.row {Ms:Mem} {T:TypeId} {L:Lay} {c i b:Nat} {bs:List Nat} {φ:Nat→Nat→VT} (hm:cZ T L c bs φ∈Ms) (hb:bs[i]? = some b):Ent Ms (one (slV (some b) c c)) (slT L c (φ i)):=by
 intro g h h' v ho hv
 have hv:v=slV (some b) c c:=hv
 subst hv
 obtain ⟨h1,h2,h3,h4⟩:=ho.mem _ hm i b hb
 obtain ⟨x,hc,hs,he⟩:=h4 b Z
 refine ⟨some ⟨b,0,none⟩,c,rfl,h1,h2,fun j hj => ?_⟩
 obtain ⟨y,hy,hp⟩:=he j hj
 exact ⟨b,0,x,T,(0,0),y,rfl,by rw [← ho.eq b (cJ hm (List.mem_of_getElem? hb))]; exact hc,by rw [Nat.zero_add]; exact hy,(φ i j).mono ho.le hp⟩
def oL (Ms:Mem) (cs cs':bW):Prop := ∀ q∈cs', ∃ ψ,(q.1,q.2.1, ψ)∈cs∧Ent Ms ψ q.2.2
theorem oL.ok {Ms:Mem} {cs cs':bW} (hE:oL Ms cs cs') {g:RH} {h h':Hp} (ho:Opn Ms g h h') {c:Array Value} (hc:gk cs c h):gk cs' c h':=fun q hq=>by
 obtain ⟨ψ,h1,h2⟩:=hE q hq
 obtain ⟨x,hx,hp⟩:=hc _ h1
 exact ⟨x,hx,h2 g h h' x ho hp⟩
theorem Ent.agg {Ms:Mem} {m:Nat} {cs cs':bW} (hE:oL Ms cs cs'):Ent Ms (bE m cs) (bE m cs') :=
 fun g h h' v ho ⟨c,h1,h2,h3,h4⟩=>⟨c,h1,h2,h3,hE.ok ho h4⟩
theorem p8.box {Ms:Mem} {b:Nat} {T:TypeId} {m:Nat} {cs cs':bW} (hE:oL Ms cs cs'):p8 Ms (aT b T m cs) (aT b T m cs') :=
 ⟨rfl,fun g h h' ho ⟨c,h1,h2,h3,h4⟩=>⟨c,h1,h2,h3,hE.ok ho h4⟩⟩
theorem oL.cons {Ms:Mem} {cs:bW} {k:Nat} {L:Lay} {φ ψ:VT} {cs':bW} (h:(k,L, φ)∈cs) (he:Ent Ms φ ψ) (hr:oL Ms cs cs'):oL Ms cs ((k,L, ψ) :: cs'):=fun q hq=>by
 rcases List.mem_cons.1 hq with rfl | hq
 ·exact ⟨φ,h,he⟩
 ·exact hr q hq
theorem OkM.ok {σ:Type} {f:FuncId} {φs:List VT} {ψ:σ→VT} {Ms:σ→Mem} {χ:VT} (h:OkM P f φs ψ Ms) (H : ∀ s,Ent (Ms s) (ψ s) χ):Ok P f φs χ:=by
 intro w O vs hO hp
 refine jG.mono (h w O vs hO hp) ?_
 rintro e w' ⟨s,v,rfl,hv',hext,hmem,hnd,hb⟩
 refine ⟨v,rfl,?_,hext⟩
 refine H s (raw w') _ _ v ⟨lX fun b hb=>List.mem_append.2 (.inl hb),fun b hb' => ?_,hmem⟩ hv'
 simp only [hid,if_neg (hb b hb').2.2]; rfl
theorem oL.nil {Ms:Mem} {cs:bW} : oL Ms cs []:=fun q hq=>by cases hq
end
end Tor
end
section
namespace Tor
open Go Go.RowKit
variable [Tor.Co.Kc]
section
variable {P:Program} {E:Env} {D:List Deferred} {Γ:Ctx} {M:Mem} {Q:Exit→Act→World→Prop}
variable {ops:Array Oper} {i:Nat} {ty:TypeId} {pos:String} {af:Array Edge} {os:List Oper} {K:List Deferred→Ctx→Mem→Prop} {d:Option Tmp} {gd:Option (Nat × Bool)}
/-! ### Function values -/
def jB (f:FuncId) (cs:List VT):VT where
 p v h := ∃ ca:List Value,v = .func (.func f) #[] ca.toArray∧fb cs ca h
 mono:=fun H ⟨ca,h1,h2⟩=>⟨ca,h1,eI H h2⟩
theorem Ao {f:FuncId} : VT.le (one (.func (.func f) #[] #[])) (jB f []):=fun v h e=>⟨[],e,Cg⟩
def fE (P:Program) (cl:VT) (φs:List VT) (ψ:VT):Prop := ∀ v h,cl.p v h → ∃ (f:FuncId) (cs:List VT),Fn P f∧(jB f cs).p v h∧Ok P f (φs ++ cs) ψ
theorem fE.clo {f:FuncId} [hF:Fn P f] {cs φs:List VT} {ψ:VT} (h:Ok P f (φs ++ cs) ψ):fE P (jB f cs) φs ψ:=fun v g hv=>⟨f,cs,hF,hv,h⟩
theorem fE.fn {f:FuncId} [hF:Fn P f] {φs:List VT} {ψ:VT} (h:Ok P f φs ψ):fE P (one (.func (.func f) #[] #[])) φs ψ:=fun v g hv=>⟨f, [],hF,Ao v g hv,by simpa using h⟩
theorem mA {h:Hp} : ∀ {φs ψs:List VT} {vs us:List Value},fb φs vs h→fb ψs us h→fb (φs ++ ψs) (vs ++ us) h
 | [], _, [], _, _, k => k
 | _ :: _, _, _ :: _, _, ⟨a, b⟩, k => ⟨a, mA b k⟩
 | [], _, _ :: _, _, h, _ => h.elim
 | _ :: _, _, [], _, h, _ => h.elim
theorem lZ {t:Operand} {cl:VT} {xs:Array Operand} {ats:Array TypeId} {φs φs':List VT} {ψ:VT} (hC:fE P cl φs' ψ) (ht:aB Γ t=some cl) (hx:fB Γ xs.toList=some φs) (hle:gK φs φs') :
  aC P E Γ M ⟨d, .call ⟨.value t,xs,ats⟩,ty,pos,af,gd⟩ ψ:=by
 intro a w hb hf next hn
 have hp:=fv (a:=a) (h:=hv E M w) hx (fun x φ hx' he=>hf x φ (by simp [Op.operands,Call.operands]; exact .inr (by simpa using hx')) he)
 obtain ⟨f,cs,hF,⟨ca,h0,hca⟩,hok⟩:=hC _ _ (hf t _ (by simp [Op.operands,Call.operands]) ht)
 have:=hok w (E.O ++ aS M) _ hb.ex (mA (fU hle hp) hca)
 refine ⟨fun _=>by
  show Co.Plain P (Sem.bind (Deferred.ofValue (a.eval t) _) _)
  rw [h0]; exact hF.plain _,?_⟩
 have hr:(execOp a.eval ⟨d, .call ⟨.value t,xs,ats⟩,ty,pos,af,gd⟩).run P w = .ok (.enter f ((xs.toList.map a.eval) ++ ca).toArray) w:=by
  have h9:(xs.map a.eval)=(xs.toList.map a.eval).toArray:=by simp [← Array.toList_map]
  simp [execOp,resolve,Deferred.ofValue,invoke,h0,hF.run,h9]
 rw [hr]
 refine ig this ?_
 rintro e w' ⟨v,rfl,hv',hext⟩
 exact ⟨v,rfl,hn v w' hext hv'⟩
theorem jN {f:FuncId} {xs:Array Operand} {φs:List VT} (hx:fB Γ xs.toList=some φs):aC P E Γ M ⟨d, .makeFunc (.func f) #[] xs,ty,pos,af,gd⟩ (jB f φs) :=
 aC.ofRun fun a w hb hf=>by
  have hp:=fv (a:=a) (h:=hv E M w) hx (fun x φ hx' he=>hf x φ (by simp [Op.operands]; simpa using hx') he)
  have h9:(xs.map a.eval)=(xs.toList.map a.eval).toArray:=by simp [← Array.toList_map]
  exact ⟨_,by simp [execOp,Instr.makeFunc,h9,Sem.run_bind],_,rfl,hp⟩
theorem Ent.clo {Ms:Mem} {f:FuncId} {cs cs':List VT} (h : ∀ g h0 h' vs,Opn Ms g h0 h'→fb cs vs h0→fb cs' vs h'):Ent Ms (jB f cs) (jB f cs'):=fun g h0 h' v ho ⟨ca,e,hc⟩=>⟨ca,e,h g h0 h' ca ho hc⟩
theorem Ent.clo1 {Ms:Mem} {f:FuncId} {φ ψ:VT} (h:Ent Ms φ ψ):Ent Ms (jB f [φ]) (jB f [ψ]):=Ent.clo fun g h0 h' vs ho hc=>by
 cases vs with
 | nil => exact hc.elim
 | cons v vs => exact ⟨h g h0 h' v ho hc.1, by cases vs with | nil => trivial | cons _ _ => exact hc.2.elim⟩
theorem Ent.ptr {Ms:Mem} {b m:Nat} {T:TypeId} {L:Lay} {φ:VT} {cs:bW} (hm:aT b T m cs∈Ms) (hl:(0,L, φ)∈cs):Ent Ms (one (.pointer (some ⟨b,0,none⟩))) (bL L φ):=by
 intro g h h' v ho hv
 have hv:v=_:=hv
 subst hv
 obtain ⟨c,h1,h2,h3,h4⟩:=ho.mem _ hm
 obtain ⟨x,hx,hp⟩:=h4 _ hl
 exact ⟨b,0,c,T,(0,0),x,rfl,by rw [← ho.eq b (cJ hm (by simp [aT]))]; exact h1,hx, φ.mono ho.le hp⟩
theorem p9 {T T':TypeId} {x y:Operand} {b m:Nat} {cs:bW} {ψ:VT} [hL:LayOf P T (.agg m)] [hF:Flat ψ (.agg m)] (j:Nat) (hx:aB Γ x=some (one (.pointer (some ⟨b,0,none⟩)))) (hy:aB Γ y=some ψ)
  (hM:M[j]? = some (aT b T' m cs)) (hi:ops[i]? = some ⟨none, .store T x y,ty,pos,af,none⟩)
  (h:Run P E ops false (i+1) D Γ (M.set j (aT b T' m [(0, .agg m, ψ)])) os K):Run P E ops false i D Γ M (⟨none, .store T x y,ty,pos,af,none⟩ :: os) K:=by
 refine Run.one (K':=fun D' Γ' M'=>D'=D∧Γ'=Γ∧M'=M.set j (aT b T' m [(0, .agg m, ψ)])) Z (fun a w hS => ?_) (fun D' Γ' M' ⟨h1,h2,h3⟩=>by subst h1 h2 h3;exact h) hi
 have h1:a.eval x = .pointer (some ⟨b,0,none⟩):=cq hS hx
 have h2:=cq hS hy
 obtain ⟨f1,f2,f3⟩:=hF.ok _ _ h2
 have f1:(a.eval y).cells.size=m:=f1
 obtain ⟨c,hc,hs,hall,hcs⟩:=dA hS.base hM
 have hst:=dq (P:=P) (T:=T) (L := .agg m) (v:=a.eval y) (o:=0) hc f1 (by simp [Lay.sz,hs]) f2
 have hsp:ct c 0 (a.eval y).cells=(a.eval y).cells:=by
  apply Array.ext_getElem?; intro k
  rw [dT X]
  by_cases hk:k<(a.eval y).cells.size
  ·rw [if_pos X]; rfl
  ·rw [if_neg X,Array.getElem?_eq_none X,Array.getElem?_eq_none X]
 refine ⟨.ok .skip (w.setRow b (a.eval y).cells),?_,D, Γ,_,⟨rfl,rfl,rfl⟩,?_⟩
 ·simp only [execOp,h1,Instr.storeAt,Instr.sureAddr,Sem.run_bind,Sem.run_pure,Result.andThen_ok,hst,hsp]
 ·show St E D Γ _ a _
  refine hS.own hM Z (fun k hk=>c7 _ _ _ _ (by intro e;exact hk (by simp [aT,e]))) (dI _ _ _) Z Z Z ?_
  refine ⟨_,dH hc,f1,f2,fun q hq => ?_⟩
  have hq:=List.mem_singleton.1 hq
  subst hq
  exact ⟨_,f3,h2⟩
/-! ### A slice compared with nil -/
theorem uF {T e:TypeId} [hS:SliceOf P T e] (a:Option Addr) (n c:Nat) (w:World):(Op.equal T (.slice a n c) (.slice none 0 0)).run P w = .ok a.isNone w:=by
 show (Op.equalIn (9999+1) T _ _).run P w=_
 unfold Op.equalIn
 rw [Sem.run_bind,aO hS.und]
 cases a <;> rfl
theorem wc {T T' e:TypeId} [hS:SliceOf P T e] {x:Operand} {L:Lay} {n:Nat} {φ:Nat→VT} (hx:aB Γ x=some (slT L n φ)):PlO P E Γ M ⟨d, .binOp .eql T x (.const (.slice none 0 0)) T',ty,pos,af,gd⟩:=fun ac w hb hf _=>by
 obtain ⟨a,cap,h1,_⟩:=hf x _ (by simp [Op.operands]) hx
 have hc:ac.eval (.const (.slice none 0 0)) = .slice none 0 0:=rfl
 refine Co.Plain.bind (Co.Plain.bind ?_ fun _ => ?_) fun _=>Co.pl_ret _
 ·rw [h1,hc]; unfold eqGuard;split <;> exact Co.pl_ret _
 ·rw [h1,hc]
  refine Co.Plain.bind (?_:Co.Plain P (Op.equalIn (9999+1) T _ _)) fun _=>Co.pl_ret _
  unfold Op.equalIn
  refine eU hS.und ?_
  cases a <;> exact Co.pl_ret _
theorem tv {T T' e:TypeId} [hS:SliceOf P T e] {x:Operand} {L:Lay} {n:Nat} {φ:Nat→VT} (hx:aB Γ x=some (slT L n φ)) :
  aC P E Γ M ⟨d, .binOp .eql T x (.const (.slice none 0 0)) T',ty,pos,af,gd⟩ (exT fun b:Bool=>cj (b=true→n=0) (one (.bool b))) :=
 aC.ofRun (hp:=wc hx) fun ac w hb hf=>by
  obtain ⟨a,cap,h1,h2,h3,h4⟩:=hf x _ (by simp [Op.operands]) hx
  have hc:ac.eval (.const (.slice none 0 0)) = .slice none 0 0:=rfl
  refine ⟨.bool a.isNone,?_,a.isNone,fun hn => ?_,rfl⟩
  ·simp only [execOp,h1,hc,eqGuard,binOp,Sem.run_bind,uF]; rfl
  ·cases a with
   | some _ => cases hn
   | none =>
    rcases Nat.eq_zero_or_pos n with h | h
    ·exact h
    ·obtain ⟨b,o,c,T1,f,x,h5,_⟩:=h4 0 h;cases h5
end
end Tor
end
section
namespace Tor
open Go Go.RowKit
variable [Tor.Co.Kc]
section
variable {P:Program} {E:Env} {ops:Array Oper}
structure Cell where
 ta:Tmp
 T:TypeId
 L:Lay
 ψ:VT
def Env.hide (E:Env) (B:List Nat):Env := { E with O:=E.O ++ B }
def iq (o:Oper):Option (Tmp × TypeId):=match o.op,o.dst with | .alloc T,some d=>some (d,T) | _,_=>none
def fM (o:Oper):Option (Tmp × TypeId × Operand):=match o.op,o.dst with | .store T (.tmp t) y,none=>some (t,T,y) | _,_=>none
def bK (ops:Array Oper) (j:Nat):Option (Tmp × TypeId):=(ops[j]?).bind iq
def bN (ops:Array Oper) (j:Nat):Option (Tmp × TypeId × Operand):=(ops[j]?).bind fM
inductive OpU (P:Program) (E:Env) (M:Mem) (ops:Array Oper) (Γ:Ctx) (o:Oper) (C:List Cell):Ctx→List Cell→Prop
 | pure {Γ' : Ctx} : iq o = none → (∀ B, StepG P (E.hide B) Γ M ops o Γ') → OpU P E M ops Γ o C Γ' C
 | alloc {d : Nat} {T : TypeId} {L : Lay} {z : Value} {by' : Nat} {ty : TypeId} {pos : String} {af : Array Edge} (hL : LayOf P T L) (hZ : ZeroOf P T z by') (hF : Flat (one z) L) : o = ⟨some d, .alloc T, ty, pos, af, none⟩ → d < E.N → OpU P E M ops Γ o C Γ C
 | store {ta : Tmp} {T : TypeId} {L : Lay} {ψ : VT} {y : Operand} {ty : TypeId} {pos : String} {af : Array Edge} (hL : LayOf P T L) (hF : Flat ψ L) : o = ⟨none, .store T (.tmp ta) y, ty, pos, af, none⟩ → aB Γ y = some ψ → OpU P E M ops Γ o C Γ (⟨ta, T, L, ψ⟩ :: C)
inductive RunU (P:Program) (E:Env) (M:Mem) (ops:Array Oper):Nat→Ctx→List Cell→List Oper→(Ctx→List Cell→Prop)→Prop
 | nil {i Γ C K} : K Γ C → RunU P E M ops i Γ C [] K
 | step {i Γ C o os K Γ' C'} : OpU P E M ops Γ o C Γ' C' → RunU P E M ops (i + 1) Γ' C' os K → RunU P E M ops i Γ C (o :: os) K
theorem RunU.chain {M:Mem} {i:Nat} {Γ:Ctx} {C:List Cell} {os:List Oper} {K:Ctx→List Cell→Prop} (h:RunU P E M ops i Γ C os K) :
  ∃ (G:Nat→Ctx) (CC:Nat→List Cell),G i=Γ∧CC i=C∧K (G (i+os.length)) (CC (i+os.length)) ∧ ∀ j o,os[j]? = some o→OpU P E M ops (G (i+j)) o (CC (i+j)) (G (i+j+1)) (CC (i+j+1)):=by
 induction h with
 | @nil i Γ C K hK => exact ⟨fun _ => Γ, fun _ => C, rfl, rfl, hK, fun j o h => by simp at h⟩
 | @step i Γ C o os K Γ' C' hs _ ih =>
  obtain ⟨G,CC,h0,h1,hK,hG⟩:=ih
  refine ⟨fun j=>if j=i then Γ else G j,fun j=>if j=i then C else CC j,by simp,by simp,?_,fun j o' hj => ?_⟩
  ·have e1:i+(o :: os).length=i+1+os.length:=by simp only [List.length_cons]; omega
   have e2 : ¬ (i+(o :: os).length=i):=by simp only [List.length_cons]; omega
   simp only [if_neg e2,e1]; rw [e1] at e2;simp only [if_neg e2]; exact hK
  ·cases j with
   | zero =>
    simp only [List.getElem?_cons_zero,Option.some.injEq] at hj;subst hj
    have e : ¬ (i+0+1=i):=by omega
    simp only [Nat.add_zero,if_true] at e ⊢; rw [if_neg e,if_neg e,h0,h1]; exact hs
   | succ j =>
    simp only [List.getElem?_cons_succ] at hj
    have:=hG j o' hj
    have e1 : ¬ (i+(j+1)=i):=by omega
    have e2 : ¬ (i+(j+1)+1=i):=by omega
    simp only [if_neg e1,if_neg e2]
    rw [show i+(j+1)=i+1+j by omega]; exact this
def okU (ops:Array Oper):Bool :=
 dX ops.size ops &&
 ((List.range ops.size).all fun j=>match bK ops j with
  | some (d, T) => ((List.range ops.size).all fun i => i == j || dstOf ops i != some d) &&
    ((List.range ops.size).any fun s=>match bN ops s with | some (t,T',_)=>t == d && T' == T | none=>false)
  | none => true) &&
 ((List.range ops.size).all fun s=>match bN ops s with
  | some (t, T, _) => ((List.range ops.size).any fun j => match bK ops j with | some (d, T') => d == t && T' == T && eJ ops j s | none => false) &&
    ((List.range s).all fun s'=>match bN ops s' with | some (t',_,_)=>t' != t | none=>true)
  | none => true)
theorem eo {j:Nat} {x:Tmp × TypeId} (h:bK ops j=some x):j<ops.size:=by
 unfold bK at h
 rcases Nat.lt_or_ge j ops.size with h' | h'
 ·exact h'
 ·rw [Array.getElem?_eq_none h'] at h;cases h
theorem da {j:Nat} {x:Tmp × TypeId × Operand} (h:bN ops j=some x):j<ops.size:=by
 unfold bN at h
 rcases Nat.lt_or_ge j ops.size with h' | h'
 ·exact h'
 ·rw [Array.getElem?_eq_none h'] at h;cases h
theorem li {j:Nat} {x:Tmp} (h:dstOf ops j=some x):j<ops.size:=by
 unfold dstOf at h
 rcases Nat.lt_or_ge j ops.size with h' | h'
 ·exact h'
 ·rw [Array.getElem?_eq_none h'] at h;cases h
structure OkU (ops:Array Oper):Prop where
 any:dX ops.size ops=true
 al : ∀ j d T,bK ops j=some (d,T)→(∀ i,i≠j→dstOf ops i≠some d) ∧ ∃ s y,bN ops s=some (d,T,y)
 st : ∀ s t T y,bN ops s=some (t,T,y)→(∃ j,bK ops j=some (t,T)∧eJ ops j s=true) ∧ ∀ s' T' y',s'<s→bN ops s'≠some (t,T',y')
theorem wd (h:okU ops=true):OkU ops:=by
 simp only [okU,Bool.and_eq_true,List.all_eq_true,List.mem_range] at h
 obtain ⟨⟨h1,h2⟩,h3⟩:=h
 refine ⟨h1,fun j d T hj => ?_,fun s t T y hs => ?_⟩
 ·have:=h2 j (eo hj)
  rw [hj] at this
  simp only [Bool.and_eq_true,List.all_eq_true,List.mem_range,List.any_eq_true,Bool.or_eq_true,beq_iff_eq,bne_iff_ne] at this
  refine ⟨fun i hi hd => ?_,?_⟩
  ·rcases this.1 i (li hd) with h | h
   ·exact hi h
   ·exact h hd
  ·obtain ⟨s,_,hs⟩:=this.2
   cases hst:bN ops s with
   | none => rw [hst] at hs; cases hs
   | some x =>
    obtain ⟨t,T',y⟩:=x
    rw [hst] at hs
    simp only [Bool.and_eq_true,beq_iff_eq] at hs
    exact ⟨s,y,by rw [hst,hs.1,hs.2]⟩
 ·have:=h3 s (da hs)
  rw [hs] at this
  simp only [Bool.and_eq_true,List.all_eq_true,List.mem_range,List.any_eq_true] at this
  refine ⟨?_,fun s' T' y' hlt hs' => ?_⟩
  ·obtain ⟨j,_,hj⟩:=this.1
   cases hst:bK ops j with
   | none => rw [hst] at hj; cases hj
   | some x =>
    obtain ⟨d,T'⟩:=x
    rw [hst] at hj
    simp only [Bool.and_eq_true,beq_iff_eq] at hj
    exact ⟨j,by rw [hst,hj.1.1,hj.1.2],hj.2⟩
  ·have:=this.2 s' hlt
   rw [hs'] at this
   simp at this
theorem gY {n:Nat} (hok:dX n ops=true) {Q:Act→World→Prop} (Iv:Array Bool→Act→World→Prop)
  (hend : ∀ l a w,Iv l a w→(∀ j,j<ops.size→l.getD j false=true)→Q a w)
  (hstep : ∀ l a w i,Iv l a w→Lst ops l→i<ops.size→l.getD i false=false→i∈Region.ready .any ops l→Co.wpOpX P ops i (fun a' w'=>Iv (l.setIfInBounds i true) a' w') a w)
  (hgrow : ∀ l a w w₁,Iv l a w→Ext w w₁→Iv l a w₁) :
  ∀ (fuel:Nat) (l:Array Bool) (a:Act) (w:World),Lst ops l→left ops l≤fuel→Iv l a w→Co.wpAnyX P .any ops Q fuel l a w:=by
 have hall : ∀ l:Array Bool,Region.ready .any ops l = []→Lst ops l → ∀ j,j<ops.size→l.getD j false=true:=by
  intro l hr hl j hj
  rw [← Bool.not_eq_false]; intro h
  obtain ⟨i,hi⟩:=j9 hok hl.size hj h
  rw [hr] at hi;cases hi
 intro fuel
 induction fuel with
 | zero =>
  intro l a w hl hleft hI
  have hr:Region.ready .any ops l = []:=by
   rw [List.eq_nil_iff_forall_not_mem]
   intro i hi
   have h1:=cy hi
   have h2:=(mem_ready.1 hi).1
   rw [c5 (by have:=hl.size;omega) true false] at h2
   have:=dj (ops:=ops) hl.size h1 h2
   omega
  exact ⟨hr,hend l a w hI (hall l hr hl)⟩
 | succ f ih =>
  intro l a w hl hleft hI
  refine ⟨fun hr=>hend l a w hI (hall l hr hl),fun i hi w₁ hw₁ => ?_⟩
  have h1:=cy hi
  have h2:=(mem_ready.1 hi).1
  rw [c5 (by have:=hl.size;omega) true false] at h2
  have hls:=hl.size
  refine Co.wpOpX_mono (fun a' w' h' => ?_) (hstep l a w₁ i (hgrow l a w w₁ hI hw₁) hl h1 h2 hi)
  refine ih _ a' w' ⟨by simpa using hls,fun j hj i' hp => ?_⟩ (by have:=dj (ops:=ops) hls h1 h2;omega) h'
  rw [aZ X] at hj ⊢
  split
  ·rfl
  ·split at hj
   ·rename_i h3;subst h3;exact bS hi hp
   ·exact hl.closed j hj i' hp
theorem gZ {O O':List Nat} (h : ∀ b,b∈O↔b∈O') (k:Hp):hid O k=hid O' k:=by
 funext b;simp only [hid,h b]
def hb (ops:Array Oper) (l:Array Bool) (β:Nat→Nat):List Nat:=((List.range ops.size).filter fun j=>(bK ops j).isSome && l.getD j false).map β
theorem rT {l:Array Bool} {β:Nat→Nat} {b:Nat} : b∈hb ops l β ↔ ∃ j x,bK ops j=some x∧l.getD j false=true∧β j=b:=by
 simp only [hb,List.mem_map,List.mem_filter,List.mem_range,Bool.and_eq_true,Option.isSome_iff_exists]
 constructor
 ·rintro ⟨j,⟨_,⟨x,hx⟩,hl⟩,rfl⟩;exact ⟨j,x,hx,hl,rfl⟩
 ·rintro ⟨j,x,hx,hl,rfl⟩;exact ⟨j,⟨eo hx,⟨x,hx⟩,hl⟩,rfl⟩
theorem we {l:Array Bool} (hs:l.size=ops.size) {β:Nat→Nat} {i:Nat} (hi:i<ops.size) (h:bK ops i=none):hb ops (l.setIfInBounds i true) β=hb ops l β:=by
 unfold hb
 congr 1
 refine List.filter_congr fun j _ => ?_
 rw [aZ X]
 by_cases e:i=j
 ·subst e;rw [h]; rfl
 ·rw [if_neg e]
theorem LayOf.unique {T:TypeId} {L L':Lay} (h:LayOf P T L) (h':LayOf P T L'):L=L':=by
 obtain ⟨i,h1,h2⟩:=h.info
 obtain ⟨i',h1',h2'⟩:=h'.info
 obtain ⟨d,h3,h4⟩:=h.und
 obtain ⟨d',h3',h4'⟩:=h'.und
 rw [h1] at h1';cases h1'
 rw [h3] at h3';cases h3'
 have e1:L.sz=L'.sz:=by rw [← h2, ← h2']
 have e2:L.isAgg=L'.isAgg:=by rw [← h4, ← h4']
 cases L <;> cases L' <;> simp [Lay.isAgg,Lay.sz] at e1 e2 ⊢
 exact e1
structure InvU (P:Program) (E:Env) (D:List Deferred) (M:Mem) (ops:Array Oper) (G:Nat→Ctx) (w1:World) (a1:Act) (β:Nat→Nat) (l:Array Bool) (a:Act) (w:World):Prop where
 base:Base (E.hide (hb ops l β)) M w
 sz:a.tmps.size=E.N
 df:a.defers=D
 inv:Inv (E.hide (hb ops l β)) ops ops.size G M l a w
 inj : ∀ j j' x x',bK ops j=some x→bK ops j'=some x'→l.getD j false=true→l.getD j' false=true→β j=β j'→j=j'
 ap : ∀ j x,bK ops j=some x→l.getD j false=true→β j ∉ E.O ++ aS M∧w1.heap.size≤β j∧β j<w.heap.size
 cell : ∀ j d T,bK ops j=some (d,T)→l.getD j false=true→a.tmps.getD d undef = .pointer (some ⟨β j,0,none⟩) ∧
  ∃ c L,LayOf P T L∧view w (β j)=some (c,T,(0,0))∧c.size=L.sz∧c.all (·.oneCell')=true ∧
   ∀ s y ψ,bN ops s=some (d,T,y)→l.getD s false=true→aB (G s) y=some ψ → ∃ v,bP L c 0=some v∧ψ.p v (hv (E.hide (hb ops l β)) M w)
 keepW:Ext w1 w
 keepS : ∀ t,(∀ j,dstOf ops j≠some t)→a.tmps.getD t undef=a1.tmps.getD t undef
theorem InvU.ext {D:List Deferred} {M:Mem} {G:Nat→Ctx} {w1:World} {a1:Act} {β:Nat→Nat} {l:Array Bool} {a:Act} {w w':World} (h:InvU P E D M ops G w1 a1 β l a w) (k:Ext w w'):InvU P E D M ops G w1 a1 β l a w' where
 base:=h.base.ext k
 sz:=h.sz
 df:=h.df
 inv:=fun i hi t φ h1 h2 h3=>φ.mono (Base.hv_ext k) (h.inv i hi t φ h1 h2 h3)
 inj:=h.inj
 ap:=fun j x h1 h2=>let ⟨a,b,c⟩:=h.ap j x h1 h2;⟨a,b,Nat.lt_of_lt_of_le c k.size⟩
 cell:=fun j d T h1 h2=>let ⟨a,c,L,h3,h4,h5,h6,h7⟩:=h.cell j d T h1 h2;⟨a,c,L,h3,k.view _ _ h4,h5,h6,fun s y ψ e1 e2 e3=>let ⟨v,e4,e5⟩:=h7 s y ψ e1 e2 e3;⟨v,e4, ψ.mono (Base.hv_ext k) e5⟩⟩
 keepW:=h.keepW.trans k
 keepS:=h.keepS
theorem jO {M:Mem} {G:Nat→Ctx} {CC:Nat→List Cell} (hG : ∀ j o,ops[j]? = some o→OpU P E M ops (G j) o (CC j) (G (j+1)) (CC (j+1))) {t:Nat} {j:Nat} {o:Oper} (ho:ops[j]? = some o) (hno:dstOf ops j≠some t) :
  bt (G (j+1)) t=bt (G j) t:=by
 generalize hX:G (j+1)=BR
 generalize hY:CC (j+1)=BS
 have h:=hG j o ho
 rw [hX,hY] at h
 cases h with
 | pure _ hs =>
  obtain ⟨d, ψ,hd,_,hΓ,_⟩:=(hs []).run ho
  rw [hΓ,aW,if_neg]
  intro e;subst e;exact hno (by simp [dstOf,ho,hd])
 | alloc hL hZ hF he hd => rfl
 | store hL hF he hy => rfl
theorem ep {M:Mem} {G:Nat→Ctx} {CC:Nat→List Cell} (hG : ∀ j o,ops[j]? = some o→OpU P E M ops (G j) o (CC j) (G (j+1)) (CC (j+1))) {t:Nat} {i k:Nat} (hik:i≤k) (hk:k≤ops.size)
    (hno : ∀ j,i≤j→j<k→dstOf ops j≠some t):bt (G k) t=bt (G i) t:=by
  induction k with
  | zero => have : i = 0 := by omega
            subst this;rfl
  | succ k ih =>
    by_cases e:i=k+1
    · subst e;rfl
    · have hk':k<ops.size:=by omega
      have ho:ops[k]? = some ops[k]:=by simp [hk']
      rw [jO hG ho (hno k X X)]
      exact ih X X (fun j h1 h2=>hno j h1 X)
theorem InvU.names {D:List Deferred} {M:Mem} {G:Nat→Ctx} {w1:World} {a1:Act} {β:Nat→Nat} {l:Array Bool} {a:Act} {w:World} (hI:InvU P E D M ops G w1 a1 β l a w) (hok:dX ops.size ops=true) (hl:Lst ops l)
  {i:Nat} {o:Oper} (ho:ops[i]? = some o) (hi2:l.getD i false=false) (hi:i∈Region.ready .any ops l) :
  ∀ t φ,t∈iN ops o→bt (G i) t=some φ→φ.p (a.tmps.getD t undef) (hv (E.hide (hb ops l β)) M w):=by
 have hi1:=cy hi
 intro t φ ht hlk
 refine hI.inv i X t φ hlk (fun j hj hdj => ?_) (fun j hj hjs hdj => ?_)
 ·rcases cu hok hj hi1 with hp | ⟨_,hp⟩
  ·exact bS hi hp
  ·rw [dY hdj (by simpa [cR,ho] using ht)] at hp;cases hp
 ·rcases Nat.lt_or_ge i j with h' | h'
  ·rw [← Bool.not_eq_true]; intro hlj
   rcases cu hok h' hjs with hp | ⟨_,hp⟩
   ·have:=hl.closed j hlj i hp;rw [this] at hi2;cases hi2
   ·rw [dF hdj (by simpa [cR,ho] using ht)] at hp;cases hp
  ·have:j=i:=by omega
   subst this;exact hi2
theorem Aa {D:List Deferred} {M:Mem} {G:Nat→Ctx} {CC:Nat→List Cell} (hU:OkU ops) (hG : ∀ j o,ops[j]? = some o→OpU P E M ops (G j) o (CC j) (G (j+1)) (CC (j+1)))
  (hfree : ∀ k j d T,k≤ops.size→bK ops j=some (d,T)→bt (G k) d=none) {w1:World} (hw1:E.w0.heap.size≤w1.heap.size) {a1:Act} {β:Nat→Nat} {l:Array Bool} {a:Act} {w:World} {i:Nat}
  (hI:InvU P E D M ops G w1 a1 β l a w) (hl:Lst ops l) (hi1:i<ops.size) (hi2:l.getD i false=false) (hi:i∈Region.ready .any ops l) :
  Co.wpOpX P ops i (fun a' w' => ∃ β',InvU P E D M ops G w1 a1 β' (l.setIfInBounds i true) a' w') a w:=by
 have hok:=hU.any
 have hls:=hl.size
 have ho:ops[i]? = some ops[i]:=by simp [hi1]
 have hnames:=hI.names hok hl ho hi2 hi
 have hsame : ∀ j,j≠i→(l.setIfInBounds i true).getD j false=l.getD j false:=fun j hj=>by rw [aZ X,if_neg (fun e=>hj e.symm)]
 have hself:(l.setIfInBounds i true).getD i false=true:=by rw [aZ X,if_pos Z]
 generalize hX:G (i+1)=BR
 generalize hY:CC (i+1)=BS
 have hop:=hG i _ ho
 rw [hX,hY] at hop
 cases hop with
 | pure hal hs =>
  have hali:bK ops i=none:=by simp [bK,ho,hal]
  obtain ⟨d, ψ,hd,hN,hΓ,hrun⟩:=(hs (hb ops l β)).run ho
  have hdi:dstOf ops i=some d:=by simp [dstOf,ho,hd]
  refine hrun a w hI.base hnames _ fun v w' k hv'=>⟨β,?_⟩
  have ehb:=we (β:=β) hls hi1 hali
  have hali' : ∀ j x,bK ops j=some x→j≠i:=fun j x hj e=>by subst e;rw [hali] at hj;cases hj
  have hle:=Base.hv_ext (E:=E.hide (hb ops l β)) (M:=M) k
  refine ⟨by rw [ehb]; exact hI.base.ext k,by simp [Act.put,hI.sz],hI.df,?_,?_,?_,?_,hI.keepW.trans k,?_⟩
  ·rw [ehb]
   intro k' hk' t φ hlk hlo hhi
   by_cases htd:d=t
   ·subst htd
    have hik:i<k':=by
     rcases Nat.lt_or_ge i k' with h' | h'
     ·exact h'
     ·have:=hhi i h' hi1 hdi;rw [hself] at this;cases this
    have hno : ∀ j,i+1≤j→j<k'→dstOf ops j≠some d:=by
     intro j h1 h2 hdj
     have h3:=hlo j h2 hdj
     rw [hsame j X] at h3
     rcases cu hok (i:=i) (j:=j) X X with hp | ⟨_,hp⟩
     ·have:=hl.closed j h3 i hp;rw [this] at hi2;cases hi2
     ·rw [eL hdi hdj] at hp;cases hp
    rw [ep hG (i:=i+1) X hk' hno,hX,hΓ,aW,if_pos Z] at hlk
    cases hlk
    rw [be (by rw [hI.sz]; exact hN)]; exact hv'
   ·rw [aP htd]
    refine φ.mono hle (hI.inv k' hk' t φ hlk (fun j hj hdj => ?_) (fun j hj hjs hdj => ?_))
    ·have hji:j≠i:=fun e=>by subst e;rw [hdi] at hdj;cases hdj;exact htd Z
     have:=hlo j hj hdj;rwa [hsame j hji] at this
    ·have hji:j≠i:=fun e=>by subst e;rw [hdi] at hdj;cases hdj;exact htd Z
     have:=hhi j hj hjs hdj;rwa [hsame j hji] at this
  ·intro j j' x x' h1 h2 h3 h4
   rw [hsame j (hali' _ _ h1)] at h3;rw [hsame j' (hali' _ _ h2)] at h4
   exact hI.inj j j' x x' h1 h2 h3 h4
  ·intro j x h1 h2
   rw [hsame j (hali' _ _ h1)] at h2
   have:=hI.ap j x h1 h2
   exact ⟨this.1,this.2.1,Nat.lt_of_lt_of_le this.2.2 k.size⟩
  ·intro j d' T h1 h2
   rw [hsame j (hali' _ _ h1)] at h2
   obtain ⟨h3,c,L,h4,h5,h6,h7,h8⟩:=hI.cell j d' T h1 h2
   have hne:d≠d':=fun e=>(hU.al j d' T h1).1 i (fun e'=>hali' _ _ h1 e'.symm) (by rw [hdi,e])
   refine ⟨by rw [aP hne]; exact h3,c,L,h4,k.view _ _ h5,h6,h7,fun s y ψ' hs1 hs2 hs3 => ?_⟩
   have hsi:s≠i:=fun e=>by
    subst e
    simp only [bN,ho,Option.bind_some,fM,hd] at hs1
    split at hs1
    ·rename_i heq;cases heq
    ·cases hs1
   rw [hsame s hsi] at hs2
   obtain ⟨v',h9,h10⟩:=h8 s y ψ' hs1 hs2 hs3
   rw [ehb]; exact ⟨v',h9, ψ'.mono hle h10⟩
  ·intro t ht
   have htd:d≠t:=fun e=>ht i (by rw [hdi,e])
   rw [aP htd]; exact hI.keepS t ht
 | @alloc d T L z by' ty pos af hL hZ hF he hd =>
  have hal:bK ops i=some (d,T):=by simp [bK,ho,he,iq]
  have hdi:dstOf ops i=some d:=by simp [dstOf,ho,he]
  have hst:bN ops i=none:=by simp [bN,ho,he,fM]
  obtain ⟨z1,z2,z3⟩:=hF.ok z (fun _=>none) Z
  have hz:=ZeroOf.run (P:=P) (T:=T) (h:=hZ) w
  have hr:(execOp a.eval ops[i]).run P w = .ok (.value (.pointer (some ⟨w.heap.size,0,none⟩))) (w.alloc (.cells z.cells T)):=by
   rw [he]; simp [execOp,Instr.alloc,Sem.run_bind,hz,newVar,newRow,newObj,Sem.run]
  have hgd:ops[i].guard=none:=by rw [he]
  have hdst:ops[i].dst=some d:=by rw [he]
  simp only [Co.wpOpX,ho,cO hgd,if_true]
  refine ⟨fun h=>(by rw [he] at h;cases h),?_⟩
  rw [hr]
  show ∃ β',InvU P E D M ops G w1 a1 β' (l.setIfInBounds i true) (a.put ops[i].dst (.pointer (some ⟨w.heap.size,0,none⟩))) (w.alloc (.cells z.cells T))
  rw [hdst]
  have k:Ext w (w.alloc (.cells z.cells T)):=Ext.alloc w _
  have hsz1:(w.alloc (.cells z.cells T)).heap.size=w.heap.size+1:=by simp
  refine ⟨fun j=>if j=i then w.heap.size else β j,?_⟩
  have hmem : ∀ b,b∈hb ops (l.setIfInBounds i true) (fun j=>if j=i then w.heap.size else β j)↔b=w.heap.size∨b∈hb ops l β:=by
   intro b
   rw [rT,rT]
   constructor
   ·rintro ⟨j,x,h1,h2,h3⟩
    by_cases e:j=i
    ·subst e;rw [if_pos Z] at h3;exact .inl h3.symm
    ·rw [if_neg e] at h3;rw [hsame j e] at h2;exact .inr ⟨j,x,h1,h2,h3⟩
   ·rintro (rfl | ⟨j,x,h1,h2,h3⟩)
    ·exact ⟨i,_,hal,hself,by rw [if_pos Z]⟩
    ·have e:j≠i:=fun e=>by subst e;rw [hi2] at h2;cases h2
     exact ⟨j,x,h1,by rw [hsame j e]; exact h2,by rw [if_neg e]; exact h3⟩
  generalize hO2:hb ops (l.setIfInBounds i true) (fun j=>if j=i then w.heap.size else β j)=O2 at hmem
  have hex:=hI.base.ex
  have hle:Hp.le (hv (E.hide (hb ops l β)) M w) (hv (E.hide O2) M (w.alloc (.cells z.cells T))):=by
   intro b x e
   obtain ⟨h1,h2⟩:=cW e
   refine eA ?_ (k.view _ _ h2)
   have hlt:=d9 h2
   intro hb
   apply h1
   simp only [Env.hide,List.mem_append] at hb ⊢
   rcases hb with (h | h) | h
   ·exact .inl (.inl h)
   ·rcases (hmem b).1 h with rfl | h
    ·omega
    ·exact .inl (.inr h)
   ·exact .inr h
  have hb1:=hI.base.ext k
  have hali' : ∀ j x,bK ops j=some x→j≠i→(if j=i then w.heap.size else β j)=β j:=fun j x _ e=>if_neg e
  refine ⟨?_,by simp [Act.put,hI.sz],hI.df,?_,?_,?_,?_,hI.keepW.trans k,?_⟩
  ·rw [hO2]
   refine ⟨fun o hoM=>o.loc (fun b hb=>(fJ (k.block b (hex b (List.mem_append.2 (.inr (cJ hoM hb)))))).symm) hle (hI.base.mem o hoM),hI.base.nd,fun b hb hO => ?_,hI.base.lo,fun b hb => ?_,hb1.fr⟩
   ·have hlt:=hex b (List.mem_append.2 (.inr hb))
    simp only [Env.hide,List.mem_append] at hO
    rcases hO with h | h
    ·exact hI.base.dis b hb (List.mem_append.2 (.inl h))
    ·rcases (hmem b).1 h with rfl | h
     ·omega
     ·exact hI.base.dis b hb (List.mem_append.2 (.inr h))
   ·rw [hsz1]
    simp only [Env.hide,List.mem_append] at hb
    rcases hb with (h | h) | h
    ·have:=hex b (by simp only [Env.hide,List.mem_append]; exact .inl (.inl h));omega
    ·rcases (hmem b).1 h with rfl | h
     ·omega
     ·have:=hex b (by simp only [Env.hide,List.mem_append]; exact .inl (.inr h));omega
    ·have:=hex b (by simp only [Env.hide,List.mem_append]; exact .inr h);omega
  ·rw [hO2]
   intro k' hk' t φ hlk hlo hhi
   have htd:d≠t:=fun e=>by rw [← e,hfree k' i d T hk' hal] at hlk;cases hlk
   rw [aP htd]
   refine φ.mono hle (hI.inv k' hk' t φ hlk (fun j hj hdj => ?_) (fun j hj hjs hdj => ?_))
   ·have hji:j≠i:=fun e=>by subst e;rw [hdi] at hdj;cases hdj;exact htd Z
    have:=hlo j hj hdj;rwa [hsame j hji] at this
   ·have hji:j≠i:=fun e=>by subst e;rw [hdi] at hdj;cases hdj;exact htd Z
    have:=hhi j hj hjs hdj;rwa [hsame j hji] at this
  ·intro j j' x x' h1 h2 h3 h4 h5
   by_cases e:j=i
   ·by_cases e':j'=i
    ·rw [e,e']
    ·rw [hsame j' e'] at h4
     have:=(hI.ap j' x' h2 h4).2.2
     simp only [e,if_true,if_neg e'] at h5;omega
   ·rw [hsame j e] at h3
    by_cases e':j'=i
    ·have:=(hI.ap j x h1 h3).2.2
     simp only [e',if_true,if_neg e] at h5;omega
    ·rw [hsame j' e'] at h4
     simp only [if_neg e,if_neg e'] at h5
     exact hI.inj j j' x x' h1 h2 h3 h4 h5
  ·intro j x h1 h2
   by_cases e:j=i
   ·simp only [e,if_true]
    refine ⟨fun h => ?_,hI.keepW.size,by omega⟩
    have:=hex w.heap.size (by
     simp only [Env.hide,List.mem_append] at h ⊢
     rcases h with h | h
     ·exact .inl (.inl h)
     ·exact .inr h)
    omega
   ·rw [hsame j e] at h2
    have:=hI.ap j x h1 h2
    simp only [if_neg e]; exact ⟨this.1,this.2.1,by omega⟩
  ·intro j d' T' h1 h2
   by_cases e:j=i
   ·subst e
    rw [hal] at h1;cases h1
    refine ⟨by rw [be (by rw [hI.sz]; exact hd)]; simp,z.cells,L,hL,by simp only [if_true]; exact ci w _ _ _,z1,z2,fun s y ψ' hs1 hs2 hs3 => ?_⟩
    exfalso
    have hsi:s≠j:=fun e=>by subst e;rw [hst] at hs1;cases hs1
    rw [hsame s hsi] at hs2
    obtain ⟨j0,hj0,hp⟩:=(hU.st s _ _ y hs1).1
    have:j0=j:=by
     rcases Nat.decEq j0 j with h | h
     ·exact absurd (by simp [dstOf]; exact hdi) ((hU.al j0 _ _ hj0).1 j (fun e=>h e.symm))
     ·exact h
    subst this
    have:=hl.closed s hs2 j0 hp
    rw [this] at hi2;cases hi2
   ·rw [hsame j e] at h2
    obtain ⟨h3,c,L',h4,h5,h6,h7,h8⟩:=hI.cell j d' T' h1 h2
    have hne:d≠d':=fun e'=>(hU.al j d' T' h1).1 i (fun e''=>e e''.symm) (by rw [hdi,e'])
    refine ⟨by rw [aP hne,if_neg e]; exact h3,c,L',h4,by rw [if_neg e]; exact k.view _ _ h5,h6,h7,fun s y ψ' hs1 hs2 hs3 => ?_⟩
    have hsi:s≠i:=fun e=>by subst e;rw [hst] at hs1;cases hs1
    rw [hsame s hsi] at hs2
    obtain ⟨v',h9,h10⟩:=h8 s y ψ' hs1 hs2 hs3
    rw [hO2]; exact ⟨v',h9, ψ'.mono hle h10⟩
  ·intro t ht
   have htd:d≠t:=fun e=>ht i (by rw [hdi,e])
   rw [aP htd]; exact hI.keepS t ht
 | @store ta T L ψ y ty pos af hL hF he hy =>
  have hst:bN ops i=some (ta,T,y):=by simp [bN,ho,he,fM]
  have hali:bK ops i=none:=by simp [bK,ho,he,iq]
  have hdi:dstOf ops i=none:=by simp [dstOf,ho,he]
  have ehb:=we (β:=β) hls hi1 hali
  obtain ⟨j0,hj0,hp0⟩:=(hU.st i ta T y hst).1
  have hlj0:=bS hi hp0
  obtain ⟨h3,c,L',h4,h5,h6,h7,h8⟩:=hI.cell j0 ta T hj0 hlj0
  have:=LayOf.unique h4 hL;subst this
  obtain ⟨g1,g2,g3⟩:=hI.ap j0 _ hj0 hlj0
  have hyp:ψ.p (a.eval y) (hv (E.hide (hb ops l β)) M w):=by
   cases y with
   | tmp t => exact hnames t ψ (List.mem_append.2 (.inl (List.mem_filterMap.2 ⟨.tmp t, by rw [he]; simp [Op.operands], rfl⟩))) hy
   | const v => cases hy; rfl
   | global g => cases hy; rfl
   | func f => cases hy; rfl
  obtain ⟨f1,f2,f3⟩:=hF.ok _ _ hyp
  have hgd:ops[i].guard=none:=by rw [he]
  have hdst:ops[i].dst=none:=by rw [he]
  have hrs:=dq (P:=P) (T:=T) (L:=L') (h:=hL) (o:=0) (v:=a.eval y) h5 f1 X f2
  have hx:a.eval (.tmp ta) = .pointer (some ⟨β j0,0,none⟩):=h3
  have hr:(execOp a.eval ops[i]).run P w = .ok .skip (w.setRow (β j0) (ct c 0 (a.eval y).cells)):=by
   rw [he]
   simp only [execOp,hx,Instr.storeAt,Instr.sureAddr,Sem.run_bind,Sem.run_pure,Result.andThen_ok,hrs]
  simp only [Co.wpOpX,ho,cO hgd,if_true]
  refine ⟨fun h=>(by rw [he] at h;cases h),?_⟩
  rw [hr]
  show ∃ β',InvU P E D M ops G w1 a1 β' (l.setIfInBounds i true) (a.put ops[i].dst undef) (w.setRow (β j0) (ct c 0 (a.eval y).cells))
  rw [hdst]
  show ∃ β',InvU P E D M ops G w1 a1 β' (l.setIfInBounds i true) a (w.setRow (β j0) (ct c 0 (a.eval y).cells))
  generalize hw':w.setRow (β j0) (ct c 0 (a.eval y).cells)=w'
  have hoth : ∀ b,b≠β j0→w'.heap[b]? = w.heap[b]? := fun b hb=>by rw [← hw']; exact c7 _ _ _ _ hb
  have hsz1:w'.heap.size=w.heap.size:=by rw [← hw']; exact dI _ _ _
  have hview:view w' (β j0)=some (ct c 0 (a.eval y).cells,T,(0,0)):=by rw [← hw']; exact dH h5
  have hos:w'.os=w.os∧w'.tape=w.tape∧w'.output=w.output:=by rw [← hw']; exact ⟨rfl,rfl,rfl⟩
  have hhb:β j0∈hb ops l β:=rT.2 ⟨j0,_,hj0,hlj0,rfl⟩
  have ehv:hv (E.hide (hb ops l β)) M w'=hv (E.hide (hb ops l β)) M w:=by
   funext b
   simp only [hv,hid]
   split
   ·rfl
   ·rename_i hn
    refine gJ (hoth b fun e=>hn ?_)
    rw [e]; simp only [Env.hide,List.mem_append]; exact .inl (.inr hhb)
  have hali' : ∀ j x,bK ops j=some x→j≠i:=fun j x hj e=>by subst e;rw [hali] at hj;cases hj
  refine ⟨β,?_,hI.sz,hI.df,?_,?_,?_,?_,?_,fun t ht=>hI.keepS t ht⟩
  ·rw [ehb]
   refine ⟨fun o hoM => ?_,hI.base.nd,hI.base.dis,hI.base.lo,fun b hb=>by rw [hsz1]; exact hI.base.ex b hb,?_⟩
   ·have e':hid ((E.hide (hb ops l β)).O ++ aS M) (view w')=hv (E.hide (hb ops l β)) M w:=ehv
    rw [e']
    refine o.loc (fun b hb=>(fJ (hoth b fun e => ?_)).symm) (Hp.le_refl _) (hI.base.mem o hoM)
    exact g1 (List.mem_append.2 (.inr (e▸cJ hoM hb)))
   ·have hf:=hI.base.fr
    refine ⟨hos.1.trans hf.os,hos.2.1.trans hf.tape,hos.2.2.trans hf.output,by rw [hsz1]; exact hf.size,fun b hb hn => ?_⟩
    rw [hoth b (fun e=>by have hb:b<E.w0.heap.size:=hb;omega)]; exact hf.block b hb hn
  ·rw [ehb]
   intro k' hk' t φ hlk hlo hhi
   rw [ehv]
   refine hI.inv k' hk' t φ hlk (fun j hj hdj => ?_) (fun j hj hjs hdj => ?_)
   ·have hji:j≠i:=fun e=>by subst e;rw [hdi] at hdj;cases hdj
    have:=hlo j hj hdj;rwa [hsame j hji] at this
   ·have hji:j≠i:=fun e=>by subst e;rw [hdi] at hdj;cases hdj
    have:=hhi j hj hjs hdj;rwa [hsame j hji] at this
  ·intro j j' x x' h1 h2 h3 h4
   rw [hsame j (hali' _ _ h1)] at h3;rw [hsame j' (hali' _ _ h2)] at h4
   exact hI.inj j j' x x' h1 h2 h3 h4
  ·intro j x h1 h2
   rw [hsame j (hali' _ _ h1)] at h2
   have:=hI.ap j x h1 h2
   exact ⟨this.1,this.2.1,by omega⟩
  ·intro j d' T' h1 h2
   rw [hsame j (hali' _ _ h1)] at h2
   rw [ehb]
   by_cases e:j=j0
   ·subst e
    rw [hj0] at h1;cases h1
    refine ⟨h3,ct c 0 (a.eval y).cells,L',h4,hview,by rw [cP X]; exact h6,im h7 f2,fun s y' ψ' hs1 hs2 hs3 => ?_⟩
    by_cases e:s=i
    ·subst e
     rw [hst] at hs1;cases hs1
     rw [hy] at hs3;cases hs3
     rw [ehv]
     exact ⟨a.eval y,dN X f1 f3,hyp⟩
    ·exfalso
     rcases Nat.lt_or_gt_of_ne e with h | h
     ·exact (hU.st i ta T y hst).2 s T y' h hs1
     ·exact (hU.st s ta T y' hs1).2 i T y h hst
   ·obtain ⟨k3,c',L'',k4,k5,k6,k7,k8⟩:=hI.cell j d' T' h1 h2
    have hne:β j≠β j0:=fun e'=>e (hI.inj j j0 _ _ h1 hj0 h2 hlj0 e')
    refine ⟨k3,c',L'',k4,by rw [gJ (hoth _ hne)]; exact k5,k6,k7,fun s y' ψ' hs1 hs2 hs3 => ?_⟩
    have hsi:s≠i:=fun e'=>by
     subst e'
     rw [hst] at hs1;cases hs1
     exact e (by
      rcases Nat.decEq j j0 with h | h
      ·have hdj:dstOf ops j0=some ta:=by
        unfold bK at hj0;unfold dstOf
        cases hx:ops[j0]? with
        | none => rw [hx] at hj0; cases hj0
        | some o0 =>
         rw [hx] at hj0
         simp only [Option.bind_some,iq] at hj0 ⊢
         split at hj0
         ·rename_i h9 h10;cases hj0;exact h10
         ·cases hj0
       exact absurd hdj ((hU.al j _ _ h1).1 j0 (fun e=>h e.symm))
      ·exact h)
    rw [hsame s hsi] at hs2
    obtain ⟨v',h9,h10⟩:=k8 s y' ψ' hs1 hs2 hs3
    rw [ehv]; exact ⟨v',h9,h10⟩
  ·have hk:=hI.keepW
   exact ⟨hos.1.trans hk.os,hos.2.1.trans hk.tape,hos.2.2.trans hk.output,by rw [hsz1]; exact hk.size,fun b hb=>by rw [hoth b X]; exact hk.block b hb⟩
theorem kr (E:Env):E.hide []=E:=by cases E;simp [Env.hide]
theorem uG {j:Nat} {d:Tmp} {T:TypeId} (h:bK ops j=some (d,T)):dstOf ops j=some d:=by
 unfold bK at h;unfold dstOf
 cases hx:ops[j]? with
 | none => rw [hx] at h; cases h
 | some o0 =>
  rw [hx] at h
  simp only [Option.bind_some,iq] at h ⊢
  split at h
  ·rename_i h9 h10;cases h;exact h10
  ·cases h
theorem rU (hU:OkU ops) {j j':Nat} {d:Tmp} {T T':TypeId} (h:bK ops j=some (d,T)) (h':bK ops j'=some (d,T')):j=j':=by
 rcases Nat.decEq j j' with e | e
 ·exact absurd (uG h') ((hU.al j _ _ h).1 j' (fun e'=>e e'.symm))
 ·exact e
theorem wh (hU:OkU ops) {M:Mem} {G:Nat→Ctx} {CC:Nat→List Cell} (hG : ∀ j o,ops[j]? = some o→OpU P E M ops (G j) o (CC j) (G (j+1)) (CC (j+1))) (h0:CC 0 = []) : ∀ k,k≤ops.size →
  (∀ c∈CC k, ∃ s y,s<k∧bN ops s=some (c.ta,c.T,y)∧aB (G s) y=some c.ψ∧LayOf P c.T c.L) ∧
  (∀ s t T y,s<k→bN ops s=some (t,T,y) → ∃ c∈CC k,c.ta=t)∧((CC k).map (·.ta)).Nodup:=by
 intro k
 induction k with
 | zero => intro _; rw [h0]; exact ⟨fun c hc => (by cases hc), fun s t T y h => absurd h (Nat.not_lt_zero _), by simp⟩
 | succ k ih =>
  intro hk
  obtain ⟨i1,i2,i3⟩:=ih X
  have ho:ops[k]? = some ops[k]:=by simp [show k<ops.size by omega]
  generalize hX:G (k+1)=BR
  generalize hY:CC (k+1)=BS
  have hop:=hG k _ ho
  rw [hX,hY] at hop
  have keep:bN ops k=none→BS=CC k→(∀ c∈BS, ∃ s y,s<k+1∧bN ops s=some (c.ta,c.T,y)∧aB (G s) y=some c.ψ∧LayOf P c.T c.L) ∧
    (∀ s t T y,s<k+1→bN ops s=some (t,T,y) → ∃ c∈BS,c.ta=t)∧(BS.map (·.ta)).Nodup:=by
   intro hn e
   rw [e]
   refine ⟨fun c hc=>let ⟨s,y,h1,h2⟩:=i1 c hc;⟨s,y,by omega,h2⟩,fun s t T y hs hst=>i2 s t T y ?_ hst,i3⟩
   rcases Nat.lt_or_ge s k with h | h
   ·exact h
   ·have:s=k:=by omega
    subst this;rw [hn] at hst;cases hst
  cases hop with
  | pure hal hs =>
   obtain ⟨d, ψ,hd,_,_,_⟩:=(hs []).run ho
   refine keep ?_ Z
   simp only [bN,ho,Option.bind_some,fM,hd]
   split
   ·rename_i heq;cases heq
   ·rfl
  | alloc hL hZ hF he hd => exact keep (by simp [bN, ho, he, fM]) Z
  | @store ta T L ψ y ty pos af hL hF he hy =>
   have hst:bN ops k=some (ta,T,y):=by simp [bN,ho,he,fM]
   refine ⟨fun c hc => ?_,fun s t T' y' hs hst' => ?_,?_⟩
   ·rcases List.mem_cons.1 hc with rfl | hc
    ·exact ⟨k,y,by omega,hst,hy,hL⟩
    ·obtain ⟨s,y',h1,h2⟩:=i1 c hc;exact ⟨s,y',by omega,h2⟩
   ·rcases Nat.lt_or_ge s k with h | h
    ·obtain ⟨c,h1,h2⟩:=i2 s t T' y' h hst';exact ⟨c,List.mem_cons_of_mem _ h1,h2⟩
    ·have:s=k:=by omega
     subst this;rw [hst] at hst';cases hst';exact ⟨_,List.mem_cons_self,rfl⟩
   ·rw [List.map_cons,List.nodup_cons]
    refine ⟨fun hm => ?_,i3⟩
    obtain ⟨c,hc,hct⟩:=List.mem_map.1 hm
    obtain ⟨s,y',h1,h2,_⟩:=i1 c hc
    rw [hct] at h2
    by_cases eT:c.T=T
    ·rw [eT] at h2;exact (hU.st k ta T y hst).2 s T y' h1 h2
    ·exact (hU.st k ta T y hst).2 s c.T y' h1 h2
theorem mB (BV B:Ctx) (t:Nat):bt (BV ++ B) t=(bt BV t).or (bt B t):=by
 induction BV with
 | nil => rfl
 | cons p BV ih =>
  obtain ⟨k,v⟩:=p
  rw [List.cons_append,aW,aW,ih]
  split <;> rfl
def rV (γ:Nat→Nat) (C:List Cell):Ctx:=C.map fun c=>(c.ta,one (.pointer (some ⟨γ c.ta,0,none⟩)))
def nx (γ:Nat→Nat) (C:List Cell):Mem:=C.map fun c=>aT (γ c.ta) c.T c.L.sz [(0,c.L,c.ψ)]
theorem nI (γ:Nat→Nat) (C:List Cell):aS (nx γ C)=C.map fun c=>γ c.ta:=by
 induction C with
 | nil => rfl
 | cons c C ih => show (γ c.ta) :: _ = _; rw [List.map_cons]; congr 1
theorem uH {γ:Nat→Nat} {C:List Cell} {t:Nat} {φ:VT} (h:bt (rV γ C) t=some φ) : ∃ c∈C,c.ta=t∧φ=one (.pointer (some ⟨γ t,0,none⟩)):=by
 induction C with
 | nil => cases h
 | cons c C ih =>
  rw [rV,List.map_cons,aW] at h
  split at h
  ·rename_i e;cases h;exact ⟨c,List.mem_cons_self,e,by rw [e]⟩
  ·obtain ⟨c',h1,h2⟩:=ih h;exact ⟨c',List.mem_cons_of_mem _ h1,h2⟩
theorem InvU.fin {D:List Deferred} {M:Mem} {G:Nat→Ctx} {CC:Nat→List Cell} (hU:OkU ops) (hG : ∀ j o,ops[j]? = some o→OpU P E M ops (G j) o (CC j) (G (j+1)) (CC (j+1))) (h0:CC 0 = [])
  {w1:World} (hw1:E.w0.heap.size≤w1.heap.size) {a1:Act} {β:Nat→Nat} {l:Array Bool} {a:Act} {w:World} (hI:InvU P E D M ops G w1 a1 β l a w) (hall : ∀ j,j<ops.size→l.getD j false=true) :
  ∃ γ:Nat→Nat,St E D (rV γ (CC ops.size) ++ G ops.size) (nx γ (CC ops.size) ++ M) a w:=by
 obtain ⟨c1,c2,c3⟩:=wh hU hG h0 ops.size (Nat.le_refl _)
 obtain ⟨γ,hγ⟩ : ∃ γ:Nat→Nat, ∀ j d T,bK ops j=some (d,T)→γ d=β j:=by
  classical
  refine ⟨fun t=>if h : ∃ j T,bK ops j=some (t,T) then β h.choose else 0,fun j d T hj => ?_⟩
  have h : ∃ j T,bK ops j=some (d,T):=⟨j,T,hj⟩
  simp only [dif_pos h]
  obtain ⟨T',h'⟩:=h.choose_spec
  rw [rU hU h' hj]
 generalize CC ops.size=C at c1 c2 c3
 have cell : ∀ c∈C, ∃ j,bK ops j=some (c.ta,c.T)∧γ c.ta=β j∧l.getD j false=true:=fun c hc=>by
  obtain ⟨s,y,h1,h2,_⟩:=c1 c hc
  obtain ⟨j,hj,_⟩:=(hU.st s _ _ _ h2).1
  exact ⟨j,hj,hγ j _ _ hj,hall j (eo hj)⟩
 have hmem : ∀ b,b∈hb ops l β↔b∈aS (nx γ C):=by
  intro b
  rw [rT,nI,List.mem_map]
  constructor
  ·rintro ⟨j,⟨d,T⟩,h1,h2,h3⟩
   obtain ⟨s,y,hs⟩:=(hU.al j d T h1).2
   obtain ⟨c,h4,h5⟩:=c2 s d T y (da hs) hs
   exact ⟨c,h4,by rw [h5,hγ j d T h1,h3]⟩
  ·rintro ⟨c,hc,rfl⟩
   obtain ⟨j,h1,h2,h3⟩:=cell c hc
   exact ⟨j,_,h1,h3,h2.symm⟩
 have hset : ∀ b,b∈(E.hide (hb ops l β)).O ++ aS M↔b∈E.O ++ aS (nx γ C ++ M):=by
  intro b
  simp only [Env.hide,bj,List.mem_append,hmem b]
  constructor
  ·rintro ((h | h) | h)
   ·exact .inl h
   ·exact .inr (.inl h)
   ·exact .inr (.inr h)
  ·rintro (h | h | h)
   ·exact .inl (.inl h)
   ·exact .inl (.inr h)
   ·exact .inr h
 have ehv:hv (E.hide (hb ops l β)) M w=hv E (nx γ C ++ M) w:=gZ hset _
 have hB:=hI.base
 refine ⟨γ,⟨⟨?_,?_,?_,?_,fun b hb=>hB.ex b ((hset b).2 hb),hB.fr⟩,hI.sz,hI.df,?_⟩⟩
 ·intro o ho
  show o.p (raw w) (hv E (nx γ C ++ M) w)
  rw [← ehv]
  rcases List.mem_append.1 ho with ho | ho
  ·obtain ⟨c,hc,rfl⟩:=List.mem_map.1 ho
   obtain ⟨s,y,h1,h2,h3,hL⟩:=c1 c hc
   obtain ⟨j,hj1,hj2,hj3⟩:=cell c hc
   obtain ⟨_,cc,L',k1,k2,k3,k4,k5⟩:=hI.cell j _ _ hj1 hj3
   have:=LayOf.unique k1 hL;subst this
   obtain ⟨v,k6,k7⟩:=k5 s y _ h2 (hall s (da h2)) h3
   refine ⟨cc,by rw [hj2]; exact k2,k3,k4,fun q hq => ?_⟩
   have hq:=List.mem_singleton.1 hq
   subst hq
   exact ⟨v,k6,k7⟩
  ·exact hB.mem o ho
 ·rw [bj,nI,List.nodup_append]
  refine ⟨?_,hB.nd,fun x hx y hy e => ?_⟩
  ·have hinj : ∀ c∈C, ∀ c'∈C, γ c.ta=γ c'.ta→c.ta=c'.ta:=fun c hc c' hc' e=>by
    obtain ⟨j,h1,h2,h3⟩:=cell c hc
    obtain ⟨j',h1',h2',h3'⟩:=cell c' hc'
    have:=hI.inj j j' _ _ h1 h1' h3 h3' (by rw [← h2, ← h2',e])
    subst this
    exact congrArg Prod.fst (Option.some.inj (h1.symm.trans h1'))
   clear c1 c2 hmem hset ehv cell
   induction C with
   | nil => simp
   | cons c C ih =>
    rw [List.map_cons,List.nodup_cons] at c3 ⊢
    refine ⟨fun hm => ?_,ih c3.2 (fun a ha b hb=>hinj a (List.mem_cons_of_mem _ ha) b (List.mem_cons_of_mem _ hb))⟩
    obtain ⟨c',hc',e⟩:=List.mem_map.1 hm
    have:=hinj c' (List.mem_cons_of_mem _ hc') c List.mem_cons_self e
    exact c3.1 (List.mem_map.2 ⟨c',hc',this⟩)
  ·obtain ⟨c,hc,rfl⟩:=List.mem_map.1 hx
   obtain ⟨j,h1,h2,h3⟩:=cell c hc
   have:=(hI.ap j _ h1 h3).1
   rw [← h2,e] at this
   exact this (List.mem_append.2 (.inr hy))
 ·intro b hb
  rw [bj] at hb
  rcases List.mem_append.1 hb with h | h
  ·obtain ⟨j,x,h1,h2,h3⟩:=rT.1 ((hmem b).2 h)
   have:=(hI.ap j x h1 h2).1
   rw [h3] at this
   exact fun hO=>this (List.mem_append.2 (.inl hO))
  ·exact fun hO=>hB.dis b h (List.mem_append.2 (.inl hO))
 ·intro b hb
  rw [bj] at hb
  rcases List.mem_append.1 hb with h | h
  ·obtain ⟨j,x,h1,h2,h3⟩:=rT.1 ((hmem b).2 h)
   have:=(hI.ap j x h1 h2).2.1
   rw [h3] at this
   exact .inl X
  ·exact hB.lo b h
 ·intro t φ ht
  rw [mB] at ht
  cases hl:bt (rV γ C) t with
  | some φ' =>
   rw [hl] at ht
   simp only [Option.or] at ht
   cases ht
   obtain ⟨c,hc,hct,rfl⟩:=uH hl
   obtain ⟨j,h1,h2,h3⟩:=cell c hc
   have h4:=(hI.cell j _ _ h1 h3).1
   show a.tmps.getD t undef=_
   rw [← hct,h4,h2]
  | none =>
   rw [hl] at ht
   simp only [Option.or] at ht
   show φ.p _ (hv E (nx γ C ++ M) w)
   rw [← ehv]
   exact hI.inv ops.size (Nat.le_refl _) t φ ht (fun j hj _=>hall j hj) (fun j h1 h2=>by omega)
theorem Ap {D:List Deferred} {Γ:Ctx} {M:Mem} {id:Nat} {Q:Exit→Act→World→Prop} (hm:P.follows .mixedOrders=true) (hok:okU ops=true)
  (hfree:((List.range ops.size).all fun j=>match bK ops j with | some (d,_)=>(bt Γ d).isNone | none=>true)=true)
  (h:RunU P E M ops 0 Γ [] ops.toList (fun Γ' C => ∀ γ:Nat→Nat,PJ E D (rV γ C ++ Γ') (nx γ C ++ M) .normal Q)):J P E D Γ M (.region id ops true) Q:=by
 intro a w hS
 have hU:=wd hok
 refine dM hm fun w₁ hw₁ => ?_
 have k:Ext w { w₁ with drawn:=w₁.drawn+1 } := hw₁.trans ⟨rfl,rfl,rfl,Nat.le_refl _,fun _ _=>rfl⟩
 obtain ⟨G,CC,hG0,hC0,hK,hG'⟩:=h.chain
 have hG : ∀ j o,ops[j]? = some o→OpU P E M ops (G j) o (CC j) (G (j+1)) (CC (j+1)):=fun j o ho=>by
  have:=hG' j o (by simpa using ho)
  simpa using this
 have hlen:ops.toList.length=ops.size:=by simp
 rw [hlen,Nat.zero_add] at hK
 have hfr : ∀ kk j d T,kk≤ops.size→bK ops j=some (d,T)→bt (G kk) d=none:=by
  intro kk j d T
  induction kk with
  | zero =>
   intro _ hj
   rw [hG0]
   have:=List.all_eq_true.1 hfree j (List.mem_range.2 (eo hj))
   rw [hj] at this
   simpa using this
  | succ kk ih =>
   intro hk hj
   have ho:ops[kk]? = some ops[kk]:=by simp [show kk<ops.size by omega]
   have hprev:=ih X hj
   by_cases e:kk=j
   ·subst e
    generalize hX:G (kk+1)=BR
    generalize hY:CC (kk+1)=BS
    have hop:=hG kk _ ho
    rw [hX,hY] at hop
    cases hop with
    | pure hal _ => simp [bK, ho, hal] at hj
    | alloc hL hZ hF he hd => exact hprev
    | store hL hF he hy => exact hprev
   ·rw [jO hG ho ((hU.al j d T hj).1 kk e)]; exact hprev
 have hl0 : ∀ j,(Array.replicate ops.size false).getD j false=false:=fun j=>by
  simp [Array.getD_eq_getD_getElem?,Array.getElem?_replicate]; split <;> rfl
 have hhb:hb ops (Array.replicate ops.size false) (fun _=>0) = []:=by
  rw [List.eq_nil_iff_forall_not_mem]
  intro b hb'
  obtain ⟨j,x,_,h2,_⟩:=rT.1 hb'
  rw [hl0] at h2;cases h2
 refine gY (n:=ops.size) hU.any (fun l a' w' => ∃ β,InvU P E D M ops G { w₁ with drawn:=w₁.drawn+1 } a β l a' w') ?_ ?_ (fun l a w w' ⟨β,h⟩ k=>⟨β,h.ext k⟩) ops.size _ a _ ⟨by simp,fun j hj => ?_⟩ ?_ ⟨fun _=>0,?_⟩
 ·rintro l a' w' ⟨β,hI⟩ hall
  obtain ⟨γ,hS'⟩:=hI.fin hU hG hC0 (by exact Nat.le_trans hS.base.fr.size hw₁.size) hall
  exact hK γ a' w' hS'
 ·rintro l a' w' i ⟨β,hI⟩ hl hi1 hi2 hi
  exact Aa hU hG hfr (by exact Nat.le_trans hS.base.fr.size hw₁.size) hI hl hi1 hi2 hi
 ·rw [hl0] at hj;cases hj
 ·unfold left;refine Nat.le_trans (List.length_filter_le _ _) (by simp)
 ·refine ⟨by rw [hhb,kr]; exact hS.base.ext k,hS.sz,hS.df,?_,?_,?_,?_,Ext.refl _,fun t _=>rfl⟩
  ·rw [hhb,kr]
   intro k' hk' t φ hlk hlo _
   have hno : ∀ j,0≤j→j<k'→dstOf ops j≠some t:=by
    intro j _ hj hd
    have:=hlo j hj hd
    rw [hl0] at this;cases this
   rw [ep hG (Nat.zero_le _) hk' hno,hG0] at hlk
   exact φ.mono (Base.hv_ext k) (hS.tm t φ hlk)
  ·intro j j' x x' _ _ h3 _;rw [hl0] at h3;cases h3
  ·intro j x _ h3;rw [hl0] at h3;cases h3
  ·intro j d T _ h3;rw [hl0] at h3;cases h3
end
end Tor
end
section
namespace Tor
open Go Go.RowKit
variable [Tor.Co.Kc]
section
variable {P:Program} {E:Env} {D:List Deferred} {Γ:Ctx} {M:Mem} {ops:Array Oper} {i:Nat} {C:List Cell} {os:List Oper} {K:Ctx→List Cell→Prop} {op:Op} {ty:TypeId} {pos:String} {af:Array Edge} {gd:Option (Nat × Bool)} {d:Option Tmp}
theorem ux {d:Nat} {ψ:VT} (h : ∀ B,aC P (E.hide B) Γ M ⟨some d,op,ty,pos,af,none⟩ ψ) (ha:iq ⟨some d,op,ty,pos,af,none⟩=none) (hd:Nat.ble (d+1) E.N=true) (hr:RunU P E M ops (i+1) ((d, ψ) :: Γ) C os K) :
  RunU P E M ops i Γ C (⟨some d,op,ty,pos,af,none⟩ :: os) K := .step (.pure ha (fun B => .plain (h B) Z Z (ltN hd))) hr
theorem ug1 {d t j:Nat} {want:Bool} {ψ:VT} (hg:eD ops ⟨some d,op,ty,pos,af,some (j,want)⟩=some (some t,want)) (hb:bt Γ t=some (one (.bool want))) (h : ∀ B,aC P (E.hide B) Γ M ⟨some d,op,ty,pos,af,some (j,want)⟩ ψ)
  (ha:iq ⟨some d,op,ty,pos,af,some (j,want)⟩=none) (hd:Nat.ble (d+1) E.N=true) (hr:RunU P E M ops (i+1) ((d, ψ) :: Γ) C os K):RunU P E M ops i Γ C (⟨some d,op,ty,pos,af,some (j,want)⟩ :: os) K :=
 .step (.pure ha (fun B => .guarded1 hg hb (h B) Z (ltN hd))) hr
theorem ua {d:Nat} {T:TypeId} {L:Lay} {z:Value} {by':Nat} [hL:LayOf P T L] [hZ:ZeroOf P T z by'] [hF:Flat (one z) L] (hd:Nat.ble (d+1) E.N=true) (hr:RunU P E M ops (i+1) Γ C os K) :
  RunU P E M ops i Γ C (⟨some d, .alloc T,ty,pos,af,none⟩ :: os) K := .step (.alloc hL hZ hF Z (ltN hd)) hr
theorem us {ta:Tmp} {T:TypeId} {L:Lay} {ψ:VT} {y:Operand} [hL:LayOf P T L] [hF:Flat ψ L] (hy:aB Γ y=some ψ) (hr:RunU P E M ops (i+1) Γ (⟨ta,T,L, ψ⟩ :: C) os K) :
  RunU P E M ops i Γ C (⟨none, .store T (.tmp ta) y,ty,pos,af,none⟩ :: os) K := .step (.store hL hF Z hy) hr
theorem uB {T:TypeId} {m d:Nat} {z:Array Value} {pl:List (Nat × Lay)} [hB:BuildOf P T m z pl] {parts:Array (Nat × Operand)} (hz:(pl.all fun q=>(bP q.2 z q.1).isSome && decide (q.1+q.2.sz≤m))=true) (hap:eV (dJ z pl)=true) (hd:Nat.ble (d+1) E.N=true)
  (h:BuildK Γ pl (fun CC=>RunU P E M ops (i+1) ((d,bE m CC) :: Γ) C os K) (dJ z pl) parts.toList):RunU P E M ops i Γ C (⟨some d, .build T parts,ty,pos,af,none⟩ :: os) K :=
 let ⟨_,h1,h2⟩:=h.ok;ux (fun B=>oG h1 hz hap) Z hd h2
/-! ### Memory that a region makes -/
def frS (B:Nat) (T:TypeId) (L:Lay) (n:Nat) (z:Value):VT where
 p v h := ∃ b c,B≤b∧v=slV (some b) n n∧h b=some (c,T,(0,0))∧c.size=n*L.sz∧n≤2^48 ∧ ∀ i,i<n→bP L c (i*L.sz)=some z
 mono:=fun H ⟨b,c,h1,h2,h3,h4⟩=>⟨b,c,h1,h2,H _ _ h3,h4⟩
instance {B:Nat} {T:TypeId} {L:Lay} {n:Nat} {z:Value} : Flat (frS B T L n z) .one:=⟨fun v h ⟨b,c,_,e,_⟩=>by subst e;simp [slV,Value.cells,Lay.sz,Value.oneCell',bP]⟩
theorem oM {T e:TypeId} {z:Value} {by':Nat} {L:Lay} {x y:Operand} {il ic:Int} [hS:SliceOf P T e] [hL:LayOf P e L] [hZ:ZeroOf P e z by'] [hF:Flat (one z) L] (B0 n:Nat) (hB0:B0=E.w0.heap.size) (hx:aB Γ x=some (one (.int .i64 il))) (hy:aB Γ y=some (one (.int .i64 ic)))
  (hil:il=n) (hic:ic=n) (hb0:Nat.ble 1 by'=true) (hz0:Nat.ble 1 L.sz=true) (hn:by'*n≤2^48):aC P E Γ M ⟨d, .makeSlice T x y,ty,pos,af,gd⟩ (frS B0 e L n z):=by
 subst hB0
 have hb0:=Nat.le_of_ble_eq_true hb0
 have hz0:=Nat.le_of_ble_eq_true hz0
 subst hil hic
 refine aC.ofRun' fun a w hb hf => ?_
 have hx':a.eval x = .int .i64 n:=hf x _ (by simp [Op.operands]) hx
 have hy':a.eval y = .int .i64 n:=hf y _ (by simp [Op.operands]) hy
 obtain ⟨h1,h2,h3⟩:=hF.ok z (fun _=>none) Z
 have hn48:n≤2^48:=by
  have:n≤by'*n:=Nat.le_mul_of_pos_left n hb0
  omega
 refine ⟨slV (some w.heap.size) n n,w.alloc (.cells (dt z.cells (n*L.sz)) e),?_,Ext.alloc w _,w.heap.size,_,hb.fr.size,rfl,pZ hb,eO _ _,hn48,fun q hq=>jL h1 h3 hq hz0⟩
 simp only [execOp,hx',hy',Sem.run_bind,gQ hb0 (Nat.le_refl n) hn,Result.andThen_ok,Sem.run_pure]
theorem wi {a1 a2:Act} {w1 w2:World} {N:Mem} {Γn Γk:Ctx} (hS:St E D Γ M a1 w1) (hx:Ext w1 w2) (hsz:a2.tmps.size=E.N) (hdf:a2.defers=D)
  (hk : ∀ t φ,bt Γk t=some φ→bt Γ t=some φ∧a2.tmps.getD t undef=a1.tmps.getD t undef)
  (hmem : ∀ o∈N,o.p (raw w2) (hv E (N ++ M) w2)) (hnd:(aS N).Nodup) (hb : ∀ b∈aS N,w1.heap.size≤b∧b<w2.heap.size)
  (hn : ∀ t φ,bt Γn t=some φ→φ.p (a2.tmps.getD t undef) (hv E (N ++ M) w2)):St E D (Γn ++ Γk) (N ++ M) a2 w2:=by
 have hex:=hS.base.ex
 have hle:Hp.le (hv E M w1) (hv E (N ++ M) w2):=by
  intro b x e
  obtain ⟨h1,h2⟩:=cW e
  refine eA ?_ (hx.view _ _ h2)
  have hlt:=d9 h2
  intro h
  rw [bj] at h
  rcases List.mem_append.1 h with h | h
  ·exact h1 (List.mem_append.2 (.inl h))
  ·rcases List.mem_append.1 h with h | h
   ·have:=(hb b h).1;omega
   ·exact h1 (List.mem_append.2 (.inr h))
 have hB:=hS.base.ext hx
 refine ⟨⟨?_,?_,?_,?_,?_,hB.fr⟩,hsz,hdf,?_⟩
 ·intro q hq
  rcases List.mem_append.1 hq with hq | hq
  ·exact hmem q hq
  ·exact q.loc (fun b hb'=>(fJ (hx.block b (hex b (List.mem_append.2 (.inr (cJ hq hb')))))).symm) hle (hS.base.mem q hq)
 ·rw [bj,List.nodup_append]
  refine ⟨hnd,hS.base.nd,fun x hx' y hy => ?_⟩
  have h1:=(hb x hx').1
  have h2:=hex y (List.mem_append.2 (.inr hy));omega
 ·intro b h
  rw [bj] at h
  rcases List.mem_append.1 h with h | h
  ·intro hO;have:=hex _ (List.mem_append.2 (.inl hO));have:=(hb b h).1;omega
  ·exact hS.base.dis b h
 ·intro b h
  rw [bj] at h
  rcases List.mem_append.1 h with h | h
  ·exact .inl (Nat.le_trans hS.base.fr.size (hb b h).1)
  ·exact hS.base.lo b h
 ·intro b h
  rw [bj] at h
  rcases List.mem_append.1 h with h | h
  ·exact hB.ex b (List.mem_append.2 (.inl h))
  ·rcases List.mem_append.1 h with h | h
   ·exact (hb b h).2
   ·exact hB.ex b (List.mem_append.2 (.inr h))
 ·intro t φ h
  rw [mB] at h
  cases hl:bt Γn t with
  | some φ' => rw [hl] at h; simp only [Option.or] at h; cases h; exact hn t _ hl
  | none =>
   rw [hl] at h;simp only [Option.or] at h
   obtain ⟨h1,h2⟩:=hk t φ h
   rw [h2]; exact φ.mono hle (hS.tm t φ h1)
theorem Ar {id:Nat} {Q:Exit→Act→World→Prop} (hm:P.follows .mixedOrders=true) (hok:okU ops=true)
  (hfree:((List.range ops.size).all fun j=>match bK ops j with | some (d,_)=>(bt Γ d).isNone | none=>true)=true)
  (h : ∀ a1 w1,St E D Γ M a1 w1→RunU P ⟨w1,E.O,aS M ++ E.I,E.N,E.R⟩ M ops 0 Γ [] ops.toList (fun Γ' C => ∀ (γ:Nat→Nat) a2 w2,St ⟨w1,E.O,aS M ++ E.I,E.N,E.R⟩ D (rV γ C ++ Γ') (nx γ C ++ M) a2 w2→Ext w1 w2 →
   (∀ t,(∀ j,dstOf ops j≠some t)→a2.tmps.getD t undef=a1.tmps.getD t undef)→Q .normal a2 w2)):J P E D Γ M (.region id ops true) Q:=by
 intro a w hS
 have hU:=wd hok
 refine dM hm fun w₁ hw₁ => ?_
 have k:Ext w { w₁ with drawn:=w₁.drawn+1 } := hw₁.trans ⟨rfl,rfl,rfl,Nat.le_refl _,fun _ _=>rfl⟩
 have hS1:St E D Γ M a { w₁ with drawn:=w₁.drawn+1 } := ⟨hS.base.ext k,hS.sz,hS.df,fun t φ ht=>φ.mono (Base.hv_ext k) (hS.tm t φ ht)⟩
 generalize { w₁ with drawn:=w₁.drawn+1 } = w1 at hS1
 obtain ⟨G,CC,hG0,hC0,hK,hG'⟩:=(h a w1 hS1).chain
 generalize hE1:(⟨w1,E.O,aS M ++ E.I,E.N,E.R⟩:Env)=E1 at *
 have hG : ∀ j o,ops[j]? = some o→OpU P E1 M ops (G j) o (CC j) (G (j+1)) (CC (j+1)):=fun j o ho=>by
  have:=hG' j o (by simpa using ho)
  simpa using this
 have hbase:Base E1 M w1:=by
  subst hE1
  exact ⟨hS1.base.mem,hS1.base.nd,hS1.base.dis,fun b hb => .inr (List.mem_append.2 (.inl hb)),hS1.base.ex,Fr.refl _ _⟩
 have hw1:E1.w0.heap.size≤w1.heap.size:=by subst hE1;exact Nat.le_refl _
 have ehv:hv E1 M w1=hv E M w1:=by subst hE1;rfl
 have eN:E1.N=E.N:=by subst hE1;rfl
 have hlen:ops.toList.length=ops.size:=by simp
 rw [hlen,Nat.zero_add] at hK
 have hfr : ∀ kk j d T,kk≤ops.size→bK ops j=some (d,T)→bt (G kk) d=none:=by
  intro kk j d T
  induction kk with
  | zero =>
   intro _ hj
   rw [hG0]
   have:=List.all_eq_true.1 hfree j (List.mem_range.2 (eo hj))
   rw [hj] at this
   simpa using this
  | succ kk ih =>
   intro hk hj
   have ho:ops[kk]? = some ops[kk]:=by simp [show kk<ops.size by omega]
   have hprev:=ih X hj
   by_cases e:kk=j
   ·subst e
    generalize hX:G (kk+1)=BR
    generalize hY:CC (kk+1)=BS
    have hop:=hG kk _ ho
    rw [hX,hY] at hop
    cases hop with
    | pure hal _ => simp [bK, ho, hal] at hj
    | alloc hL hZ hF he hd => exact hprev
    | store hL hF he hy => exact hprev
   ·rw [jO hG ho ((hU.al j d T hj).1 kk e)]; exact hprev
 have hl0 : ∀ j,(Array.replicate ops.size false).getD j false=false:=fun j=>by
  simp [Array.getD_eq_getD_getElem?,Array.getElem?_replicate]; split <;> rfl
 have hhb:hb ops (Array.replicate ops.size false) (fun _=>0) = []:=by
  rw [List.eq_nil_iff_forall_not_mem]
  intro b hb'
  obtain ⟨j,x,_,h2,_⟩:=rT.1 hb'
  rw [hl0] at h2;cases h2
 refine gY (n:=ops.size) hU.any (fun l a' w' => ∃ β,InvU P E1 D M ops G w1 a β l a' w') ?_ ?_ (fun l a w w' ⟨β,h⟩ k=>⟨β,h.ext k⟩) ops.size _ a _ ⟨by simp,fun j hj => ?_⟩ ?_ ⟨fun _=>0,?_⟩
 ·rintro l a' w' ⟨β,hI⟩ hall
  obtain ⟨γ,hS'⟩:=hI.fin hU hG hC0 hw1 hall
  exact hK γ a' w' hS' hI.keepW hI.keepS
 ·rintro l a' w' i ⟨β,hI⟩ hl hi1 hi2 hi
  exact Aa hU hG hfr hw1 hI hl hi1 hi2 hi
 ·rw [hl0] at hj;cases hj
 ·unfold left;refine Nat.le_trans (List.length_filter_le _ _) (by simp)
 ·refine ⟨by rw [hhb,kr]; exact hbase,by rw [eN]; exact hS1.sz,hS1.df,?_,?_,?_,?_,Ext.refl _,fun t _=>rfl⟩
  ·rw [hhb,kr]
   intro k' hk' t φ hlk hlo _
   have hno : ∀ j,0≤j→j<k'→dstOf ops j≠some t:=by
    intro j _ hj hd
    have:=hlo j hj hd
    rw [hl0] at this;cases this
   rw [ep hG (Nat.zero_le _) hk' hno,hG0] at hlk
   rw [ehv]; exact hS1.tm t φ hlk
  ·intro j j' x x' _ _ h3 _;rw [hl0] at h3;cases h3
  ·intro j x _ h3;rw [hl0] at h3;cases h3
  ·intro j d T _ h3;rw [hl0] at h3;cases h3
theorem qa {m:Nat} {cs:bW} {c:Array Value} {h:Hp} (H:(bE m cs).p (.agg c) h) {k:Nat} {L:Lay} {φ:VT} (hl:fP cs k=some (L, φ)) : ∃ x,bP L c k=some x∧φ.p x h:=by
 obtain ⟨c',h1,_,_,h4⟩:=H
 cases h1
 exact h4 _ (dU hl)
theorem As {e:Exit} {Q:Exit→Act→World→Prop} {a:Act} {w:World} (h:PJ E D Γ M e Q) (hS:St E D Γ M a w):Q e a w:=h a w hS
def wj (ops:Array Oper) (t:Nat):Bool:=(List.range ops.size).all fun j=>dstOf ops j != some t
theorem uI {t:Nat} (h:wj ops t=true) : ∀ j,dstOf ops j≠some t:=fun j e=>by
 have:=List.all_eq_true.1 h j (List.mem_range.2 (li e))
 rw [e] at this;simp at this
def tx (ops:Array Oper) (Γ Γk:Ctx):Prop := ∀ t φ,bt Γk t=some φ→bt Γ t=some φ ∧ ∀ j,dstOf ops j≠some t
theorem tx.nil:tx ops Γ []:=fun t φ h=>by cases h
theorem tx.cons {t:Nat} {φ:VT} {Γk:Ctx} (h:bt Γ t=some φ) (hd:wj ops t=true) (hr:tx ops Γ Γk):tx ops Γ ((t, φ) :: Γk):=fun s ψ hs=>by
 rw [aW] at hs
 split at hs
 ·rename_i e;subst e;cases hs;exact ⟨h,uI hd⟩
 ·exact hr s ψ hs
theorem rW {a1 a2:Act} {w1 w2:World} {Γ2 Γk:Ctx} {t b m k n:Nat} {T T':TypeId} {L:Lay} {z:Value} {cs cs1:bW} (hS:St E D Γ M a1 w1) (hI:E.I = [])
  (hS2:St ⟨w1,E.O,aS M ++ E.I,E.N,E.R⟩ D Γ2 (aT b T m [(0, .agg m,bE m cs)] :: M) a2 w2) (hx:Ext w1 w2) (hk2 : ∀ t,(∀ j,dstOf ops j≠some t)→a2.tmps.getD t undef=a1.tmps.getD t undef) (hk:tx ops Γ Γk)
  (ht:bt Γ2 t=some (one (.pointer (some ⟨b,0,none⟩)))) (hl:fP cs k=some (.one,frS w1.heap.size T' L n z)) (hc1 : ∀ q∈cs1, ∃ v,q.2.2=one v∧fP cs q.1=some (q.2.1,one v)) :
  ∃ b2,St E D ((t,one (.pointer (some ⟨b,0,none⟩))) :: Γk) (aT b T m ((k, .one,one (slV (some b2) n n)) :: cs1) :: aH (some b2) T' L n n (fun _=>one z) :: M) a2 w2:=by
 have hbox:=hS2.base.mem _ List.mem_cons_self
 obtain ⟨c,hc,hs,ha,hcs⟩:=hbox
 obtain ⟨v,hv1,hv2⟩:=hcs _ List.mem_cons_self
 have hv1:(if 0+m≤c.size then some (Value.agg (c.extract 0 (0+m))) else none)=some v:=hv1
 rw [if_pos X] at hv1
 have e1:c.extract 0 (0+m)=c:=by rw [Nat.zero_add, ← hs]; simp
 rw [e1] at hv1;cases hv1
 obtain ⟨x,hx1,b2,c2,g1,g2,g3,g4,g5,g6⟩:=qa hv2 hl
 obtain ⟨n1,n2⟩:=cW g3
 have hbb:w1.heap.size≤b∧b<w2.heap.size:=by
  refine ⟨?_,hS2.base.ex b (by simp [aT])⟩
  rcases hS2.base.lo b (by simp [aT]) with h | h
  ·exact h
  ·exfalso
   rw [hI,List.append_nil] at h
   have hnd:=hS2.base.nd
   rw [blks_cons,List.nodup_append] at hnd
   exact hnd.2.2 b (by simp [aT]) b h Z
 have hne:b2≠b:=fun e=>n1 (by rw [e]; simp [aT])
 refine ⟨b2,wi (N := [aT b T m ((k, .one,one (slV (some b2) n n)) :: cs1),aH (some b2) T' L n n (fun _=>one z)]) (Γn := [(t,one (.pointer (some ⟨b,0,none⟩)))]) hS hx hS2.sz hS2.df (fun t φ h=>⟨(hk t φ h).1,hk2 t (hk t φ h).2⟩) ?_ ?_ ?_ ?_⟩
 ·intro o ho
  rcases List.mem_cons.1 ho with rfl | ho
  ·refine ⟨c,hc,hs,ha,fun q hq => ?_⟩
   rcases List.mem_cons.1 hq with rfl | hq
   ·exact ⟨x,hx1,g2⟩
   ·obtain ⟨v,e1,e2⟩:=hc1 q hq
    obtain ⟨y,hy1,hy2⟩:=qa hv2 e2
    exact ⟨y,hy1,by rw [e1]; exact hy2⟩
  ·have ho:=List.mem_singleton.1 ho
   subst ho
   refine ⟨Nat.le_refl _,g5,(fun h=>by cases h),fun b' hb' => ?_⟩
   cases hb'
   exact ⟨c2,n2,g4,fun i hi=>⟨z,g6 i hi,rfl⟩⟩
 ·simp [aS,aT,aH]; exact fun e=>hne e.symm
 ·intro b' hb'
  simp [aS,aT,aH] at hb'
  rcases hb' with rfl | rfl
  ·exact hbb
  ·exact ⟨g1,d9 n2⟩
 ·intro s φ hs
  rw [aW] at hs
  split at hs
  ·rename_i e;subst e;cases hs;exact hS2.tm _ _ ht
  ·cases hs
end
end Tor
end
section
namespace Tor
open Go Go.RowKit
variable [Tor.Co.Kc]
section
variable {P:Program} {E:Env} {D:List Deferred} {Γ:Ctx} {M:Mem} {ty:TypeId} {pos:String} {af:Array Edge} {gd:Option (Nat × Bool)} {d:Option Tmp}
theorem wl {T e:TypeId} {n m:Nat} {L:Lay} [hA:ArrayOf P T n e] [hL:LayOf P e L] {x y:Operand} {cs:bW} {φ:VT} {k:IntKind} {j:Nat} (hx:aB Γ x=some (bE m cs)) (hy:aB Γ y=some (one (.int k (j:Int)))) (hj:j<n) (hl:fP cs (j*L.sz)=some (L, φ)) :
  aC P E Γ M ⟨d, .index T x y,ty,pos,af,gd⟩ φ :=
 aC.ofRun fun a w hb hf=>by
  obtain ⟨c,hv',hs,ha,hcs⟩:=hf x _ (by simp [Op.operands]) hx
  have hy':a.eval y = .int k j:=hf y _ (by simp [Op.operands]) hy
  obtain ⟨v,h1,h2⟩:=hcs _ (dU hl)
  refine ⟨v,?_,h2⟩
  have hi:0≤(j:Int)∧(j:Int)<(n:Int):=⟨by omega,by omega⟩
  have h6:(part e c (j*L.sz)).run P w = .ok v w:=pS (P:=P) (T:=e) h1 w
  simp [execOp,hv',hy',Instr.index,asIntOf,aO hA.und,hj,cn (L:=L),Sem.run_bind,h6]
theorem wm {T e:TypeId} {n:Nat} {L:Lay} [hA:ArrayOf P T n e] [hL:LayOf P e L] {x y:Operand} {b o:Nat} {k:IntKind} {j:Nat} (hx:aB Γ x=some (one (.pointer (some ⟨b,o,none⟩)))) (hy:aB Γ y=some (one (.int k (j:Int)))) (hj:j<n) :
  aC P E Γ M ⟨d, .indexAddr T x y,ty,pos,af,gd⟩ (one (.pointer (some ⟨b,o+j*L.sz,none⟩))) :=
 aC.ofRun fun a w hb hf=>by
  have hx':a.eval x = .pointer (some ⟨b,o,none⟩):=hf x _ (by simp [Op.operands]) hx
  have hy':a.eval y = .int k j:=hf y _ (by simp [Op.operands]) hy
  refine ⟨.pointer (some ⟨b,o+j*L.sz,none⟩),?_,rfl⟩
  have hi:0≤(j:Int)∧(j:Int)<(n:Int):=⟨by omega,by omega⟩
  simp [execOp,hx',hy',Instr.indexAt,Instr.sureAddr,asIntOf,aO hA.und,hj,cn (L:=L),cX,Sem.run_bind]
theorem nJ {T e:TypeId} {n:Nat} {L:Lay} [hA:ArrayOf P T n e] [hL:LayOf P e L] {x:Operand} {b o:Nat} {k:IntKind} (j:Nat) (iv:Int) (hiv:iv=(j:Int)) (hx:aB Γ x=some (one (.pointer (some ⟨b,o,none⟩)))) (hj:j<n) :
  aC P E Γ M ⟨d, .indexAddr T x (.const (.int k iv)),ty,pos,af,gd⟩ (one (.pointer (some ⟨b,o+j*L.sz,none⟩))):=by
 subst hiv
 exact wm hx Z hj
end
end Tor
end
section
namespace Tor
open Go Go.RowKit
variable [Tor.Co.Kc]
section
variable {P:Program} {E:Env} {D:List Deferred} {Γ:Ctx} {M:Mem} {Q:Exit→Act→World→Prop}
theorem aM {c:Operand} {x y:Code} (hc:aB Γ c=some (one (.bool true))) (h:J P E D Γ M x Q):J P E D Γ M (.cond c x y) Q:=bv hc (fun _=>h) (fun h=>nomatch h)
theorem aD {c:Operand} {x y:Code} (hc:aB Γ c=some (one (.bool false))) (h:J P E D Γ M y Q):J P E D Γ M (.cond c x y) Q:=bv hc (fun h=>nomatch h) (fun _=>h)
theorem l5 {c:Operand} {x y:Code} {p:Prop} {dp:Decidable p} (hc:aB Γ c=some (one (.bool (@decide p dp)))) (hp:p) (h:J P E D Γ M x Q):J P E D Γ M (.cond c x y) Q :=
 aM (by rw [hc,decide_eq_true hp]) h
theorem l6 {c:Operand} {x y:Code} {p:Prop} {dp:Decidable p} (hc:aB Γ c=some (one (.bool (@decide p dp)))) (hp : ¬ p) (h:J P E D Γ M y Q):J P E D Γ M (.cond c x y) Q :=
 aD (by rw [hc,decide_eq_false hp]) h
theorem ku {c:Operand} {x y:Code} {p:Prop} {dp:Decidable p} (hc:aB Γ c=some (one (.bool (@decide p dp)))) (ht:p→J P E D Γ M x Q) (hf : ¬ p→J P E D Γ M y Q):J P E D Γ M (.cond c x y) Q:=by
 by_cases h:p
 ·exact l5 hc h (ht h)
 ·exact l6 hc h (hf h)
theorem dO.app : ∀ {BV Γ Γk:Ctx},dO Γ BV→dO Γ Γk→dO Γ (BV ++ Γk)
 | [], _, _, _, h => h
 | (k, v) :: BV, Γ, Γk, h1, h2 => by
  intro t φ hl
  rw [List.cons_append,aW] at hl
  split at hl
  ·rename_i e;subst e;exact h1 _ φ (by rw [aW,if_pos Z]; exact hl)
  ·rename_i e
   rw [mB] at hl
   cases hA:bt BV t with
   | some ψ =>
    rw [hA] at hl;cases hl
    exact h1 t _ (by rw [aW,if_neg e]; exact hA)
   | none =>
    rw [hA] at hl
    exact h2 t φ hl
theorem bO {σ:Type} {c:Code} {Γk:Ctx} (hk:dO Γ Γk) (Gv:σ→Ctx) (Mf:σ→Mem→Mem) (ok:σ→Prop) (μ:σ→Nat) (s0:σ) (h0:ok s0) (hg:dO Γ (Gv s0)) (hm:SubM M (Mf s0 M))
  (round : ∀ s,ok s→J P E D (Gv s ++ Γk) (Mf s M) c (Exit.then (fun a w => ∃ s',ok s'∧μ s'<μ s∧St E D (Gv s' ++ Γk) (Mf s' M) a w) Q)):J P E D Γ M (.loop c) Q :=
 c6 (fun s=>Gv s ++ Γk) (fun s=>Mf s M) ok μ s0 h0 (dO.app hg hk) hm round
theorem yB {σ:Type} {c:Code} {n:Act→World→Prop} {Γk:Ctx} (hk:dO Γ Γk) (Gv:σ→Ctx) (Mf:σ→Mem→Mem) (ok:σ→Prop)
  (h:J P E D Γ M c (Exit.then (fun a w => ∃ s,ok s∧St E D (Gv s ++ Γk) (Mf s M) a w) Q))
  (hn : ∀ s,ok s→PJ E D (Gv s ++ Γk) (Mf s M) .normal (Exit.then n Q)):J P E D Γ M c (Exit.then n Q) :=
 eW (fun s=>Gv s ++ Γk) (fun s=>Mf s M) ok h hn
theorem cg {c:Code} {Γ':Ctx} {M':Mem} (hg:Γ=Γ') (hm:M=M') (h:J P E D Γ' M' c Q):J P E D Γ M c Q:=hg▸hm▸h
def oN (P:Program) (E:Env) (c:Code) (Q:Exit→Act→World→Prop):Nat→Act→World→Prop
 | 0, _, _ => False
 | m + 1, a, w => JW P E c (Exit.then (oN P E c Q m) Q) a w
theorem wn {c:Code} (n:Nat) (h:J P E D Γ M c (Exit.then (oN P E c Q n) Q)):J P E D Γ M (.loop c) Q:=fun a w hS hd =>
 Co.wpX_loop (fun m a w=>oN P E c Q m a w) id (n+1) (h a w hS) fun m a w hI=>by
  cases m with
  | zero => exact hI.elim
  | succ m => exact Co.wpX_mono (hI hd.loop) fun e a w hq => by cases e <;> first | exact hq | exact ⟨m, hq, Nat.lt_succ_self m⟩
theorem aX {σ:Type} {G:σ→Ctx} {Ms:σ→Mem} {ok:σ→Prop} {μ:σ→Nat} {m:Nat} (s':σ) (h:ok s') (hμ:μ s'<m) (hg:dO Γ (G s')) (hm:SubM M (Ms s')) :
  PJ E D Γ M .normal (Exit.then (fun a w => ∃ s',ok s'∧μ s'<m∧St E D (G s') (Ms s') a w) Q) :=
 fun a w hS=>⟨s',h,hμ,hS.sub hg hm⟩
end
end Tor
end
