/-
  Theorems that the proofs of laws of this seat rest on.
  No condition.
-/
import Derived.Test.YtfaglimgjfhdfaaGreatZO3
import Derived.RangeFuncFrom
import Derived.Test.YtfaglimgjfhdfaaGreatProg
set_option maxHeartbeats 20000000
set_option linter.unusedVariables false
set_option linter.unusedSimpArgs false
set_option linter.unusedSectionVars false
section
namespace Tor
open Go Go.RowKit
variable [Tor.Co.Kc]
section
variable {P:Program} {E:Env} {D:List Deferred} {Γ:Ctx} {M:Mem} {Q:Exit→Act→World→Prop}
def dfO (b:Nat):Own where
 bl := [b]
 p g _:=g b=some (.deferred (some []))
 loc:=fun he _ H=>(he _ (by simp)).symm.trans H
abbrev ol (b:Nat):Deferred := { target := .collected b,args := #[] }
class CellO (o:Own):Prop where
 h : ∀ g k,o.p g k → ∀ b∈o.bl, ∃ c T f,g b=some (.cells c T f)
theorem pI {g:RH} {b:Nat} {c:Array Value} {T:TypeId} {f:Nat × Nat} (e:vw g b=some (c,T,f)):g b=some (.cells c T f):=by
 unfold vw at e;split at e
 ·rename_i h;cases e;exact h
 ·cases e
instance {b:Nat} {T:TypeId} {m:Nat} {cs:bT} : CellO (aQ b T m cs):=⟨fun g k ⟨c,h,_⟩ b' hb=>by
 rw [show b'=b by simpa [aQ] using hb]; exact ⟨_,_,_,pI h⟩⟩
instance {sv:Option Nat} {T:TypeId} {L:Lay} {cap n:Nat} {φ:Nat→VT} : CellO (aI sv T L cap n φ):=⟨fun g k ⟨_,_,_,h⟩ b hb=>by
 obtain ⟨c,hc,_⟩:=h b (by simpa [aI] using hb);exact ⟨_,_,_,pI hc⟩⟩
class CellM (M:Mem):Prop where
 h : ∀ o∈M,CellO o
instance:CellM []:=⟨fun o h=>by cases h⟩
instance {o:Own} {M:Mem} [ho:CellO o] [hM:CellM M]:CellM (o :: M):=⟨fun x h=>by
 rcases List.mem_cons.1 h with rfl | h
 ·exact ho
 ·exact hM.h x h⟩
theorem CellM.get {M:Mem} (hc:CellM M) {E:Env} {w:World} (hB:Base E M w) {b:Nat} (hb:b∈aV M) : ∃ c T f,w.heap[b]? = some (Obj.cells c T f):=by
 obtain ⟨o,ho,hbo⟩:=List.mem_flatMap.1 hb
 exact (hc.h o ho).h _ _ (hB.mem o ho) b hbo
theorem St.grown {a:Act} {W W':World} {row:Option Nat} {B:Nat} (hc:CellM M) (hS:St E D Γ M a W) (hg:W.grownBy W' row) (hB:E.w0.heap.size≤B)
  (hr : ∀ r,row=some r→B≤r ∧ ∃ o:Obj,W.heap[r]? = some o∧o.isCells=false):St E D Γ M a W':=by
 have hk : ∀ b c T f,W.heap[b]? = some (Obj.cells c T f)→W'.heap[b]? = W.heap[b]? := fun b c T f e=>grownBy_keeps_cells hg (fun r e=>(hr r e).2) e Z
 have hle:Hp.le (hv E M W) (hv E M W'):=gA fun b x e=>by
  obtain ⟨c,T,f⟩:=x
  have:=dJ e
  exact fF ((hk _ _ _ _ this).trans this)
 refine ⟨⟨fun o ho=>o.loc (fun b hb => ?_) hle (hS.base.mem o ho),hS.base.nd,hS.base.dis,hS.base.lo,fun b hb=>Nat.lt_of_lt_of_le (hS.base.ex b hb) hg.size,?_⟩,hS.sz,hS.df,fun t φ h=>φ.mono hle (hS.tm t φ h)⟩
 ·obtain ⟨c,T,f,e⟩:=(hc.h o ho).h _ _ (hS.base.mem o ho) b hb
  exact (hk b c T f e).symm
 ·have hf:=hS.base.fr
  refine ⟨hg.os.trans hf.os,hg.tape.trans hf.tape,hg.output.trans hf.output,Nat.le_trans hf.size hg.size,fun k hk hn=>(hg.block k (Nat.lt_of_lt_of_le hk hf.size) fun e => ?_).trans (hf.block k hk hn)⟩
  have:=(hr k e.symm).1
  omega
theorem St.from_ {a:Act} {w W:World} {M0:Mem} {r:Option Nat} (hB:Base E M0 w) (hS:St ⟨w,E.O,aV M0,E.N,r⟩ D Γ M a W):St E D Γ M a W :=
 ⟨⟨hS.base.mem,hS.base.nd,hS.base.dis,fun b hb=>(hS.base.lo b hb).elim (fun h => .inl (Nat.le_trans hB.fr.size h)) (fun h=>hB.lo b h),hS.base.ex,
  hB.fr.trans' hS.base.fr fun x hx=>hB.lo x hx⟩,hS.sz,hS.df,hS.tm⟩
theorem St.slots {a a':Act} {W W':World} {M':Mem} {r:Option Nat} {Γ':Ctx} (hS:St E D Γ M a W) (hS':St ⟨W,E.O,aV M,E.N,r⟩ [] Γ' M' a' W'):St E D Γ M' a W':=by
 have hle:Hp.le (hv E M W) (hv E M' W'):=by
  intro b x e
  obtain ⟨h1,h2⟩:=cY e
  have hlt:=eD h2
  have hnM:b ∉ aV M:=fun h=>h1 (List.mem_append.2 (.inr h))
  refine eA (fun h => ?_) (by rw [gm (hS'.base.fr.block b hlt hnM)]; exact h2)
  rcases List.mem_append.1 h with h | h
  ·exact h1 (List.mem_append.2 (.inl h))
  ·rcases hS'.base.lo b h with h3 | h3
   ·have h3:W.heap.size≤b:=h3
    omega
   ·exact hnM h3
 have hB:=(hS'.from_ hS.base).base
 exact ⟨hB,hS.sz,hS.df,fun t φ h=>φ.mono hle (hS.tm t φ h)⟩
structure SameW (W0 W:World):Prop where
 os:W.os=W0.os
 tape:W.tape=W0.tape
 output:W.output=W0.output
 size:W0.heap.size≤W.heap.size
theorem SameW.refl (W:World):SameW W W:=⟨rfl,rfl,rfl,Nat.le_refl _⟩
theorem SameW.trans {a b c:World} (h:SameW a b) (k:SameW b c):SameW a c:=⟨k.os.trans h.os,k.tape.trans h.tape,k.output.trans h.output,Nat.le_trans h.size k.size⟩
theorem SameW.ofExt {a b:World} (h:Ext a b):SameW a b:=⟨h.os,h.tape,h.output,h.size⟩
theorem SameW.put {W:World} {l:Nat} {o:Obj} : SameW W (W.putObj l o):=⟨rfl,rfl,rfl,by simp⟩
def iG {β:Type} (J:β→World→Prop):Prop := ∀ s W W',J s W→Ext W W'→J s W'
def om {α:Type} (P:Program) (l:Nat) (enc:α→Value) (J Jx:List α→World→Prop) (Nr:Nat):Prop :=
 ∀ pre x W1,J pre W1→pre.length<Nr → ∃ fn tmps ag bd,(Instr.yield l #[enc x]).run P W1 = .ok (.round l fn tmps ag bd) W1 ∧
  Co.RoundX P l fn tmps ag bd W1 fun e W'=>(e = .returned (.bool true)∧J (pre ++ [x]) W'∧SameW W1 W')∨(e = .returned (.bool false)∧Jx (pre ++ [x]) W')
def RY {α:Type} (S Sp:List α→Prop) (J Jx:List α→World→Prop) (e:Ending) (W:World):Prop:=(∃ v,e = .returned v)∧((∃ xs,S xs∧J xs W)∨(∃ pre,Sp pre∧Jx pre W))
def OkY {α:Type} (P:Program) (gf:FuncId) (cs:List VT) (enc:α→Value) (S Sp:List α→Prop) (N:Nat):Prop :=
 ∀ (w:World) (O:List Nat) (ca:List Value),(∀ b∈O,b<w.heap.size)→eR cs ca (hid O (view w)) → ∀ (l:Nat) (J Jx:List α→World→Prop),iG J→iG Jx→om P l enc J Jx N→J [] w →
  jh P gf (.func (.yield l) #[] #[] :: ca).toArray w (RY S Sp J Jx)
def vy {α σ:Type} (E:Env) (Ms:σ→Mem) (ok:List α→σ→Prop) (okx:Option Nat→List α→σ→Prop) (pre:List α):Exit→Act→World→Prop
 | .normal, a, w => ∃ s, ok pre s ∧ St E [] [] (Ms s) a w
 | .ret, a, w => ∃ s, okx none pre s ∧ St E [] [] (Ms s) a w
 | .exit id, a, w => ∃ s, okx (some id) pre s ∧ St E [] [] (Ms s) a w
 | _, _, _ => False
theorem St.mark {a:Act} {W:World} {b:Nat} (hc:CellM M) (hS:St E D Γ M a W) (hb:E.w0.heap.size≤b) (hO:b ∉ E.O) (hh:W.heap[b]? = some (.deferred (some []))) :
  St E (ol b :: D) Γ (dfO b :: M) { a with defers:=ol b :: a.defers } W:=by
 have hn:b ∉ aV M:=fun h=>by obtain ⟨c,T,f,e⟩:=hc.get hS.base h;rw [hh] at e;cases e
 have hlt:b<W.heap.size:=(Array.getElem?_eq_some_iff.1 hh).1
 have hle:Hp.le (hv E M W) (hv E (dfO b :: M) W):=by
  intro x y e
  obtain ⟨h1,h2⟩:=cY e
  refine eA (fun h => ?_) h2
  have hx:x≠b:=fun e=>by subst e;unfold view at h2;rw [hh] at h2;cases h2
  simp only [List.mem_append,blks_cons,dfO,List.mem_singleton] at h
  rcases h with h | h | h
  ·exact h1 (List.mem_append.2 (.inl h))
  ·exact hx h
  ·exact h1 (List.mem_append.2 (.inr h))
 refine ⟨⟨?_,?_,?_,?_,?_,hS.base.fr⟩,hS.sz,by simp [hS.df],fun t φ h=>φ.mono hle (hS.tm t φ h)⟩
 ·intro o ho
  rcases List.mem_cons.1 ho with rfl | ho
  ·exact hh
  ·exact o.loc (fun _ _=>rfl) hle (hS.base.mem o ho)
 ·show (b :: aV M).Nodup
  exact List.nodup_cons.2 ⟨hn,hS.base.nd⟩
 ·intro x hx
  rcases List.mem_cons.1 (show x∈b :: aV M from hx) with rfl | h
  ·exact hO
  ·exact hS.base.dis x h
 ·intro x hx
  rcases List.mem_cons.1 (show x∈b :: aV M from hx) with rfl | h
  ·exact .inl hb
  ·exact hS.base.lo x h
 ·intro x hx
  rcases List.mem_append.1 hx with h | h
  ·exact hS.base.ex x (List.mem_append.2 (.inl h))
  ·rcases List.mem_cons.1 (show x∈b :: aV M from h) with rfl | h
   ·exact hlt
   ·exact hS.base.ex x (List.mem_append.2 (.inr h))
theorem sA {α σ:Type} {g:Operand} {p q id:Nat} {T:TypeId} {pos:String} {body:Code} {gf:FuncId} {cs:List VT} {enc:α→Value} {S Sp:List α→Prop} {N:Nat} [hF:Fn P gf]
  (hit:OkY P gf cs enc S Sp N) (Ms:σ→Mem) [hc : ∀ s,CellM (Ms s)] (ok:List α→σ→Prop) (okx:Option Nat→List α→σ→Prop) (s0:σ) (hE:E.R=none) (hg:aA Γ g=some (jd gf cs)) (h0:ok [] s0) (hm:SubM M (Ms s0))
  (hp:Nat.ble (p+1) E.N=true) (hq:Nat.ble (q+1) E.N=true) (hnd:fB body=true)
  (hround : ∀ (l:Nat) (W:World) (pre:List α) (x:α) (s:σ),ok pre s→pre.length<N →
   J P ⟨W,E.O,aV (Ms s),E.N,some l⟩ [] ((q,one (enc x)) :: (p,one (enc x)) :: Γ) (Ms s) body (vy ⟨W,E.O,aV (Ms s),E.N,some l⟩ Ms ok okx (pre ++ [x])))
  (hdone : ∀ (xs:List α) (s:σ) (b:Nat),S xs→ok xs s→PJ E [ol b] Γ (dfO b :: Ms s) .normal Q)
  (hret : ∀ (pre:List α) (s:σ) (b:Nat),Sp pre→okx none pre s→PJ E [ol b] Γ (dfO b :: Ms s) .ret Q)
  (hexit : ∀ (id:Nat) (pre:List α) (s:σ) (b:Nat),Sp pre→okx (some id) pre s→PJ E [ol b] Γ (dfO b :: Ms s) (.exit id) Q) :
  J P E [] Γ M (.rangeFunc g #[p] (.region id #[⟨some q, .assign (.tmp p),T,pos, #[],none⟩] false) body) Q:=by
 intro a w hS hok
 have hpb:cP body=true:=by
  have:=hok.plain
  simp only [cP,Bool.and_eq_true] at this
  exact this.2
 rw [hE]
 obtain ⟨ca,hg0,hca⟩:=cm hS hg
 have hp:=Nat.le_of_ble_eq_true hp
 have hq:=Nat.le_of_ble_eq_true hq
 have hdf:a.defers = []:=hS.df
 refine Co.wpX_rangeFunc (fun l => ?_) fun fn w₀ h₀ => ?_
 ·show Co.Plain P (Sem.bind (Deferred.ofValue (a.eval g) _) _)
  rw [hg0]; exact hF.plain _
 replace hS:=hS.ext h₀
 replace hca:=ep (gA (Ext.view h₀)) hca
 clear h₀
 obtain ⟨rec,hrec⟩ : ∃ rec:LoopState→Option Code→Loop,rec=fun st pe => { state:=st,pending:=pe,fn,tmps:=a.tmps,params := #[p],assign := .region id #[⟨some q, .assign (.tmp p),T,pos, #[],none⟩] false,body,defers:=w₀.heap.size } := ⟨_,rfl⟩
 obtain ⟨W1,hW1⟩ : ∃ W1,(w₀.alloc (.deferred (some []))).alloc (.loop (rec .ready none))=W1:=⟨_,rfl⟩
 have hL1:W1.heap[w₀.heap.size+1]? = some (.loop (rec .ready none)):=by
  rw [← hW1]; have:=World.alloc_heap_new (w₀.alloc (.deferred (some []))) (.loop (rec .ready none));rwa [World.size_alloc] at this
 have hK1:W1.heap[w₀.heap.size]? = some (.deferred (some [])):=by
  rw [← hW1]; exact (Below.heap_alloc _ _ _ (by simp)).trans (World.alloc_heap_new w₀ _)
 have hx1:Ext w₀ W1:=by
  rw [← hW1]; exact ((Below.refl _ w₀).alloc (Nat.le_refl _) _).alloc (by simp) _
 obtain ⟨E0,hE0⟩ : ∃ E0:Env,E0=⟨w₀,E.O,aV M,E.N,none⟩:=⟨_,rfl⟩
 have hS0:St E0 [] Γ M a w₀:=by rw [hE0]; exact ⟨⟨hS.base.mem,hS.base.nd,hS.base.dis,fun b hb => .inr hb,hS.base.ex,Fr.refl _ _⟩,hS.sz,hS.df,hS.tm⟩
 have put : ∀ (s:σ) (W:World) (l:Nat) (o o':Obj),w₀.heap.size≤l→W.heap[l]? = some o→o.isCells=false→St E0 [] Γ (Ms s) a W→St E0 [] Γ (Ms s) a (W.putObj l o'):=fun s W l o o' hl ho hc' h =>
  St.grown (hc s) h (grownBy_putObj' W l o') (by rw [hE0]; exact Nat.le_refl _) fun r e=>by cases e;exact ⟨hl,o,ho,hc'⟩
 obtain ⟨Jr,hJr⟩ : ∃ Jr:List α→World→Prop,Jr=fun pre W=>(∃ s,ok pre s∧St E0 [] Γ (Ms s) a W)∧W.heap[w₀.heap.size+1]? = some (.loop (rec .ready none))∧W.heap[w₀.heap.size]? = some (.deferred (some [])):=⟨_,rfl⟩
 obtain ⟨Jx,hJx⟩ : ∃ Jx:List α→World→Prop,Jx=fun pre W => ∃ (id:Option Nat) (c:Code),c=(match id with | none => .ret | some i => .exit i)∧(∃ s,okx id pre s∧St E0 [] Γ (Ms s) a W)∧W.heap[w₀.heap.size+1]? = some (.loop (rec .done (some c)))∧W.heap[w₀.heap.size]? = some (.deferred (some [])):=⟨_,rfl⟩
 have lt : ∀ {W:World} {k:Nat} {o:Obj},W.heap[k]? = some o→k<W.heap.size:=fun h=>(Array.getElem?_eq_some_iff.1 h).1
 have key:=hit W1 E.O ca (fun b hb=>Nat.lt_of_lt_of_le (hS.base.ex b (List.mem_append.2 (.inl hb))) hx1.size)
  (by
   refine ep (fun b x e => ?_) hca
   obtain ⟨h1,h2⟩:=cY e
   exact eA (fun h=>h1 (List.mem_append.2 (.inl h))) (Ext.view hx1 _ _ h2)) (w₀.heap.size+1) Jr Jx
  (fun s W W' h k=>by
   subst hJr
   obtain ⟨⟨s,h1,h2⟩,h3,h4⟩:=h
   exact ⟨⟨s,h1,h2.ext k⟩,(k.block _ (lt h3)).trans h3,(k.block _ (lt h4)).trans h4⟩)
  (fun s W W' h k=>by
   subst hJx
   obtain ⟨id,c,hc',⟨s,h1,h2⟩,h3,h4⟩:=h
   exact ⟨id,c,hc',⟨s,h1,h2.ext k⟩,(k.block _ (lt h3)).trans h3,(k.block _ (lt h4)).trans h4⟩)
  ?_ (by subst hJr;exact ⟨⟨s0,h0,(hS0.ext hx1).sub (dG.refl _) hm⟩,hL1,hK1⟩)
 ·refine ⟨w₀.heap.size+1, [ol w₀.heap.size],W1, { target := .fn (.func gf) ca.toArray,args := #[.func (.yield (w₀.heap.size+1)) #[] #[]] },gf, #[.func (.yield (w₀.heap.size+1)) #[] #[]] ++ ca.toArray,?_,?_,?_,?_⟩
  ·rw [← hW1,hrec]; exact run_enterLoop_outer _ _ _ _ _
  ·have hg0:a.eval g = .func (.func gf) #[] ca.toArray:=hg0
   simp only [resolve,hg0]
   simp [go_sem]
  ·exact hF.run (#[.func (.yield (w₀.heap.size+1)) #[] #[]] ++ ca.toArray) W1
  ·have he:(#[Value.func (.yield (w₀.heap.size+1)) #[] #[]] ++ ca.toArray)=(Value.func (.yield (w₀.heap.size+1)) #[] #[] :: ca).toArray:=by simp
   rw [he]
   refine key.mono ?_
   rintro e W3 ⟨⟨v,rfl⟩,h⟩ W4 k4
   have fin : ∀ (s:σ) (W:World),W.heap[w₀.heap.size]? = some (.deferred (some []))→St E0 [] Γ (Ms s) a W→St E [ol w₀.heap.size] Γ (dfO w₀.heap.size :: Ms s) { a with defers := [ol w₀.heap.size] ++ a.defers } W:=fun s W hh hs =>
    St.mark (hc s) ((hE0▸hs).from_ hS.base) hS.base.fr.size (fun h=>by have:=hS.base.ex _ (List.mem_append.2 (.inl h));omega) hh
   rcases h with ⟨xs,hxs,hj⟩ | ⟨pre,hsp,hj⟩
   ·subst hJr
    obtain ⟨⟨s,h1,h2⟩,h3,h4⟩:=hj
    replace h3:=(k4.block _ (lt h3)).trans h3
    replace h4:=(k4.block _ (lt h4)).trans h4
    refine ⟨none,_,by have:=run_endLoop (P:=P) h3 (by rw [hrec]; simp);rw [hrec] at this;exact this,?_⟩
    exact hdone xs s _ hxs h1 _ _ (fin s _ ((World.putObj_heap_other X).trans h4) (put s W4 _ _ _ X h3 Z (h2.ext k4)))
   ·subst hJx
    obtain ⟨id,c,hc',⟨s,h1,h2⟩,h3,h4⟩:=hj
    replace h3:=(k4.block _ (lt h3)).trans h3
    replace h4:=(k4.block _ (lt h4)).trans h4
    refine ⟨some c,W4.putObj (w₀.heap.size+1) (.loop { rec .done (some c) with state := .exhausted }),by have:=run_endLoop (P:=P) h3 (by rw [hrec]; simp);rw [hrec] at this ⊢; exact this,?_⟩
    have hfin:=fin s (W4.putObj (w₀.heap.size+1) (.loop { rec .done (some c) with state := .exhausted })) ((World.putObj_heap_other X).trans h4) (put s W4 _ _ _ X h3 Z (h2.ext k4))
    cases id with
    | none => obtain rfl : c = .ret := hc'; exact Co.wpX_ret (hret pre s _ hsp h1 _ _ hfin)
    | some i => obtain rfl : c = .exit i := hc'; exact Co.wpX_exit (hexit i pre s _ hsp h1 _ _ hfin)
 -- a round
 rintro pre x W hj hlen
 subst hJr
 obtain ⟨⟨s,hs,hSs⟩,hl,hk⟩:=hj
 have hlt:=lt hl
 have hy:=run_yield (P:=P) (args := #[enc x]) hl (by rw [hrec]; rfl)
 rw [hrec] at hy
 refine ⟨fn,_,_,body,hy,Co.roundX_of ?_⟩
 refine Co.wpX_region (OkC.ops (R:=some (w₀.heap.size+1)) (k:=id) (d:=false) ⟨.inr (by simp [fB,lI]),by simp [cP,Co.plainK,Co.freeK]⟩) ?_
 have e1:List.range (#[(⟨some q, .assign (.tmp p),T,pos, #[],none⟩:Oper)]).size = [0]:=rfl
 rw [e1]
 intro W2 k2
 have hv':(a.tmps.setIfInBounds p (enc x)).getD p undef=enc x:=by
  have:=hS.sz
  simp [Array.getD_eq_getD_getElem?,show p<a.tmps.size by omega]
 have hstep : ∀ K:Act→World→Prop,K (Act.put { tmps:=a.tmps.setIfInBounds p (enc x),defers := [] } (some q) (enc x)) W2→Co.wpOpX P #[(⟨some q, .assign (.tmp p),T,pos, #[],none⟩:Oper)] 0 K { tmps:=a.tmps.setIfInBounds p (enc x),defers := [] } W2:=fun K hK=>by
  unfold Co.wpOpX
  simp only [List.getElem?_toArray,List.getElem?_cons_zero]
  rw [if_pos (cL Z)]
  refine ⟨fun h=>(by cases h),?_⟩
  have e2:(execOp (Act.eval { tmps:=a.tmps.setIfInBounds p (enc x),defers := [] }) ⟨some q, .assign (.tmp p),T,pos, #[],none⟩).run P W2 = .ok (.value (enc x)) W2:=by simp [execOp,Act.eval,hv']
  rw [e2]; exact hK
 have e3:(Array.foldl (fun tmps (x:Tmp × Value)=>tmps.setIfInBounds x.1 x.2) a.tmps (Array.zip #[p] #[enc x]))=a.tmps.setIfInBounds p (enc x):=by simp
 simp only [Co.wpOpsX]
 have e4 : ∀ K:Act→World→Prop,K (Act.put { tmps:=a.tmps.setIfInBounds p (enc x),defers := [] } (some q) (enc x)) W2→Co.wpOpX P #[(⟨some q, .assign (.tmp p),T,pos, #[],none⟩:Oper)] 0 K { tmps:=Array.foldl (fun tmps (x:Tmp × Value)=>tmps.setIfInBounds x.1 x.2) a.tmps (Array.zip #[p] #[enc x]),defers := [] } W2:=fun K hK=>by rw [e3]; exact hstep K hK
 refine e4 _ ?_
 show ∀ w₂,Co.Grow W2 w₂→_
 intro W3 k3
 replace k3:=k2.trans k3
 replace hl:=(k3.block _ hlt).trans hl
 replace hk:=(k3.block _ (lt hk)).trans hk
 replace hSs:=hSs.ext k3
 have hs13:=SameW.ofExt k3
 clear hlt k2 k3 hstep hy
 have hlt:=lt hl
 refine ⟨_,run_beginRound hl (by rw [hrec]),?_⟩
 have hl2:(W3.putObj (w₀.heap.size+1) (.loop { rec .ready none with state := .busy })).heap[w₀.heap.size+1]? = some (.loop { rec .ready none with state := .busy }):=World.putObj_heap_same hlt
 have hk2:(W3.putObj (w₀.heap.size+1) (.loop { rec .ready none with state := .busy })).heap[w₀.heap.size]? = some (.deferred (some [])):=(World.putObj_heap_other X).trans hk
 have hSp:=put s W3 (w₀.heap.size+1) _ (.loop { rec .ready none with state := .busy }) X hl Z hSs
 have hs14:=hs13.trans (SameW.put (W:=W3) (l:=w₀.heap.size+1) (o := .loop { rec .ready none with state := .busy }))
 generalize hW4:W3.putObj (w₀.heap.size+1) (.loop { rec .ready none with state := .busy })=W4 at hl2 hk2 hSp hs14 ⊢
 have hsz:=hSp.sz
 have hS1:St ⟨W4,E.O,aV (Ms s),E.N,some (w₀.heap.size+1)⟩ [] Γ (Ms s) { tmps:=a.tmps,defers := [] } W4:=by
  have hSp:=hE0▸hSp
  exact ⟨⟨hSp.base.mem,hSp.base.nd,hSp.base.dis,fun b hb => .inr hb,hSp.base.ex,Fr.refl _ _⟩,hSp.sz,rfl,hSp.tm⟩
 have hS2:=(hS1.put (Ext.refl W4) (d:=p) hp (ψ:=one (enc x)) (v:=enc x) Z).put (Ext.refl W4) (d:=q) hq (ψ:=one (enc x)) (v:=enc x) Z
 refine Co.wpX_mono (hround (w₀.heap.size+1) W4 pre x s hs hlen _ W4 hS2 ⟨.inr hnd,hpb⟩) ?_
 have keep : ∀ (s':σ) (a':Act) (W' W'':World) (j:Option Code),St ⟨W4,E.O,aV (Ms s),E.N,some (w₀.heap.size+1)⟩ [] [] (Ms s') a' W'→Ext W' W'' →
   (Instr.endRound (w₀.heap.size+1) j).run P W'' = .ok (.bool j.isNone) (W''.putObj (w₀.heap.size+1) (.loop (rec (if j.isNone then .ready else .done) j))) ∧
   St E0 [] Γ (Ms s') a (W''.putObj (w₀.heap.size+1) (.loop (rec (if j.isNone then .ready else .done) j)))∧SameW W (W''.putObj (w₀.heap.size+1) (.loop (rec (if j.isNone then .ready else .done) j))) ∧
   (W''.putObj (w₀.heap.size+1) (.loop (rec (if j.isNone then .ready else .done) j))).heap[w₀.heap.size+1]? = some (.loop (rec (if j.isNone then .ready else .done) j)) ∧
   (W''.putObj (w₀.heap.size+1) (.loop (rec (if j.isNone then .ready else .done) j))).heap[w₀.heap.size]? = some (.deferred (some [])):=by
  intro s' a' W' W'' j h' k'
  have nc : ∀ {k:Nat} {o:Obj},W4.heap[k]? = some o→o.isCells=false→W''.heap[k]? = some o:=fun {k o} hk ho=>by
   have h1:W'.heap[k]? = W4.heap[k]? := h'.base.fr.block k (lt hk) fun hm'=>by
    obtain ⟨c,T,f,e⟩:=(hc s).get hSp.base hm'
    rw [hk] at e;cases e;cases ho
   exact (k'.block k (lt (h1.trans hk))).trans (h1.trans hk)
  have hl3:=nc hl2 Z
  have hk3:=nc hk2 Z
  have h5:St E0 [] Γ (Ms s') a W':=by
   have:=(hE0▸hSp).slots h'
   rw [hE0]; exact this
  refine ⟨?_,put s' W'' _ _ _ X hl3 Z (h5.ext k'),?_,World.putObj_heap_same (lt hl3),(World.putObj_heap_other X).trans hk3⟩
  ·have:=run_endRound (P:=P) j hl3
   rw [hrec] at this ⊢
   exact this
  ·exact ((hs14.trans ⟨h'.base.fr.os,h'.base.fr.tape,h'.base.fr.output,h'.base.fr.size⟩).trans (SameW.ofExt k')).trans SameW.put
 rintro e a' W' hp'
 cases e with
 | normal =>
  obtain ⟨s',h1,h2⟩:=hp'
  intro W'' k'
  obtain ⟨q1,q2,q3,q4,q5⟩:=keep s' a' W' W'' none h2 k'
  exact ⟨_,_,q1, .inl ⟨rfl,⟨⟨s',h1,q2⟩,q4,q5⟩,q3⟩⟩
 | ret =>
  obtain ⟨s',h1,h2⟩:=hp'
  intro W'' k'
  obtain ⟨q1,q2,q3,q4,q5⟩:=keep s' a' W' W'' (some .ret) h2 k'
  subst hJx
  exact ⟨_,_,q1, .inr ⟨rfl,none,_,rfl,⟨s',h1,q2⟩,q4,q5⟩⟩
 | exit i =>
  obtain ⟨s',h1,h2⟩:=hp'
  intro W'' k'
  obtain ⟨q1,q2,q3,q4,q5⟩:=keep s' a' W' W'' (some (.exit i)) h2 k'
  subst hJx
  exact ⟨_,_,q1, .inr ⟨rfl,some i,_,rfl,⟨s',h1,q2⟩,q4,q5⟩⟩
 | _ => exact hp'.elim
/-! ### The end of a round -/
section
variable {α σ:Type} {Ms:σ→Mem} {ok:List α→σ→Prop} {okx:Option Nat→List α→σ→Prop} {pre:List α}
theorem pJ (s:σ) (h:ok pre s) (hm:SubM M (Ms s)):PJ E [] Γ M .normal (vy E Ms ok okx pre):=fun a w hS=>⟨s,h,hS.sub .nil hm⟩
theorem sB (s:σ) (h:okx none pre s) (hm:SubM M (Ms s)):PJ E [] Γ M .ret (vy E Ms ok okx pre):=fun a w hS=>⟨s,h,hS.sub .nil hm⟩
end
/-! ### The functions that range -/
abbrev iY (P:Program) (fn:Func) (R:Ending→World→Prop):Exit→Act→World→Prop:=Co.bodyXM P fn R
theorem lB {b:Nat} {fn:Func} {R:Ending→World→Prop} (h:PJ E [] Γ M .ret (cA P fn R)):PJ E [ol b] Γ (dfO b :: M) .ret (iY P fn R):=by
 intro a w hS
 refine .inr ⟨b, #[],hS.df,fun w₁ k₁ => ?_⟩
 replace hS:=hS.ext k₁
 have hh:w₁.heap[b]? = some (.deferred (some [])):=hS.base.mem (dfO b) (by simp)
 have hnd:=List.nodup_cons.1 (show (b :: aV M).Nodup from hS.base.nd)
 have hbO:b ∉ E.O:=hS.base.dis b (by simp [dfO])
 have hne : ∀ k,k≠b→(w₁.putObj b (.deferred none)).heap[k]? = w₁.heap[k]? := fun k hk=>World.putObj_heap_other hk
 have hle:Hp.le (hv E (dfO b :: M) w₁) (hv E M (w₁.putObj b (.deferred none))):=by
  intro x y e
  obtain ⟨h1,h2⟩:=cY e
  have hx:x≠b:=fun e=>h1 (List.mem_append.2 (.inr (by simp [dfO,e])))
  refine eA (fun h=>h1 ?_) (by rw [gm (hne x hx)]; exact h2)
  rcases List.mem_append.1 h with h | h
  ·exact List.mem_append.2 (.inl h)
  ·exact List.mem_append.2 (.inr (List.mem_cons_of_mem (a:=x) b h))
 have hS':St E [] Γ M { a with defers := [] } (w₁.putObj b (.deferred none)):=by
  refine ⟨⟨fun o ho=>o.loc (fun x hx => ?_) hle (hS.base.mem o (List.mem_cons_of_mem _ ho)),hnd.2,fun x hx=>hS.base.dis x (List.mem_cons_of_mem (a:=x) b hx),
   fun x hx=>hS.base.lo x (List.mem_cons_of_mem (a:=x) b hx),fun x hx => ?_,?_⟩,hS.sz,rfl,fun t φ ht=>φ.mono hle (hS.tm t φ ht)⟩
  ·exact (hne x fun e=>hnd.1 (e▸cF ho hx)).symm
  ·rw [World.putObj_size]
   refine hS.base.ex x ?_
   rcases List.mem_append.1 hx with h | h
   ·exact List.mem_append.2 (.inl h)
   ·exact List.mem_append.2 (.inr (List.mem_cons_of_mem (a:=x) b h))
  ·have hf:=hS.base.fr
   refine ⟨hf.os,hf.tape,hf.output,by simpa using hf.size,fun k hk hn=>(hne k fun e => ?_).trans (hf.block k hk hn)⟩
   subst e
   rcases hS.base.lo k (by simp [dfO]) with h1 | h1
   ·omega
   ·exact hn h1
 obtain ⟨_,hR⟩:=h _ _ hS'
 exact ⟨_,run_takeDeferred hh,hR⟩
theorem tV {fn:Func} {R:Ending→World→Prop} (h:PJ E [] Γ M .ret (cA P fn R)):PJ E [] Γ M .ret (iY P fn R):=fun a w hS => .inl ⟨(h a w hS).2,(h a w hS).1⟩
theorem zq {f:FuncId} {fn:Func} {c:Code} {N:Nat} {w:World} {O:List Nat} {φs:List VT} {vs:List Value} {R:Ending→World→Prop}
  (hf:P.funcs[f]? = some fn) (hb:fn.body=some c) (hN:fn.ntmps=N) (hO : ∀ b∈O,b<w.heap.size) (hv':eR φs vs (hid O (view w))) (hle:φs.length≤N)
  (h:J P ⟨w,O, [],N,none⟩ [] (fx 0 φs) [] c (iY P fn R)) (hpl:cP c=true:=by kernel_rfl):jh P f vs.toArray w R:=by
 have hl:=gC hv'
 refine Co.callsXM_of hf hb (h _ w ⟨⟨by simp,by simp,by simp,by simp,?_,Fr.refl _ _⟩,?_,rfl,?_⟩ ⟨.inl Z,hpl⟩)
 ·intro b hb';exact hO b (by simpa using hb')
 ·simp [hN]; omega
 ·intro t φ e
  obtain ⟨v,_,h2,h3⟩:=ey e hv'
  have h4:hv ⟨w,O, [],N,none⟩ [] w=hid O (view w):=by simp [hv]
  rw [h4]
  rw [Nat.sub_zero] at h2
  have hlt:=(List.getElem?_eq_some_iff.1 h2).1
  rw [Array.getD_eq_getD_getElem?,Array.getElem?_append_left (by simpa using hlt)]
  simpa [h2] using h3
theorem Ok.enterR {f:FuncId} {fn:Func} {c:Code} {N:Nat} {φs:List VT} {ψ:VT} (hf:P.funcs[f]? = some fn) (hb:fn.body=some c) (hN:fn.ntmps=N) (hle:Nat.ble φs.length N=true)
  (h : ∀ (w:World) (O:List Nat),J P ⟨w,O, [],N,none⟩ [] (fx 0 φs) [] c (iY P fn (Ret O ψ w))) (hpl:cP c=true:=by kernel_rfl):Ok P f φs ψ :=
 fun w O vs hO hv=>Tor.zq hf hb hN hO hv (Nat.le_of_ble_eq_true hle) (h w O) hpl
end
end Tor
end
section
namespace Tor
open Go Go.RowKit
variable [Tor.Co.Kc]
def yO (W:World):Own where
 bl:=List.range W.heap.size
 p g _ := ∀ b,b<W.heap.size→g b=W.heap[b]?
 loc:=fun he _ H b hb=>(he b (List.mem_range.2 hb)).symm.trans (H b hb)
def je (W:World) (N:Nat):Env:=⟨W, [],List.range W.heap.size,N,none⟩
def np (Γ:Ctx):Prop := ∀ t φ,bD Γ t=some φ → ∃ v, φ=one v
theorem np.nil:np []:=fun t φ h=>by cases h
theorem np.cons {t:Nat} {v:Value} {Γ:Ctx} (h:np Γ):np ((t,one v) :: Γ):=fun s φ e=>by
 rw [aY] at e
 split at e
 ·cases e;exact ⟨v,rfl⟩
 ·exact h s φ e
section
variable {P:Program} {E:Env} {D:List Deferred} {Γ:Ctx} {M:Mem} {Q:Exit→Act→World→Prop} {a:Act} {w W w1:World} {N:Nat}
theorem St.tY (hS:St E D Γ M a w) {Γk:Ctx} (hg:dG Γ Γk) (hf:np Γk) (W0 W':World) (hs:SameW W0 W'):St (je W0 E.N) D Γk [yO W'] a W':=by
 refine ⟨⟨fun o ho => ?_,by simpa [yO] using List.nodup_range,fun b _=>by simp [je],fun b _ => ?_,fun b hb => ?_,?_⟩,hS.sz,hS.df,fun t φ ht => ?_⟩
 ·rw [List.mem_singleton.1 ho]; exact fun b _=>rfl
 ·rcases Nat.lt_or_ge b W0.heap.size with h | h
  ·exact .inr (List.mem_range.2 h)
  ·exact .inl h
 ·simpa [je,yO] using hb
 ·exact ⟨hs.os,hs.tape,hs.output,hs.size,fun k hk hn=>absurd (List.mem_range.2 hk) hn⟩
 ·obtain ⟨φ',h1,h2⟩:=hg t φ ht
  obtain ⟨v,rfl⟩:=hf t φ ht
  have:=h2 _ _ (hS.tm t φ' h1)
  exact this
theorem St.extY (hS:St (je w1 N) D Γ [yO W] a w) (hs:SameW w1 W):Ext W w:=by
 have hf:=hS.base.fr
 have hm : ∀ b,b<W.heap.size→w.heap[b]? = W.heap[b]? := hS.base.mem (yO W) (by simp)
 refine ⟨hf.os.trans hs.os.symm,hf.tape.trans hs.tape.symm,hf.output.trans hs.output.symm,?_,fun k hk=>hm k hk⟩
 rcases Nat.eq_zero_or_pos W.heap.size with h | h
 ·omega
 ·have:=hS.base.ex (W.heap.size - 1) (by simp [je,yO]; omega)
  omega
theorem pK {β:Type} {J:β→World→Prop} (hJ:iG J) {s:β} (h:J s W) (k:Ext W w):J s w:=hJ s W w h k
variable {ops:Array Oper}
section
variable {α:Type} {l:Nat} {enc:α→Value} {J Jx:List α→World→Prop} {Nr:Nat} {S Sp:List α→Prop}
theorem vz {P:Program} (l:Nat) (args:Array Value):Co.Plain P (Instr.yield l args):=by
 unfold Instr.yield
 refine (Co.pl_getLoop l).bind fun r => ?_
 split
 ·exact (Co.pl_stk _).bind fun _=>Co.pl_ret _
 ·exact Co.pl_ret _
theorem vA {id m d:Nat} {t x:Operand} {ats:Array TypeId} {ty:TypeId} {pos:String} {af:Array Edge} {pre:List α} (v:α) (Γk:Ctx) (hY:om P l enc J Jx Nr) (hA:iG J) (hs:SameW w1 W) (hJ:J pre W) (hlen:pre.length<Nr)
  (hm:ops[m]? = some ⟨some d, .call ⟨.value t, #[x],ats⟩,ty,pos,af,none⟩) (hd:Nat.ble (d+1) N=true) (hf:np Γk)
  (h:Run P (je w1 N) ops false 0 [] Γ [yO W] (ops.toList.take m) (fun D' Γ' M'=>D' = []∧M' = [yO W]∧aA Γ' t=some (one (.func (.yield l) #[] #[]))∧aA Γ' x=some (one (enc v))∧dG Γ' Γk))
  (h1 : ∀ W',J (pre ++ [v]) W'→SameW w1 W'→Run P (je w1 N) ops false (m+1) [] ((d,one (.bool true)) :: Γk) [yO W'] (ops.toList.drop (m+1)) (fun D' Γ' M'=>PJ (je w1 N) D' Γ' M' .normal Q))
  (h2 : ∀ W',Jx (pre ++ [v]) W'→Run P (je W' N) ops false (m+1) [] ((d,one (.bool false)) :: Γk) [yO W'] (ops.toList.drop (m+1)) (fun D' Γ' M'=>PJ (je W' N) D' Γ' M' .normal Q)) :
  Tor.J P (je w1 N) [] Γ [yO W] (.region id ops false) Q:=by
 intro a w hS hok
 have hlt:m<ops.size:=(Array.getElem?_eq_some_iff.1 hm).1
 have hd:=Nat.le_of_ble_eq_true hd
 refine Co.wpX_region hok.ops ?_
 have e:List.range ops.size=List.range' 0 (ops.toList.take m).length ++ (m :: List.range' (m+1) (ops.size - (m+1))):=by
  rw [List.range_eq_range',show (ops.toList.take m).length=m by simp;omega, ← List.range'_succ,show ops.size - (m+1)+1=ops.size - m by omega]
  have := @List.range'_append 0 m (ops.size - m) 1
  simp only [Nat.one_mul,Nat.zero_add] at this
  rw [this]; congr 1;omega
 rw [e]
 refine h.seq (Q .normal) _ (fun j hj => ?_) (fun D' Γ' M' a w hK hS => ?_) a w hS
 ·have hj':j<m:=by simp at hj;omega
  simp [List.getElem?_take,hj']
 ·obtain ⟨rfl,rfl,ht,hx,hg⟩:=hK
  intro w' k'
  replace hS:=hS.ext k'
  have e1:=cm hS ht
  have e2:=cm hS hx
  have e1:a.eval t = .func (.yield l) #[] #[]:=e1
  have e2:a.eval x=enc v:=e2
  obtain ⟨fn,tmps,assign,body,hy,hR⟩:=hY pre v w' (pK hA hJ (hS.extY hs)) hlen
  have tail : ∀ (E':Env) (b:Bool) (a':Act) (W':World),St E' [] ((d,one (.bool b)) :: Γk) [yO W'] a' W' →
    Run P E' ops false (m+1) [] ((d,one (.bool b)) :: Γk) [yO W'] (ops.toList.drop (m+1)) (fun D' Γ' M'=>PJ E' D' Γ' M' .normal Q) →
    Co.wpOpsX P ops (Q .normal) (List.range' (m+1) (ops.size - (m+1))) a' W':=by
   intro E' b a' W' hS' hr
   have:=hr.seq (Q .normal) [] (fun j _=>by simp [List.getElem?_drop]) (fun D' Γ' M' a w hK hS=>hK a w hS) a' W' hS'
   simpa using this
  unfold Co.wpOpX
  simp only [hm]
  rw [if_pos (cL Z)]
  refine ⟨fun _ => ?_,?_⟩
  ·show Co.Plain P (Sem.bind (Deferred.ofValue (a.eval t) _) _)
   rw [e1]; exact vz _ _
  have hr:(execOp a.eval ⟨some d, .call ⟨.value t, #[x],ats⟩,ty,pos,af,none⟩).run P w' = .ok (.round l fn tmps assign body) w':=by
   simpa [execOp,resolve,Deferred.ofValue,invoke,e1,e2] using hy
  rw [hr]
  refine fun c m cs Stop hc=>hR c m cs Stop fun v' W' hq=>hc v' W' ?_
  rcases hq with ⟨he,hJ',hk⟩ | ⟨he,hJx'⟩
  ·cases he
   have hw:SameW w1 W':=⟨hk.os.trans hS.base.fr.os,hk.tape.trans hS.base.fr.tape,hk.output.trans hS.base.fr.output,Nat.le_trans hS.base.fr.size hk.size⟩
   exact tail (je w1 N) true _ W' ((hS.tY hg hf w1 W' hw).put (Ext.refl _) (d:=d) (show d<N from hd) (ψ:=one (.bool true)) Z) (h1 W' hJ' hw)
  ·cases he
   exact tail (je W' N) false _ W' ((hS.tY hg hf W' W' (SameW.refl _)).put (Ext.refl _) (d:=d) (show d<N from hd) (ψ:=one (.bool false)) Z) (h2 W' hJx')
theorem pL {fn:Func} (hr:fn.results = #[]) (hA:iG J) {xs:List α} (hJ:J xs W) (hS:S xs) (hs:SameW w1 W):PJ (je w1 N) [] Γ [yO W] .normal (cA P fn (RY S Sp J Jx)):=by
 intro a w hSt
 exact ⟨hSt.df,fun w₁ k₁=>⟨.tuple #[],by simp [results,hr],⟨_,rfl⟩, .inl ⟨xs,hS,pK hA hJ ((hSt.extY hs).trans k₁)⟩⟩⟩
theorem pM {fn:Func} (hr:fn.results = #[]) (hA:iG Jx) {pre:List α} (hJ:Jx pre W) (hS:Sp pre) (hs:SameW w1 W):PJ (je w1 N) [] Γ [yO W] .ret (cA P fn (RY S Sp J Jx)):=by
 intro a w hSt
 exact ⟨hSt.df,fun w₁ k₁=>⟨.tuple #[],by simp [results,hr],⟨_,rfl⟩, .inr ⟨pre,hS,pK hA hJ ((hSt.extY hs).trans k₁)⟩⟩⟩
theorem yY {c:Code} (Γk:Ctx) {w0:World} (hg:dG Γ Γk) (hf:np Γk) (h : ∀ w,Ext w0 w→Tor.J P (je w N) [] Γk [yO w] c Q):Tor.J P ⟨w0, [], [],N,none⟩ [] Γ M c Q :=
 fun a w hS=>h w hS.base.fr.toExt a w (hS.tY hg hf w w (SameW.refl _))
theorem OkY.enter {f:FuncId} {fn:Func} {c:Code} {N:Nat} {cs:List VT} (hf:P.funcs[f]? = some fn) (hb:fn.body=some c) (hN:fn.ntmps=N) (hle:Nat.ble (cs.length+1) N=true)
  (h : ∀ (w0:World) (l:Nat) (J Jx:List α→World→Prop) (B:Nat),iG J→iG Jx→om P l enc J Jx Nr→J [] w0 →
   Tor.J P ⟨w0, [], [],N,none⟩ [] ((0,one (.func (.yield l) #[] #[])) :: fx 1 cs) [] c (cA P fn (RY S Sp J Jx))) (hpl:cP c=true:=by kernel_rfl):OkY P f cs enc S Sp Nr:=by
 intro w O ca hO hca l J Jx hA hAx hY h0
 have hv':eR (one (.func (.yield l) #[] #[]) :: cs) (.func (.yield l) #[] #[] :: ca) (hid [] (view w)):=by
  refine ⟨rfl,ep (fun b x e => ?_) hca⟩
  obtain ⟨h1,h2⟩:=cY e
  exact eA (by simp) h2
 exact Tor.enter (R:=RY S Sp J Jx) hf hb hN (O := []) (by simp) hv' (Nat.le_of_ble_eq_true hle) (h w l J Jx 0 hA hAx hY h0) hpl
end
end
end Tor
end
section
set_option maxRecDepth 100000
namespace Tor
open Go Go.Proofs
variable [Tor.Co.Kc]
instance:LayOf Tryz.prog 2 (.one):=⟨by kernel_rfl,by kernel_rfl⟩
instance:LayOf Tryz.prog 3 (.one):=⟨by kernel_rfl,by kernel_rfl⟩
instance:LayOf Tryz.prog 4 (.one):=⟨by kernel_rfl,by kernel_rfl⟩
instance:LayOf Tryz.prog 5 (.one):=⟨by kernel_rfl,by kernel_rfl⟩
instance:LayOf Tryz.prog 22 (.one):=⟨by kernel_rfl,by kernel_rfl⟩
instance:LayOf Tryz.prog 24 (.agg 3):=⟨by kernel_rfl,by kernel_rfl⟩
instance:LayOf Tryz.prog 26 (.one):=⟨by kernel_rfl,by kernel_rfl⟩
instance:LayOf Tryz.prog 28 (.agg 2):=⟨by kernel_rfl,by kernel_rfl⟩
instance:LayOf Tryz.prog 33 (.one):=⟨by kernel_rfl,by kernel_rfl⟩
instance:LayOf Tryz.prog 35 (.agg 3):=⟨by kernel_rfl,by kernel_rfl⟩
instance:LayOf Tryz.prog 39 (.one):=⟨by kernel_rfl,by kernel_rfl⟩
instance:LayOf Tryz.prog 46 (.one):=⟨by kernel_rfl,by kernel_rfl⟩
instance:LayOf Tryz.prog 47 (.one):=⟨by kernel_rfl,by kernel_rfl⟩
instance:LayOf Tryz.prog 50 (.agg 2):=⟨by kernel_rfl,by kernel_rfl⟩
instance:LayOf Tryz.prog 58 (.one):=⟨by kernel_rfl,by kernel_rfl⟩
instance:LayOf Tryz.prog 65 (.one):=⟨by kernel_rfl,by kernel_rfl⟩
instance:LayOf Tryz.prog 83 (.one):=⟨by kernel_rfl,by kernel_rfl⟩
instance:LayOf Tryz.prog 93 (.one):=⟨by kernel_rfl,by kernel_rfl⟩
instance:LayOf Tryz.prog 95 (.agg 3):=⟨by kernel_rfl,by kernel_rfl⟩
instance:IntOf Tryz.prog 2 .i64:=⟨by kernel_rfl⟩
instance:IntOf Tryz.prog 3 .i64:=⟨by kernel_rfl⟩
instance:BoolOf Tryz.prog 4:=⟨by kernel_rfl⟩
instance:IntOf Tryz.prog 5 .u8:=⟨by kernel_rfl⟩
instance:SliceOf Tryz.prog 22 65:=⟨by kernel_rfl⟩
instance:FieldOf Tryz.prog 24 0 0 (.one):=FieldOf.by_info (ft:=5) inferInstance Y U
instance:FieldOf Tryz.prog 24 2 2 (.one):=FieldOf.by_info (ft:=22) inferInstance Y U
instance:SliceOf Tryz.prog 26 83:=⟨by kernel_rfl⟩
instance:FieldOf Tryz.prog 28 0 0 (.one):=FieldOf.by_info (ft:=4) inferInstance Y U
instance:FieldOf Tryz.prog 28 1 1 (.one):=FieldOf.by_info (ft:=26) inferInstance Y U
instance:SliceOf Tryz.prog 33 39:=⟨by kernel_rfl⟩
instance:FieldOf Tryz.prog 35 0 0 (.one):=FieldOf.by_info (ft:=3) inferInstance Y U
instance:FieldOf Tryz.prog 35 1 1 (.one):=FieldOf.by_info (ft:=3) inferInstance Y U
instance:FieldOf Tryz.prog 35 2 2 (.one):=FieldOf.by_info (ft:=33) inferInstance Y U
instance:SliceOf Tryz.prog 39 28:=⟨by kernel_rfl⟩
instance:SliceOf Tryz.prog 46 50:=⟨by kernel_rfl⟩
instance:IntOf Tryz.prog 47 .u64:=⟨by kernel_rfl⟩
instance:FieldOf Tryz.prog 50 0 0 (.one):=FieldOf.by_info (ft:=47) inferInstance Y U
instance:FieldOf Tryz.prog 50 1 1 (.one):=FieldOf.by_info (ft:=47) inferInstance Y U
instance:SliceOf Tryz.prog 58 47:=⟨by kernel_rfl⟩
instance:IntOf Tryz.prog 65 .i8:=⟨by kernel_rfl⟩
instance:SliceOf Tryz.prog 68 28:=⟨by kernel_rfl⟩
instance:SliceOf Tryz.prog 81 2:=⟨by kernel_rfl⟩
instance:IntOf Tryz.prog 83 .u32:=⟨by kernel_rfl⟩
instance:IntOf Tryz.prog 84 .u64:=⟨by kernel_rfl⟩
instance:SliceOf Tryz.prog 93 58:=⟨by kernel_rfl⟩
instance:FieldOf Tryz.prog 95 0 0 (.one):=FieldOf.by_info (ft:=47) inferInstance Y U
instance:FieldOf Tryz.prog 95 1 1 (.one):=FieldOf.by_info (ft:=3) inferInstance Y U
instance:FieldOf Tryz.prog 95 2 2 (.one):=FieldOf.by_info (ft:=93) inferInstance Y U
instance:ArrayOf Tryz.prog 114 4 47:=⟨by kernel_rfl⟩
instance:SliceOf Tryz.prog 128 50:=⟨by kernel_rfl⟩
instance:ZeroOf Tryz.prog 2 (.int .i64 0) 8:=⟨by kernel_rfl⟩
instance:ZeroOf Tryz.prog 3 (.int .i64 0) 8:=⟨by kernel_rfl⟩
instance:ZeroOf Tryz.prog 4 (.bool false) 1:=⟨by kernel_rfl⟩
instance zf27:Flat (one (.agg #[.bool false, .slice none 0 0])) (.agg 2):=jM U Y
instance:ZeroOf Tryz.prog 28 (.agg #[.bool false, .slice none 0 0]) 32:=⟨by kernel_rfl⟩
instance zf34:Flat (one (.agg #[.int .i64 0, .int .i64 0, .slice none 0 0])) (.agg 3):=jM U Y
instance:ZeroOf Tryz.prog 35 (.agg #[.int .i64 0, .int .i64 0, .slice none 0 0]) 40:=⟨by kernel_rfl⟩
instance:ZeroOf Tryz.prog 39 (.slice none 0 0) 24:=⟨by kernel_rfl⟩
instance:ZeroOf Tryz.prog 46 (.slice none 0 0) 24:=⟨by kernel_rfl⟩
instance:ZeroOf Tryz.prog 47 (.int .u64 0) 8:=⟨by kernel_rfl⟩
instance zf49:Flat (one (.agg #[.int .u64 0, .int .u64 0])) (.agg 2):=jM U Y
instance:ZeroOf Tryz.prog 50 (.agg #[.int .u64 0, .int .u64 0]) 16:=⟨by kernel_rfl⟩
instance:ZeroOf Tryz.prog 58 (.slice none 0 0) 24:=⟨by kernel_rfl⟩
instance:ZeroOf Tryz.prog 83 (.int .u32 0) 4:=⟨by kernel_rfl⟩
instance zf94:Flat (one (.agg #[.int .u64 0, .int .i64 0, .slice none 0 0])) (.agg 3):=jM U Y
instance:ZeroOf Tryz.prog 95 (.agg #[.int .u64 0, .int .i64 0, .slice none 0 0]) 40:=⟨by kernel_rfl⟩
instance:ZeroOf Tryz.prog 114 (.agg #[.int .u64 0, .int .u64 0, .int .u64 0, .int .u64 0]) 32:=⟨by kernel_rfl⟩
instance:BuildOf Tryz.prog 28 2 #[.bool false, .slice none 0 0] [(0, .one),(1, .one)]:=BuildOf.by_struct (by':=32) inferInstance Z Y Y
instance:BuildOf Tryz.prog 35 3 #[.int .i64 0, .int .i64 0, .slice none 0 0] [(0, .one),(1, .one),(2, .one)]:=BuildOf.by_struct (by':=40) inferInstance Z Y Y
instance:BuildOf Tryz.prog 50 2 #[.int .u64 0, .int .u64 0] [(0, .one),(1, .one)]:=BuildOf.by_struct (by':=16) inferInstance Z Y Y
instance:BuildOf Tryz.prog 95 3 #[.int .u64 0, .int .i64 0, .slice none 0 0] [(0, .one),(1, .one),(2, .one)]:=BuildOf.by_struct (by':=40) inferInstance Z Y Y
instance:BuildOf Tryz.prog 114 4 #[.int .u64 0, .int .u64 0, .int .u64 0, .int .u64 0] [(0, .one),(1, .one),(2, .one),(3, .one)]:=BuildOf.by_array (by':=32) (n:=4) (e:=47) (L := .one) inferInstance inferInstance inferInstance Z Y Z U
instance:Fn Tryz.prog 10:=Fn.of Tryz.func10 V Z
instance:Fn Tryz.prog 12:=Fn.of Tryz.func12 V Z
instance:Fn Tryz.prog 13:=Fn.of Tryz.func13 V Z
instance:Fn Tryz.prog 14:=Fn.of Tryz.func14 V Z
instance:Fn Tryz.prog 16:=Fn.of Tryz.func16 V Z
instance:Fn Tryz.prog 17:=Fn.of Tryz.func17 V Z
instance:Fn Tryz.prog 18:=Fn.of Tryz.func18 V Z
instance:Fn Tryz.prog 21:=Fn.of Tryz.func21 V Z
instance:Fn Tryz.prog 25:=Fn.of Tryz.func25 V Z
instance:Fn Tryz.prog 33:=Fn.of Tryz.func33 V Z
instance:Fn Tryz.prog 34:=Fn.of Tryz.func34 V Z
instance:Fn Tryz.prog 35:=Fn.of Tryz.func35 V Z
instance:Fn Tryz.prog 36:=Fn.of Tryz.func36 V Z
instance:Fn Tryz.prog 39:=Fn.of Tryz.func39 V Z
instance:Fn Tryz.prog 40:=Fn.of Tryz.func40 V Z
instance:Fn Tryz.prog 41:=Fn.of Tryz.func41 V Z
instance:Fn Tryz.prog 42:=Fn.of Tryz.func42 V Z
instance:Fn Tryz.prog 44:=Fn.of Tryz.func44 V Z
instance:Fn Tryz.prog 46:=Fn.of Tryz.func46 V Z
instance:Fn Tryz.prog 49:=Fn.of Tryz.func49 V Z
instance:Fn Tryz.prog 50:=Fn.of Tryz.func50 V Z
instance:Fn Tryz.prog 51:=Fn.of Tryz.func51 V Z
instance:Fn Tryz.prog 57:=Fn.of Tryz.func57 V Z
instance:Fn Tryz.prog 58:=Fn.of Tryz.func58 V Z
instance:Fn Tryz.prog 59:=Fn.of Tryz.func59 V Z
instance:Fn Tryz.prog 63:=Fn.of Tryz.func63 V Z
instance:Fn Tryz.prog 69:=Fn.of Tryz.func69 V Z
instance:Fn Tryz.prog 70:=Fn.of Tryz.func70 V Z
instance:Fn Tryz.prog 71:=Fn.of Tryz.func71 V Z
instance:Fn Tryz.prog 72:=Fn.of Tryz.func72 V Z
instance:Fn Tryz.prog 73:=Fn.of Tryz.func73 V Z
instance:Fn Tryz.prog 74:=Fn.of Tryz.func74 V Z
instance:Fn Tryz.prog 75:=Fn.of Tryz.func75 V Z
instance:Fn Tryz.prog 76:=Fn.of Tryz.func76 V Z
instance:Fn Tryz.prog 77:=Fn.of Tryz.func77 V Z
instance:Fn Tryz.prog 80:=Fn.of Tryz.func80 V Z
instance:Fn Tryz.prog 81:=Fn.of Tryz.func81 V Z
instance:Fn Tryz.prog 82:=Fn.of Tryz.func82 V Z
instance:Fn Tryz.prog 83:=Fn.of Tryz.func83 V Z
instance:Fn Tryz.prog 84:=Fn.of Tryz.func84 V Z
instance:Fn Tryz.prog 85:=Fn.of Tryz.func85 V Z
instance:Fn Tryz.prog 86:=Fn.of Tryz.func86 V Z
instance:Fn Tryz.prog 87:=Fn.of Tryz.func87 V Z
instance:Fn Tryz.prog 88:=Fn.of Tryz.func88 V Z
instance:Fn Tryz.prog 89:=Fn.of Tryz.func89 V Z
instance:Fn Tryz.prog 90:=Fn.of Tryz.func90 V Z
instance:Fn Tryz.prog 91:=Fn.of Tryz.func91 V Z
instance:Fn Tryz.prog 92:=Fn.of Tryz.func92 V Z
instance:Fn Tryz.prog 113:=Fn.of Tryz.func113 V Z
instance:Fn Tryz.prog 114:=Fn.of Tryz.func114 V Z
instance:Fn Tryz.prog 115:=Fn.of Tryz.func115 V Z
instance:Fn Tryz.prog 116:=Fn.of Tryz.func116 V Z
instance:Fn Tryz.prog 120:=Fn.of Tryz.func120 V Z
instance:Fn Tryz.prog 121:=Fn.of Tryz.func121 V Z
instance:Fn Tryz.prog 122:=Fn.of Tryz.func122 V Z
instance:Fn Tryz.prog 123:=Fn.of Tryz.func123 V Z
instance:Fn Tryz.prog 124:=Fn.of Tryz.func124 V Z
instance:Fn Tryz.prog 125:=Fn.of Tryz.func125 V Z
instance:Fn Tryz.prog 126:=Fn.of Tryz.func126 V Z
instance:Fn Tryz.prog 127:=Fn.of Tryz.func127 V Z
instance:Fn Tryz.prog 128:=Fn.of Tryz.func128 V Z
instance:Fn Tryz.prog 129:=Fn.of Tryz.func129 V Z
instance:Fn Tryz.prog 130:=Fn.of Tryz.func130 V Z
instance:Fn Tryz.prog 131:=Fn.of Tryz.func131 V Z
instance:Fn Tryz.prog 132:=Fn.of Tryz.func132 V Z
instance:Fn Tryz.prog 133:=Fn.of Tryz.func133 V Z
instance:Fn Tryz.prog 134:=Fn.of Tryz.func134 V Z
instance:Fn Tryz.prog 135:=Fn.of Tryz.func135 V Z
instance:Fn Tryz.prog 142:=Fn.of Tryz.func142 V Z
instance:Fn Tryz.prog 143:=Fn.of Tryz.func143 V Z
instance:Fn Tryz.prog 144:=Fn.of Tryz.func144 V Z
instance:Fn Tryz.prog 145:=Fn.of Tryz.func145 V Z
instance:Fn Tryz.prog 146:=Fn.of Tryz.func146 V Z
instance:Fn Tryz.prog 147:=Fn.of Tryz.func147 V Z
instance:Fn Tryz.prog 148:=Fn.of Tryz.func148 V Z
instance:Fn Tryz.prog 149:=Fn.of Tryz.func149 V Z
instance:Fn Tryz.prog 150:=Fn.of Tryz.func150 V Z
instance:Fn Tryz.prog 151:=Fn.of Tryz.func151 V Z
instance:Fn Tryz.prog 152:=Fn.of Tryz.func152 V Z
instance:Fn Tryz.prog 153:=Fn.of Tryz.func153 V Z
instance:Fn Tryz.prog 154:=Fn.of Tryz.func154 V Z
instance:Fn Tryz.prog 155:=Fn.of Tryz.func155 V Z
instance:Fn Tryz.prog 156:=Fn.of Tryz.func156 V Z
instance:Fn Tryz.prog 164:=Fn.of Tryz.func164 V Z
instance:Fn Tryz.prog 165:=Fn.of Tryz.func165 V Z
instance:Fn Tryz.prog 166:=Fn.of Tryz.func166 V Z
instance:Fn Tryz.prog 167:=Fn.of Tryz.func167 V Z
instance:Fn Tryz.prog 168:=Fn.of Tryz.func168 V Z
instance:Fn Tryz.prog 169:=Fn.of Tryz.func169 V Z
instance:Fn Tryz.prog 170:=Fn.of Tryz.func170 V Z
instance:Fn Tryz.prog 171:=Fn.of Tryz.func171 V Z
instance:Fn Tryz.prog 172:=Fn.of Tryz.func172 V Z
theorem bL:Tryz.prog.follows .mixedOrders=true:=by kernel_rfl
end Tor
end
section
namespace Tor
variable [Tor.Co.Kc]
def lv:List Nat→Nat
 | [] => 0
 | d :: l => d + 4294967296 * lv l
def bp (l:List Nat):Prop := ∀ d∈l,d<4294967296
def fK:List Nat→Prop
 | [] => True
 | [d] => d ≠ 0
 | _ :: d :: l => fK (d :: l)
def ld:Nat→Nat→List Nat
 | 0, _ => []
 | f + 1, n => if n = 0 then [] else n % 4294967296 :: ld f (n / 4294967296)
def aS (n:Nat):List Nat:=ld n n
theorem pN : ∀ (f n:Nat),n≤f → ∀ g,n≤g→ld f n=ld g n
 | 0, n, h, g, hg => by
  have:n=0:=by omega
  subst this;cases g <;> simp [ld]
 | f + 1, n, h, 0, hg => by
  have:n=0:=by omega
  subst this;simp [ld]
 | f + 1, n, h, g + 1, hg => by
  simp only [ld]
  split
  ·rfl
  ·rw [pN f (n / 4294967296) X g X]
theorem gI:aS 0 = []:=rfl
theorem fZ {n:Nat} (h:n≠0):aS n=n % 4294967296 :: aS (n / 4294967296):=by
 unfold aS
 obtain ⟨m,rfl⟩ : ∃ m,n=m+1:=⟨n - 1,by omega⟩
 rw [ld,if_neg h,pN m _ X ((m+1) / 4294967296) (Nat.le_refl _)]
theorem bW (n:Nat):lv (aS n)=n:=by
 induction n using Nat.strongRecOn with
 | _ n ih =>
  by_cases h:n=0
  ·subst h;rfl
  ·rw [fZ h,lv,ih _ X]; omega
theorem bg (n:Nat):bp (aS n):=by
 induction n using Nat.strongRecOn with
 | _ n ih =>
  by_cases h:n=0
  ·subst h;intro d hd;cases hd
  ·rw [fZ h]; intro d hd
   rcases List.mem_cons.1 hd with rfl | hd
   ·omega
   ·exact ih _ X d hd
theorem bp.tail {d:Nat} {l:List Nat} (h:bp (d :: l)):bp l:=fun x hx=>h x (List.mem_cons_of_mem _ hx)
theorem bp.head {d:Nat} {l:List Nat} (h:bp (d :: l)):d<4294967296:=h d List.mem_cons_self
theorem vB : ∀ {l:List Nat},l ≠ []→fK l→0<lv l
 | [], h, _ => absurd Z h
 | [d], _, h => by have h : d ≠ 0 := h; simp only [lv]; omega
 | d :: e :: l, _, h => by have := vB (l := e :: l) (by simp) h; simp only [lv] at *; omega
theorem fK.tail {d:Nat} : ∀ {l:List Nat},fK (d :: l)→fK l
 | [], _ => trivial
 | _ :: _, h => h
theorem sC : ∀ {l:List Nat},bp l→fK l→aS (lv l)=l
 | [], _, _ => rfl
 | d :: l, hl, ht => by
  have h0:lv (d :: l)≠0:=by have:=vB (l:=d :: l) (by simp) ht;omega
  have hd:=hl.head
  rw [fZ h0]
  simp only [lv]
  rw [show (d+4294967296*lv l) % 4294967296=d by omega,show (d+4294967296*lv l) / 4294967296=lv l by omega,sC hl.tail ht.tail]
theorem jY (n:Nat):fK (aS n):=by
 induction n using Nat.strongRecOn with
 | _ n ih =>
  by_cases h:n=0
  ·subst h;trivial
  ·rw [fZ h]
   have:=ih (n / 4294967296) X
   by_cases h2:n / 4294967296=0
   ·rw [h2,gI]; show n % 4294967296≠0;omega
   ·rw [fZ h2] at this ⊢; exact this
theorem gJ (l m:List Nat):lv (l ++ m)=lv l+4294967296^l.length*lv m:=by
 induction l with
 | nil => simp [lv]
 | cons d l ih =>
  simp only [List.cons_append,lv,ih,List.length_cons,Nat.pow_succ,Nat.mul_add]
  have:4294967296*(4294967296^l.length*lv m)=4294967296^l.length*4294967296*lv m:=by
   rw [← Nat.mul_assoc,Nat.mul_comm 4294967296]
  omega
theorem gK : ∀ {l:List Nat},bp l→lv l<4294967296^l.length
 | [], _ => by simp [lv]
 | d :: l, h => by
  have:=gK h.tail
  have hd:=h.head
  simp only [lv,List.length_cons,Nat.pow_succ]
  have h2:lv l+1≤4294967296^l.length:=this
  have:=Nat.mul_le_mul_right 4294967296 h2
  omega
theorem mb {l:List Nat} {k:Nat} (h:k<l.length):l.take (k+1)=l.take k ++ [l.getD k 0]:=by
 rw [List.take_add_one]; simp [List.getD,h]
theorem bA {l:List Nat} {k:Nat} (h:k<l.length):lv (l.take (k+1))=lv (l.take k)+4294967296^k*l.getD k 0:=by
 rw [mb h,gJ,List.length_take_of_le X]; simp [lv]
theorem a9 {l:List Nat} (h:bp l) (k:Nat):l.getD k 0<4294967296:=by
 by_cases hk:k<l.length
 ·have:l.getD k 0=l[k]:=by simp [List.getD,hk]
  rw [this]; exact h _ (List.getElem_mem hk)
 ·have:l.getD k 0=0:=by simp [List.getD,List.getElem?_eq_none (Nat.le_of_not_lt hk)]
  omega
theorem kI (l:List Nat) (x q:Nat):(l ++ [x]).getD q 0=if q=l.length then x else l.getD q 0:=by
 simp only [List.getD,List.getElem?_append]
 by_cases h:q<l.length
 ·rw [if_pos h,if_neg X]
 ·rw [if_neg h]
  by_cases h2:q=l.length
  ·subst h2;simp
  ·rw [if_neg h2,List.getElem?_eq_none (by simp;omega),List.getElem?_eq_none X]
theorem bp.take {l:List Nat} (h:bp l) (k:Nat):bp (l.take k):=fun d hd=>h d (List.mem_of_mem_take hd)
def f6 (l:List Nat):Nat→Nat
 | 0 => 0
 | n + 1 => if l.getD n 0 = 0 then f6 l n else n + 1
theorem oo {l:List Nat} : ∀ {n:Nat},n<l.length→l.getD n 0≠0→fK (l.take (n+1)):=by
  induction l with
  | nil => intro n h; simp at h
  | cons d l ih =>
    intro n h h0
    cases n with
    | zero => simp at h0 ⊢; exact h0
    | succ n =>
      have:=ih (n:=n) (by simpa using h) (by simpa using h0)
      rw [List.take_succ_cons]
      cases hl:l.take (n+1) with
      | nil => rw [List.take_eq_nil_iff] at hl; rcases hl with hl | hl
               · omega
               · subst hl;simp at h
      | cons e r => rw [hl] at this; exact this
theorem nq {l:List Nat} (hl:bp l) : ∀ {n:Nat},n≤l.length→lv l=lv (l.take n)→l.take (f6 l n)=aS (lv l)
 | 0, _, h => by rw [f6, h]; simp [lv, gI]
 | n + 1, hn, h => by
  rw [f6]
  split
  ·rename_i h0
   refine nq hl X ?_
   rw [h,bA X,h0]; simp
  ·rename_i h0
   rw [h]
   exact (sC (hl.take _) (oo X h0)).symm
theorem mc {l:List Nat} (hl:bp l):l.take (f6 l l.length)=aS (lv l):=nq hl (Nat.le_refl _) (by rw [List.take_length])
theorem db : ∀ {k n:Nat},n<4294967296^k→(aS n).length≤k
  | 0, n, h => by have : n = 0 := by simpa using h
                  subst this;simp [gI]
  | k + 1, n, h => by
    by_cases h0:n=0
    · subst h0;simp [gI]
    · rw [fZ h0,List.length_cons]
      have:n / 4294967296<4294967296^k:=by
        rw [Nat.pow_succ] at h
        exact Nat.div_lt_of_lt_mul (by rw [Nat.mul_comm]; exact h)
      have:=db this
      omega
theorem dS (n:Nat):n<4294967296^(aS n).length:=by
 have:=gK (bg n);rwa [bW] at this
theorem pO {a b:Nat} (h:aS a=aS b):a=b:=by rw [← bW a, ← bW b,h]
theorem fo (l:List Nat) (k:Nat) (hk:k≤l.length):lv l=lv (l.take k)+4294967296^k*lv (l.drop k):=by
 have h:=gJ (l.take k) (l.drop k)
 rwa [List.take_append_drop,List.length_take_of_le hk] at h
theorem e8 {l:List Nat} {k:Nat} (h:k<l.length):l.drop k=l.getD k 0 :: l.drop (k+1):=by
 rw [List.drop_eq_getElem_cons h]; simp [List.getD,h]
theorem oq {l m:List Nat} (hl:bp l) (hm:bp m) (hn:l.length=m.length) {i:Nat} (hi:i<l.length) (hd:l.drop (i+1)=m.drop (i+1)) (hlt:l.getD i 0<m.getD i 0):lv l<lv m:=by
 have e1:=e8 hi
 have e2:=e8 (hn▸hi:i<m.length)
 rw [fo l i X,fo m i X,e1,e2,hd]
 simp only [lv]
 have h1:=gK (hl.take i)
 rw [List.length_take_of_le X] at h1
 generalize 4294967296^i=B at *
 generalize lv (m.drop (i+1))=t
 have h2:B*(l.getD i 0+4294967296*t)+B≤B*(m.getD i 0+4294967296*t):=by
  rw [← Nat.mul_succ]; exact Nat.mul_le_mul_left B X
 omega
theorem gy {a b:Nat} (h:(aS a).length<(aS b).length):a<b:=by
 rcases Nat.lt_or_ge a b with h' | h'
 ·exact h'
 ·have h1:b<4294967296^(aS a).length:=Nat.lt_of_le_of_lt h' (dS a)
  have:=db h1;omega
theorem fL {a b:Nat} (h:a≤b):(aS a).length≤(aS b).length:=db (Nat.lt_of_le_of_lt h (dS b))
def cT (a b:Int):Int:=if a<b then -1 else if b<a then 1 else 0
def kJ (a b:Nat):Int:=if a<b then -1 else if b<a then 1 else 0
theorem dj {l:List Nat} {k v q:Nat} (h:k<l.length):(l.set k v).getD q 0=if q=k then v else l.getD q 0:=by
 simp only [List.getD,List.getElem?_set]
 by_cases e:k=q
 ·subst e;simp [h]
 ·rw [if_neg e,if_neg (fun h=>e h.symm)]
theorem fa {l:List Nat} : ∀ {k v:Nat},k<l.length→lv (l.set k v)+4294967296^k*l.getD k 0=lv l+4294967296^k*v:=by
 induction l with
 | nil => intro k v h; simp at h
 | cons d l ih =>
  intro k v h
  cases k with
  | zero => simp [lv]; omega
  | succ k =>
   have:=ih (k:=k) (v:=v) (by simpa using h)
   simp only [List.set_cons_succ,lv,List.getD_cons_succ,Nat.pow_succ]
   have e1:4294967296^k*4294967296*l.getD k 0=4294967296*(4294967296^k*l.getD k 0):=by rw [Nat.mul_comm (4294967296^k),Nat.mul_assoc]
   have e2:4294967296^k*4294967296*v=4294967296*(4294967296^k*v):=by rw [Nat.mul_comm (4294967296^k),Nat.mul_assoc]
   rw [e1,e2]; omega
theorem bp.set {l:List Nat} (h:bp l) {k v:Nat} (hv:v<4294967296):bp (l.set k v):=fun d hd=>by
 rcases List.mem_or_eq_of_mem_set hd with h' | h'
 ·exact h d h'
 ·omega
theorem jZ {a b c d:Nat} (ha:a<4294967296) (hb:b<4294967296) (hc:c<4294967296) (hd:d<4294967296):d+(a*b+c)<18446744073709551616∧a*b<18446744073709551616∧a*b+c<18446744073709551616:=by
 have:a*b≤4294967295*4294967295:=Nat.mul_le_mul X X
 omega
end Tor
end
section
namespace Tor
open Go Go.RowKit Go.Proofs
variable [Tor.Co.Kc]
abbrev cw (l:List Nat):VT:=slT .one l.length (fun i=>one (.int .u32 (l.getD i 0)))
def j5 (v:Nat):VT:=exT fun l:List Nat=>cd (bp l∧lv l=v) (cw l)
def zr (v:Nat):VT:=exT fun l:List Nat=>cd (bp l∧lv l=v∧l.length≤4398046511104) (cw l)
def aW (x:Int):VT:=bB 2 [(0, .one,one (.bool (decide (x<0)))),(1, .one,cw (aS x.natAbs))]
instance {x:Int} : Flat (aW x) (.agg 2):=by unfold aW;infer_instance
theorem sD {l:List Nat} {v:Nat} (h:bp l) (hv:lv l=v) (hl:l.length≤4398046511104):VT.le (cw l) (zr v):=u1 l (sg ⟨h,hv,hl⟩ A)
theorem eL {l:List Nat} {v:Nat} (h:bp l) (hv:lv l=v):VT.le (cw l) (j5 v):=u1 l (sg ⟨h,hv⟩ A)
theorem cy (n:Nat):VT.le (cw (aS n)) (j5 n):=eL (bg n) (bW n)
theorem j6 {l l':List Nat} (h:l=l'):VT.le (cw l) (cw l'):=h▸VT.le_refl _
theorem xF {neg:Bool} {v:Nat} (h:v≠0):VT.le (bB 2 [(0, .one,one (.bool neg)),(1, .one,cw (aS v))]) (aW (if neg then -(v:Int) else v)):=by
 refine fI (fun q hq => ?_)
 simp only [List.mem_cons,List.not_mem_nil,or_false] at hq
 rcases hq with rfl | rfl
 ·have e:decide ((if neg then -(v:Int) else v)<0)=neg:=by cases neg <;> simp <;> omega
  exact ⟨_,List.mem_cons_self,jk (by rw [e])⟩
 ·refine ⟨_,List.mem_cons_of_mem _ List.mem_cons_self,j6 ?_⟩
  cases neg <;> simp
theorem kK:VT.le (bB 2 [(0, .one,one (.bool false)),(1, .one,one (.slice none 0 0))]) (aW 0):=by
 refine fI (fun q hq => ?_)
 simp only [List.mem_cons,List.not_mem_nil,or_false] at hq
 rcases hq with rfl | rfl
 ·exact ⟨_,List.mem_cons_self,jk (by simp)⟩
 ·exact ⟨_,List.mem_cons_of_mem _ List.mem_cons_self,gq⟩
theorem cW {x y:Int} (h:x=y):VT.le (aW x) (aW y):=h▸VT.le_refl _
attribute [local irreducible] J PJ aB one slT bJ bB bv exT cd eP aQ aI slV VT.le Ret bN
theorem cO (v:Nat):Ok Tryz.prog 127 [j5 v] (cw (aS v)):=by
 refine Ok.enter Tryz.func127 Z Tryz.ntmps127 Z (fun w O => ?_)
 refine xq (t:=0) Z (fun l=>sf (t:=0) Z (fun ⟨hL,hv⟩=>iz (t:=0) Z (fun _ _=>eX) (fun hb => ?_)))
 subst hv
 refine ae (ai (AR Z (AT (aa (gP (ae (ai (AQ Z (AP (bh Z) ?_)))))))))
 refine AR Z (AT (aa (ae (lm (aa (ae (aw ?_)))))))
 refine cU (σ:=Nat) (fun n => [(0,cw l),(3,one (.int .i64 n))]) (fun _ => []) (fun n=>n≤l.length∧f6 l n=f6 l l.length) (fun n=>n) l.length ⟨Nat.le_refl _,rfl⟩ AM (SubM.refl _) (fun n ⟨hn,ht⟩ => ?_)
 have hd:=mc hL
 refine ae (ae (ai (AQ Z (AP (dk Z Z) (AT (aa ?_))))))
 refine bw Z (fun hc => ?_) (fun hc => ?_) <;> simp at hc
 ·obtain ⟨n,rfl⟩ : ∃ m,n=m+1:=⟨n - 1,by omega⟩
  refine az (aa (aw (ae (ai (AQ Z (AQ Z ?_))))))
  (refine AP (eu Z Z (aT ?_ ?_)) ?_;omega;omega)
  (refine AP (gB Z Z ?_ ?_) ?_;omega;omega)
  refine AP (bj Z) (AT (aa (aw (ae (ai (AP (cQ Z Z) (AR Z (AT (aa ?_)))))))))
  refine bw Z (fun hc => ?_) (fun hc => ?_) <;> simp at hc
  ·refine ai (AQ Z ?_)
   (refine AP (eu Z Z (aT ?_ ?_)) ?_;omega;omega)
   refine AR Z (AT (aK (aK ?_)))
   have h0:l.getD n 0=0:=by simpa using hc
   refine cz n ⟨by omega,by rw [← ht,f6,if_pos h0]⟩ X AM (SubM.refl _)
  ·refine a8 (dm Z (dm Z (ay (aM (aa (ae (ai (AQ Z (AQ Z ?_)))))))))
   refine AQ Z ?_
   (refine AP (jP Z Z Z Z (fun _=>rfl) ?_ ?_ ?_ ?_) ?_;omega;omega;omega;omega)
   refine AR Z (AT (aa (aH (dY ?_))))
   have h0 : ¬ l.getD n 0=0:=by simpa using hc
   rw [← ht,f6,if_neg h0] at hd
   refine aX Tryz.results127 (.tmp Z (VT.le_trans (cN ?_ ?_) (j6 hd)))
   ·simp;omega
   ·intro i hi;simp at hi ⊢; rw [List.getElem?_take_of_lt X]
 ·subst hc
  refine a8 (ay (ay (aM (aa (ae (ai (AQ Z (AQ Z (AQ Z ?_)))))))))
  (refine AP (jP Z Z Z Z (fun _=>rfl) ?_ ?_ ?_ ?_) ?_;omega;omega;omega;omega)
  refine AR Z (AT (aa (aH (dY ?_))))
  rw [← ht,f6] at hd
  refine aX Tryz.results127 (.tmp Z (VT.le_trans (cN ?_ ?_) (j6 hd)))
  ·simp
  ·intro i hi;simp at hi
end Tor
end
section
namespace Tor
open Go Go.RowKit Go.Proofs
variable [Tor.Co.Kc]
attribute [local irreducible] J PJ aB one slT bJ bB bv exT cd eP aQ aI slV VT.le Ret bN
theorem dT (neg:Bool) (v:Nat):Ok Tryz.prog 125 [one (.bool neg),j5 v] (aW (if neg then -(v:Int) else v)):=by
 refine Ok.enter Tryz.func125 Z Tryz.ntmps125 Z (fun w O => ?_)
 refine ae (ai ?_)
 refine aU (T:=28) Z (ltN Z) (fun b => ?_)
 refine AT (aa (ae (ai (AQ Z ?_))))
 refine AP (ao (cO _) Z ⟨A,AU⟩) ?_
 refine AR Z (AT (aa (ae (ae (ai (AQ Z (AP (bh Z) (AP (cQ Z Z) (AT ?_)))))))))
 refine aa ?_
 refine bw Z (fun hc => ?_) (fun hc => ?_) <;> simp at hc
 ·have hv:v=0:=by rw [← bW v,hc]; rfl
  subst hv
  refine ae (ai (stB Z Z Z (BuildK.nil (au 0 Z Z Z Z Z (leN Z) Z (AT (aa (aH (aL ?_))))))))
  exact aX Tryz.results125 (.cellB 0 Z Z Z (VT.le_trans kK (cW (by simp))))
 ·have hv:v≠0:=by intro e;subst e;exact hc Z
  refine az (aa (ae (ai (AQ Z (AQ Z (stB Z Z Z (BuildK.cons Z Z Z (BuildK.cons Z Z Z (BuildK.nil ?_)))))))))
  refine au 0 Z Z Z Z Z (leN Z) Z (AT (aa (aH ?_)))
  exact aX Tryz.results125 (.cellB 0 Z Z Z (xF hv))
structure PlusR (lx ly:List Nat) (zl:List Nat) (c:Nat):Prop where
 len:zl.length≤lx.length
 lim:bp zl
 c1:c≤1
 val:lv zl+4294967296^zl.length*c=lv (lx.take zl.length)+lv (ly.take zl.length)
theorem PlusR.step {lx ly zl:List Nat} {c:Nat} (h:PlusR lx ly zl c) (hx:bp lx) (hy:bp ly) (hl:ly.length≤lx.length) (hlt:zl.length<lx.length) :
  PlusR lx ly (zl ++ [(c+lx.getD zl.length 0+ly.getD zl.length 0) % 4294967296]) ((c+lx.getD zl.length 0+ly.getD zl.length 0) / 4294967296):=by
 have h1:=a9 hx zl.length
 have h2:=a9 hy zl.length
 have h3:=h.c1
 refine ⟨by simp;omega,fun d hd => ?_,by omega,?_⟩
 ·rcases List.mem_append.1 hd with hd | hd
  ·exact h.lim d hd
  ·simp at hd;omega
 ·have hy2:lv (ly.take (zl.length+1))=lv (ly.take zl.length)+4294967296^zl.length*ly.getD zl.length 0:=by
   by_cases hk:zl.length<ly.length
   ·exact bA hk
   ·rw [List.take_of_length_le X,List.take_of_length_le X]; simp [List.getElem?_eq_none (Nat.le_of_not_lt hk)]
  simp only [List.length_append,List.length_cons,List.length_nil,Nat.zero_add]
  rw [gJ,bA hlt,hy2,Nat.pow_succ]
  have hv:=h.val
  generalize lx.getD zl.length 0=x at *
  generalize ly.getD zl.length 0=y at *
  generalize 4294967296^zl.length=B at *
  have e:(c+x+y)=4294967296*((c+x+y) / 4294967296)+(c+x+y) % 4294967296:=by omega
  generalize (c+x+y) / 4294967296=q at *
  generalize (c+x+y) % 4294967296=r at *
  simp only [lv,Nat.mul_zero,Nat.add_zero]
  have e2:B*(c+x+y)=B*(4294967296*q+r):=by rw [e]
  simp only [Nat.mul_add,Nat.mul_assoc] at e2 ⊢
  omega
theorem sE (a b:Nat) (ha:(aS a).length≤1099511627776) (hb:(aS b).length≤1099511627776):Ok Tryz.prog 128 [cw (aS a),cw (aS b)] (j5 (a+b)):=by
 refine Ok.enter Tryz.func128 Z Tryz.ntmps128 Z (fun w O => ?_)
 refine ae (ai (AR Z (AT (aa (ae (ae (ai (AQ Z (AP (bh Z) ?_)))))))))
 refine AQ Z (AP (bh Z) (AP (bH Z Z) (AT (aa ?_))))
 refine gU (σ:=List Nat × List Nat) (fun s => [(0,cw s.1),(1,cw s.2)]) (fun _ => []) (fun s=>bp s.1∧bp s.2∧s.2.length≤s.1.length∧s.1.length≤1099511627776∧lv s.1+lv s.2=a+b) ?_ (fun s ⟨hx,hy,hl,hs,hv⟩ => ?_)
 ·refine bw Z (fun hc => ?_) (fun hc => ?_) <;> simp at hc
  ·refine ai (AQ Z (AQ Z (AR Z (AR Z (AT ?_)))))
   exact dg (aS b,aS a) ⟨bg _,bg _,Nat.le_of_lt hc,hb,by simp only [bW]; omega⟩ AM (SubM.refl _)
  ·refine az ?_
   exact dg (aS a,aS b) ⟨bg _,bg _,hc,ha,by simp only [bW]⟩ AM (SubM.refl _)
 ·obtain ⟨lx,ly⟩:=s
  simp only at hx hy hl hs hv ⊢
  refine aa (ae (ai (AQ Z (AP (bh Z) ?_))))
  (refine AP (cB Z Z (aT ?_ ?_)) ?_;omega;omega)
  refine cx (lx.length+1) (lx.length+1) Z Z (by simp) (by simp) (Nat.le_refl _) Z Z X Z Z (fun bz => ?_)
  refine AR Z (AT (aa (ae (ai (AR Z (AT (aa (ae (ae ?_)))))))))
  refine ai (AQ Z (AP (bh Z) (AQ Z (AT (aa (aw ?_))))))
  refine cU (σ:=List Nat × Nat) (fun s => [(0,cw lx),(1,cw ly),(5,one (slV (some bz) (lx.length+1) (lx.length+1))),(6,one (.int .u64 (s.2:Nat))),(20,one (.int .i64 lx.length)),(21,one (.int .i64 s.1.length))])
   (fun s => [aI (some bz) 83 .one (lx.length+1) (lx.length+1) (fun q=>one (.int .u32 (s.1.getD q 0:Nat)))]) (fun s=>PlusR lx ly s.1 s.2) (fun s=>lx.length - s.1.length) ([],0)
   ⟨by simp,(fun d hd=>by cases hd),by decide,by simp [lv]⟩ AM (.keep (bZ (by simp)) .nil) (fun s hR => ?_)
  obtain ⟨zl,c⟩:=s
  simp only at hR ⊢
  refine ae (ai (AP (bH Z Z) (AT (aa (ae ?_)))))
  refine bw Z (fun hc => ?_) (fun hc => ?_) <;> simp at hc
  ·have h1:=a9 hx zl.length
   have h2:=a9 hy zl.length
   have h3:=hR.c1
   refine az (aa (ae (aw (ae (ai (AQ Z (AR Z (AT (aa ?_)))))))))
   refine ae (ai (AQ Z (AQ Z (AQ Z ?_))))
   (refine AP (aR Z Z ?_) ?_;omega)
   refine AP (bj Z) ?_
   (refine AP (bX Z ?_) ?_;omega)
   (refine AP (ej Z Z ?_) ?_;omega)
   refine AR Z (AT (aa (ae (ae (ai (AQ Z (AQ Z (AP (bh Z) (AP (bH Z Z) ?_)))))))))
   refine AT (aa ?_)
   refine gU (σ:=Unit) (fun _ => [(0,cw lx),(1,cw ly),(5,one (slV (some bz) (lx.length+1) (lx.length+1))),(6,one (.int .u64 ((c+lx.getD zl.length 0+ly.getD zl.length 0:Nat):Int))),(7,one (.int .i64 zl.length)),(20,one (.int .i64 lx.length)),(21,one (.int .i64 zl.length))])
    (fun _ => [aI (some bz) 83 .one (lx.length+1) (lx.length+1) (fun q=>one (.int .u32 (zl.getD q 0:Nat)))]) (fun _=>True) ?_ (fun _ _ => ?_)
   ·refine bw Z (fun hc => ?_) (fun hc => ?_) <;> simp at hc
    ·refine ai (AQ Z (AQ Z (AQ Z ?_)))
     (refine AP (aR Z Z ?_) ?_;omega)
     refine AP (bj Z) ?_
     (refine AP (bX Z ?_) ?_;omega)
     (refine AP (ej Z Z ?_) ?_;omega)
     refine AR Z (AT ?_)
     exact dg () trivial AM (SubM.refl _)
    ·have e0:ly.getD zl.length 0=0:=by simp [List.getElem?_eq_none hc]
     refine az ?_
     exact dg () trivial AM (SubM.refl _)
   ·refine aa (ae (ai (AQ Z (AQ Z (AQ Z (AP (cH Z) ?_))))))
    (refine AP (ar Z Z ?_) ?_;omega)
    (refine ax 0 Z Z Z ?_ Z ?_;omega)
    refine AT (aa (ai (AQ Z (AP (fd Z) (AR Z (AT (aK (aa (ai ?_)))))))))
    (refine AP (cB Z Z (aT ?_ ?_)) ?_;omega;omega)
    refine AQ Z (AT ?_)
    have hstep:=hR.step hx hy hl hc
    refine cz (s:=(zl,c)) (zl ++ [(c+lx.getD zl.length 0+ly.getD zl.length 0) % 4294967296],(c+lx.getD zl.length 0+ly.getD zl.length 0) / 4294967296) hstep (by simp;omega) AM (.keep (bZ (fun q hq => ?_)) .nil)
    unfold upd;rw [kI]; split <;> rfl
  ·have hlen:zl.length=lx.length:=by have:=hR.len;omega
   refine a8 (ay (ay (aM (aa (ae (ai (AQ Z (AQ Z (AP (bh Z) ?_)))))))))
   refine AQ Z (AP (cH Z) ?_)
   (refine AP (ar Z Z ?_) ?_;omega)
   (refine ax 0 Z Z Z ?_ Z ?_;omega)
   refine AT (aa (ae (ai (AQ Z (AR Z (AT (aa (aH (dX (t:=4) (i:=0) Z Z ?_)))))))))
   refine aX Tryz.results128 (.tmp Z (VT.le_trans (cN (m:=(zl ++ [c]).length) (ψ:=fun i=>one (.int .u32 ((zl ++ [c]).getD i 0:Nat))) (by simp [hlen]) (fun q hq => ?_)) (eL (l:=zl ++ [c]) ?_ ?_)))
   ·have h3:=hR.c1
    unfold upd;rw [kI,hlen]
    split
    ·rw [Nat.mod_eq_of_lt X]
    ·rfl
   ·intro d hd
    have h3:=hR.c1
    rcases List.mem_append.1 hd with hd | hd
    ·exact hR.lim d hd
    ·simp at hd;omega
   ·have h4:=hR.val
    rw [hlen,List.take_length,List.take_of_length_le X] at h4
    rw [gJ,hlen]; simp only [lv,Nat.mul_zero,Nat.add_zero]; omega
end Tor
end
section
namespace Tor
open Go Go.RowKit Go.Proofs
variable [Tor.Co.Kc]
attribute [local irreducible] J PJ aB one slT bJ bB bv exT cd eP aQ aI slV VT.le Ret bN
theorem ns (a:Int):Ok Tryz.prog 150 [one (.int .i64 a)] (one (.bool false)):=by
 refine Ok.enter Tryz.func150 Z Tryz.ntmps150 Z (fun w O => ?_)
 refine ae (ai (AR Z (AT (aa (ae (ai (AQ Z (AQ Z (AP (eh Z Z) ?_)))))))))
 refine AR Z (AT (aa (aH ?_)))
 exact aX Tryz.results150 (.tmp Z (av (by simp)))
theorem nt (a:Int):Ok Tryz.prog 165 [one (.int .u32 a)] (one (.bool false)):=by
 refine Ok.enter Tryz.func165 Z Tryz.ntmps165 Z (fun w O => ?_)
 refine ae (ai (AR Z (AT (aa (ae (ai (AQ Z (AQ Z (AP (eh Z Z) ?_)))))))))
 refine AR Z (AT (aa (aH ?_)))
 exact aX Tryz.results165 (.tmp Z (av (by simp)))
theorem iH (a b:Int):Ok Tryz.prog 133 [one (.int .i64 a),one (.int .i64 b)] (one (.int .i64 (cT a b))):=by
 refine Ok.enter Tryz.func133 Z Tryz.ntmps133 Z (fun w O => ?_)
 refine ae (ai (AR Z (AT (aa (ae (ai (AQ Z ?_)))))))
 refine AP (ao (ns _) Z ⟨A,AU⟩) ?_
 refine AR Z (AT (aa (ae (ai (AQ Z ?_)))))
 refine AP (ao (ns _) Z ⟨A,AU⟩) ?_
 refine AR Z (AT (aa (ae (ae (ai (AQ Z (AT (aa ?_))))))))
 refine bw Z (fun hc=>by cases hc) (fun hc => ?_)
 refine az (aa (ae (ae (ai (AQ Z (AT (aa ?_)))))))
 refine bw Z (fun hc=>by cases hc) (fun hc => ?_)
 refine az (aa (ae (ae (ai (AQ Z (AQ Z (AP (bH Z Z) (AT (aa ?_)))))))))
 refine bw Z (fun hc => ?_) (fun hc => ?_) <;> simp at hc
 ·refine ae (ai (AR Z (AT (aa (aH (aL ?_))))))
  exact aX Tryz.results133 (.tmp Z (av (by rw [cT,if_pos hc])))
 ·refine az (aa (ae (ae (ai (AQ Z (AQ Z (AP (dk Z Z) (AT (aa ?_)))))))))
  refine bw Z (fun hc2 => ?_) (fun hc2 => ?_) <;> simp at hc2
  ·refine ae (ai (AR Z (AT (aa (aH (aL ?_))))))
   exact aX Tryz.results133 (.tmp Z (av (by rw [cT,if_neg X,if_pos hc2])))
  ·refine az (aa (ae (ai (AR Z (AT (aa (aH ?_)))))))
   exact aX Tryz.results133 (.tmp Z (av (by rw [cT,if_neg X,if_neg X])))
theorem me (a b:Int):Ok Tryz.prog 149 [one (.int .u32 a),one (.int .u32 b)] (one (.int .i64 (cT a b))):=by
 refine Ok.enter Tryz.func149 Z Tryz.ntmps149 Z (fun w O => ?_)
 refine ae (ai (AR Z (AT (aa (ae (ai (AQ Z ?_)))))))
 refine AP (ao (nt _) Z ⟨A,AU⟩) ?_
 refine AR Z (AT (aa (ae (ai (AQ Z ?_)))))
 refine AP (ao (nt _) Z ⟨A,AU⟩) ?_
 refine AR Z (AT (aa (ae (ae (ai (AQ Z (AT (aa ?_))))))))
 refine bw Z (fun hc=>by cases hc) (fun hc => ?_)
 refine az (aa (ae (ae (ai (AQ Z (AT (aa ?_)))))))
 refine bw Z (fun hc=>by cases hc) (fun hc => ?_)
 refine az (aa (ae (ae (ai (AQ Z (AQ Z (AP (bH Z Z) (AT (aa ?_)))))))))
 refine bw Z (fun hc => ?_) (fun hc => ?_) <;> simp at hc
 ·refine ae (ai (AR Z (AT (aa (aH (aL ?_))))))
  exact aX Tryz.results149 (.tmp Z (av (by rw [cT,if_pos hc])))
 ·refine az (aa (ae (ae (ai (AQ Z (AQ Z (AP (dk Z Z) (AT (aa ?_)))))))))
  refine bw Z (fun hc2 => ?_) (fun hc2 => ?_) <;> simp at hc2
  ·refine ae (ai (AR Z (AT (aa (aH (aL ?_))))))
   exact aX Tryz.results149 (.tmp Z (av (by rw [cT,if_neg X,if_pos hc2])))
  ·refine az (aa (ae (ai (AR Z (AT (aa (aH ?_)))))))
   exact aX Tryz.results149 (.tmp Z (av (by rw [cT,if_neg X,if_neg X])))
theorem jB (a b:Nat):Ok Tryz.prog 129 [cw (aS a),cw (aS b)] (one (.int .i64 (kJ a b))):=by
 refine Ok.enter Tryz.func129 Z Tryz.ntmps129 Z (fun w O => ?_)
 refine iz (t:=0) Z (fun _ _=>eX) (fun hb => ?_)
 refine ae (ai (AR Z (AT (aa (ae (ae (ai (AQ Z (AP (bh Z) ?_)))))))))
 refine AQ Z (AP (bh Z) ?_)
 refine AP (ao (iH _ _) Z ⟨A,A,AU⟩) ?_
 refine AR Z (AT (aa (ae (ai (AQ Z (AP (eh Z Z) (AT (aa ?_))))))))
 refine bw Z (fun hc => ?_) (fun hc => ?_) <;> simp at hc
 ·refine ae (ai (AQ Z (AR Z (AT (aa (aH (aL ?_)))))))
  refine aX Tryz.results129 (.tmp Z (av ?_))
  unfold cT at hc ⊢
  unfold kJ
  congr 1
  by_cases h1:(aS a).length<(aS b).length
  ·have:=gy h1
   rw [if_pos X,if_pos this]
  ·by_cases h2:(aS b).length<(aS a).length
   ·have:=gy h2
    rw [if_neg X,if_pos X,if_neg X,if_pos this]
   ·rw [if_neg X,if_neg X] at hc;exact absurd Z hc
 ·have hlen:(aS a).length=(aS b).length:=by
   unfold cT at hc
   split at hc
   ·cases hc
   ·split at hc
    ·cases hc
    ·omega
  refine az (aa (ae (ae (ai (AQ Z (AP (bh Z) ?_))))))
  (refine AP (eu Z Z (aT ?_ ?_)) ?_;omega;omega)
  refine AR Z (AT (aa (aw ?_)))
  refine cU (σ:=Nat) (fun n => [(0,cw (aS a)),(1,cw (aS b)),(6,one (.int .i64 ((n:Int) - 1)))]) (fun _ => []) (fun n=>n≤(aS a).length∧(aS a).drop n=(aS b).drop n) (fun n=>n) (aS a).length
   ⟨Nat.le_refl _,by rw [List.drop_length,hlen,List.drop_length]⟩ AM (SubM.refl _) (fun n ⟨hn,hd⟩ => ?_)
  refine ae (ae (ai (AQ Z (AP (eU Z Z) (AT (aa ?_))))))
  refine bw Z (fun hc2 => ?_) (fun hc2 => ?_) <;> simp at hc2
  ·obtain ⟨n,rfl⟩ : ∃ m,n=m+1:=⟨n - 1,by omega⟩
   have e:((n+1:Nat):Int) - 1=n:=by omega
   rw [e]
   refine az (aa (ae (aw (ae (bG 10 bL Y U (AQ Z (AQ Z ?_)))))))
   (refine AP (aR Z Z ?_) ?_;omega)
   refine AP (bj Z) (AQ Z (AQ Z ?_))
   (refine AP (aR Z Z ?_) ?_;omega)
   refine AP (bj Z) ?_
   refine AP (ao (me _ _) Z ⟨A,A,AU⟩) ?_
   refine AR Z (AT (AT (aa (ae (ai (AQ Z (AP (eh Z Z) (AT (aa ?_)))))))))
   refine bw Z (fun hc3 => ?_) (fun hc3 => ?_) <;> simp only [decide_eq_true_eq,decide_eq_false_iff_not,ne_eq,Decidable.not_not] at hc3
   ·refine ae (ai (AQ Z (AR Z (AT (aa (aH (bq (aL (aL ?_)))))))))
    refine bq (aL ?_)
    refine aX Tryz.results129 (.tmp Z (av ?_))
    congr 1
    unfold cT at hc3 ⊢
    unfold kJ
    by_cases h1:(aS a).getD n 0<(aS b).getD n 0
    ·have:=oq (bg a) (bg b) hlen (i:=n) X hd h1
     rw [bW,bW] at this
     rw [if_pos X,if_pos this]
    ·by_cases h2:(aS b).getD n 0<(aS a).getD n 0
     ·have:=oq (bg b) (bg a) hlen.symm (i:=n) X hd.symm h2
      rw [bW,bW] at this
      rw [if_neg X,if_pos X,if_neg X,if_pos this]
     ·rw [if_neg X,if_neg X] at hc3;exact absurd Z hc3
   ·refine az (aK (aa (ai (AQ Z ?_))))
    (refine AP (eu Z Z (aT ?_ ?_)) ?_;omega;omega)
    refine AR Z (AT ?_)
    refine cz (s:=n+1) n ⟨by omega,?_⟩ X AM (SubM.refl _)
    have h3:(aS a).getD n 0=(aS b).getD n 0:=by
     unfold cT at hc3
     split at hc3
     ·cases hc3
     ·split at hc3
      ·cases hc3
      ·omega
    have e1:=e8 (l:=aS a) (k:=n) X
    have e2:=e8 (l:=aS b) (k:=n) X
    rw [e1,e2,h3,hd]
  ·refine a8 (ay (ay (aM (aa (ae (ai (AR Z (AT (aa ?_)))))))))
   refine aH ?_
   have h0:n=0:=by omega
   subst h0
   have h4:a=b:=pO (by simpa using hd)
   exact aX Tryz.results129 (.tmp Z (av (by subst h4;simp [kJ])))
end Tor
end
section
namespace Tor
open Go Go.RowKit Go.Proofs
variable [Tor.Co.Kc]
attribute [local irreducible] J PJ aB one slT bJ bB bv exT cd eP aQ aI slV VT.le Ret bN
structure MinusR (lx ly:List Nat) (zl:List Nat) (c:Nat):Prop where
 len:zl.length≤lx.length
 lim:bp zl
 c1:c≤1
 val:lv zl+lv (ly.take zl.length)=lv (lx.take zl.length)+4294967296^zl.length*c
theorem pP {x y c d:Nat} (hx:x<4294967296) (hy:y<4294967296) (hc:c≤1) (hd:d=((x+18446744073709551616 - c) % 18446744073709551616+18446744073709551616 - y) % 18446744073709551616) :
  d % 4294967296+y+c=x+4294967296*(d / 9223372036854775808)∧d / 9223372036854775808≤1:=by
 rcases Nat.lt_or_ge x (y+c) with h | h
 ·have h1:d=x+18446744073709551616 - (y+c):=by omega
  omega
 ·have h1:d=x - (y+c):=by omega
  omega
theorem MinusR.step {lx ly zl:List Nat} {c d:Nat} (h:MinusR lx ly zl c) (hx:bp lx) (hy:bp ly) (hl:ly.length≤lx.length) (hlt:zl.length<lx.length)
  (hd:d=((lx.getD zl.length 0+18446744073709551616 - c) % 18446744073709551616+18446744073709551616 - ly.getD zl.length 0) % 18446744073709551616) :
  MinusR lx ly (zl ++ [d % 4294967296]) (d / 9223372036854775808):=by
 obtain ⟨h1,h2⟩:=pP (a9 hx zl.length) (a9 hy zl.length) h.c1 hd
 refine ⟨by simp;omega,fun e he => ?_,h2,?_⟩
 ·rcases List.mem_append.1 he with he | he
  ·exact h.lim e he
  ·simp at he;omega
 ·have hy2:lv (ly.take (zl.length+1))=lv (ly.take zl.length)+4294967296^zl.length*ly.getD zl.length 0:=by
   by_cases hk:zl.length<ly.length
   ·exact bA hk
   ·rw [List.take_of_length_le X,List.take_of_length_le X]; simp [List.getElem?_eq_none (Nat.le_of_not_lt hk)]
  simp only [List.length_append,List.length_cons,List.length_nil,Nat.zero_add]
  rw [gJ,bA hlt,hy2,Nat.pow_succ]
  have hv:=h.val
  clear hd
  generalize lx.getD zl.length 0=x at *
  generalize ly.getD zl.length 0=y at *
  generalize 4294967296^zl.length=B at *
  generalize d % 4294967296=r at *
  generalize d / 9223372036854775808=q at *
  simp only [lv,Nat.mul_zero,Nat.add_zero]
  have e2:B*(r+y+c)=B*(x+4294967296*q):=by rw [h1]
  simp only [Nat.mul_add,Nat.mul_assoc] at e2 ⊢
  omega
theorem mf (a b:Nat) (hab:b≤a) (ha:(aS a).length≤1099511627776):Ok Tryz.prog 130 [cw (aS a),cw (aS b)] (j5 (a - b)):=by
 refine Ok.enter Tryz.func130 Z Tryz.ntmps130 Z (fun w O => ?_)
 have hx:=bg a
 have hy:=bg b
 have hl:=fL hab
 have hva:=bW a
 have hvb:=bW b
 generalize aS a=lx at *
 generalize aS b=ly at *
 refine ae (ai (AR Z (AT (aa (ae (ai (AQ Z (AP (bh Z) ?_))))))))
 refine cx lx.length lx.length Z Z Z Z (Nat.le_refl _) Z Z X Z Z (fun bz => ?_)
 refine AR Z (AT (aa (ae (ai (AR Z (AT (aa (ae (ae ?_)))))))))
 refine ai (AQ Z (AP (bh Z) (AQ Z (AT (aa (aw ?_))))))
 refine cU (σ:=List Nat × Nat) (fun s => [(0,cw lx),(1,cw ly),(5,one (slV (some bz) lx.length lx.length)),(6,one (.int .u64 (s.2:Nat))),(13,one (.int .i64 lx.length)),(14,one (.int .i64 s.1.length))])
   (fun s => [aI (some bz) 83 .one lx.length lx.length (fun q=>one (.int .u32 (s.1.getD q 0:Nat)))]) (fun s=>MinusR lx ly s.1 s.2) (fun s=>lx.length - s.1.length) ([],0)
   ⟨by simp,(fun d hd=>by cases hd),by decide,by simp [lv]⟩ AM (.keep (bZ (by simp)) .nil) (fun s hR => ?_)
 obtain ⟨zl,c⟩:=s
 simp only at hR ⊢
 refine ae (ai (AP (bH Z Z) (AT (aa (ae ?_)))))
 refine bw Z (fun hc => ?_) (fun hc => ?_) <;> simp at hc
 ·have h1:=a9 hx zl.length
  have h2:=a9 hy zl.length
  have h3:=hR.c1
  refine az (aa (ae (aw (ae (ai (AQ Z (AR Z (AT (aa ?_)))))))))
  refine ae (ai (AQ Z (AQ Z ?_)))
  (refine AP (aR Z Z ?_) ?_;omega)
  refine AP (bj Z) ?_
  (refine AP (bX Z ?_) ?_;omega)
  refine AQ Z ?_
  (refine AP (eI Z Z ?_ ?_) ?_;omega;omega)
  refine AR Z (AT (aa (ae (ae (ai (AQ Z (AQ Z (AP (bh Z) (AP (bH Z Z) ?_)))))))))
  refine AT (aa ?_)
  generalize hD:((lx.getD zl.length 0+18446744073709551616 - c) % 18446744073709551616+18446744073709551616 - ly.getD zl.length 0) % 18446744073709551616=d
  refine gU (σ:=Unit) (fun _ => [(0,cw lx),(1,cw ly),(5,one (slV (some bz) lx.length lx.length)),(8,one (.int .u64 (d:Nat))),(7,one (.int .i64 zl.length)),(13,one (.int .i64 lx.length)),(14,one (.int .i64 zl.length))])
    (fun _ => [aI (some bz) 83 .one lx.length lx.length (fun q=>one (.int .u32 (zl.getD q 0:Nat)))]) (fun _=>True) ?_ (fun _ _ => ?_)
  ·refine bw Z (fun hc => ?_) (fun hc => ?_) <;> simp at hc
   ·refine ai (AQ Z (AQ Z (AQ Z ?_)))
    (refine AP (aR Z Z ?_) ?_;omega)
    refine AP (bj Z) ?_
    (refine AP (bX Z ?_) ?_;omega)
    (refine AP (eI Z Z ?_ ?_) ?_;omega;omega)
    refine AR Z (AT ?_)
    exact dg () trivial AM (SubM.refl _)
   ·have e0:ly.getD zl.length 0=0:=by simp [List.getElem?_eq_none hc]
    refine az ?_
    exact dg () trivial AM (SubM.refl _)
  ·refine aa (ae (ai (AQ Z (AQ Z (AQ Z (AP (cH Z) ?_))))))
   (refine AP (ar Z Z ?_) ?_;omega)
   (refine ax 0 Z Z Z ?_ Z ?_;omega)
   refine AT (aa (ai (AQ Z (AP (nW Z) (AR Z (AT (aK (aa (ai ?_)))))))))
   (refine AP (cB Z Z (aT ?_ ?_)) ?_;omega;omega)
   refine AQ Z (AT ?_)
   have hstep:=hR.step hx hy hl hc hD.symm
   refine cz (s:=(zl,c)) (zl ++ [d % 4294967296],d / 9223372036854775808) hstep (by simp;omega) AM (.keep (bZ (fun q hq => ?_)) .nil)
   unfold upd;rw [kI]; split <;> rfl
 ·have hlen:zl.length=lx.length:=by have:=hR.len;omega
  refine a8 (ay (ay (aM (aa (ae (ai (AQ Z (AR Z (AT ?_)))))))))
  refine aa (aH (dX (t:=4) (i:=0) Z Z ?_))
  refine aX Tryz.results130 (.tmp Z (VT.le_trans (cN (m:=zl.length) (ψ:=fun i=>one (.int .u32 (zl.getD i 0:Nat))) hlen.symm (fun q hq=>rfl)) (eL (l:=zl) hR.lim ?_)))
  have h4:=hR.val
  rw [hlen,List.take_length,List.take_of_length_le X,hva,hvb] at h4
  have h5:=gK hR.lim
  rw [hlen] at h5
  have h3:=hR.c1
  have:c=0:=by
   rcases Nat.eq_zero_or_pos c with h | h
   ·exact h
   ·have:c=1:=by omega
    subst this;omega
  subst this;omega
end Tor
end
section
namespace Tor
open Go Go.RowKit Go.Proofs
variable [Tor.Co.Kc]
attribute [local irreducible] J PJ aB one slT bJ bB bv exT cd eP aQ aI slV VT.le Ret bN
structure TimesR (lx ly zz:List Nat) (i:Nat):Prop where
 le:i≤lx.length
 len:zz.length=lx.length+ly.length
 lim:bp zz
 zero : ∀ k,i+ly.length≤k→zz.getD k 0=0
 val:lv zz=lv (lx.take i)*lv ly
structure TimesI (lx ly z0 zz:List Nat) (i j c:Nat):Prop where
 le:j≤ly.length
 len:zz.length=lx.length+ly.length
 lim:bp zz
 zero : ∀ k,i+ly.length≤k→zz.getD k 0=0
 c1:c<4294967296
 val:lv zz+4294967296^(i+j)*c=lv z0+4294967296^i*(lx.getD i 0*lv (ly.take j))
theorem TimesI.step {lx ly z0 zz:List Nat} {i j c:Nat} (h:TimesI lx ly z0 zz i j c) (hx:bp lx) (hy:bp ly) (hi:i<lx.length) (hj:j<ly.length) :
  TimesI lx ly z0 (zz.set (i+j) ((c+(lx.getD i 0*ly.getD j 0+zz.getD (i+j) 0)) % 4294967296)) i (j+1) ((c+(lx.getD i 0*ly.getD j 0+zz.getD (i+j) 0)) / 4294967296):=by
 have hlim:=jZ (a9 hx i) (a9 hy j) (a9 h.lim (i+j)) h.c1
 have hlt:i+j<zz.length:=by rw [h.len]; omega
 refine ⟨hj,by rw [List.length_set]; exact h.len,h.lim.set X,fun k hk => ?_,by omega,?_⟩
 ·rw [dj hlt,if_neg X]; exact h.zero k hk
 ·have hs:=fa (l:=zz) (k:=i+j) (v:=(c+(lx.getD i 0*ly.getD j 0+zz.getD (i+j) 0)) % 4294967296) hlt
  have hv:=h.val
  rw [bA hj]
  generalize lx.getD i 0=x at *
  generalize ly.getD j 0=y at *
  generalize zz.getD (i+j) 0=z at *
  have e:c+(x*y+z)=4294967296*((c+(x*y+z)) / 4294967296)+(c+(x*y+z)) % 4294967296:=by omega
  generalize (c+(x*y+z)) / 4294967296=q at *
  generalize (c+(x*y+z)) % 4294967296=r at *
  rw [show i+(j+1)=(i+j)+1 by omega,Nat.pow_succ]
  have eB:4294967296^i*4294967296^j=4294967296^(i+j):=(Nat.pow_add _ _ _).symm
  have e3:4294967296^i*(x*(lv (ly.take j)+4294967296^j*y))=4294967296^i*(x*lv (ly.take j))+4294967296^(i+j)*(x*y):=by
   rw [Nat.mul_add,Nat.mul_add, ← eB]
   congr 1
   rw [Nat.mul_assoc]; congr 1
   rw [Nat.mul_left_comm]
  rw [e3]
  generalize 4294967296^(i+j)=B at *
  have e2:B*(c+(x*y+z))=B*(4294967296*q+r):=by rw [e]
  simp only [Nat.mul_add, ← Nat.mul_assoc] at e2 ⊢ hs hv
  omega
theorem TimesR.start {lx ly z0:List Nat} {i:Nat} (h:TimesR lx ly z0 i):TimesI lx ly z0 z0 i 0 0:=⟨Nat.zero_le _,h.len,h.lim,h.zero,by decide,by simp [lv]⟩
theorem TimesI.finish {lx ly z0 zz:List Nat} {i c:Nat} (h0:TimesR lx ly z0 i) (h:TimesI lx ly z0 zz i ly.length c) (hi:i<lx.length):TimesR lx ly (zz.set (i+ly.length) (c % 4294967296)) (i+1):=by
 have hlt:i+ly.length<zz.length:=by rw [h.len]; omega
 have hc:=h.c1
 refine ⟨hi,by rw [List.length_set]; exact h.len,h.lim.set X,fun k hk => ?_,?_⟩
 ·rw [dj hlt,if_neg X]; exact h.zero k X
 ·have hs:=fa (l:=zz) (k:=i+ly.length) (v:=c % 4294967296) hlt
  rw [h.zero _ (Nat.le_refl _),Nat.mul_zero,Nat.add_zero,Nat.mod_eq_of_lt hc] at hs
  rw [Nat.mod_eq_of_lt hc,hs,h.val,List.take_length,h0.val,bA hi,Nat.add_mul,Nat.mul_assoc]
theorem bp.replicate (n:Nat):bp (List.replicate n 0):=fun d hd=>by
 have:=(List.mem_replicate.1 hd).2;omega
theorem dE : ∀ n,lv (List.replicate n 0)=0
 | 0 => rfl
 | n + 1 => by rw [List.replicate_succ, lv, dE n]
theorem cj (n q:Nat):(List.replicate n 0).getD q 0=0:=by
 simp only [List.getD,List.getElem?_replicate]; split <;> rfl
theorem vC (a b:Nat) (ha:(aS a).length≤1099511627776) (hb:(aS b).length≤1099511627776):Ok Tryz.prog 131 [cw (aS a),cw (aS b)] (j5 (a*b)):=by
 refine Ok.enter Tryz.func131 Z Tryz.ntmps131 Z (fun w O => ?_)
 have hx:=bg a
 have hy:=bg b
 have hva:=bW a
 have hvb:=bW b
 generalize aS a=lx at *
 generalize aS b=ly at *
 refine ae (ai (AR Z (AT (aa (ae (ai (AQ Z (AP (bh Z) (AQ Z ?_)))))))))
 refine AP (bh Z) ?_
 (refine AP (cB Z Z (aT ?_ ?_)) ?_;omega;omega)
 refine cx (lx.length+ly.length) (lx.length+ly.length) Z Z (by simp) (by simp) (Nat.le_refl _) Z Z X Z Z (fun bz => ?_)
 refine AR Z (AT (aa (ae (ae (ai (AQ Z (AP (bh Z) (AQ Z (AT ?_)))))))))
 refine aa (aw ?_)
 refine cU (σ:=List Nat × Nat) (fun s => [(1,cw ly),(5,one (slV (some bz) (lx.length+ly.length) (lx.length+ly.length))),(17,cw lx),(18,one (.int .i64 lx.length)),(19,one (.int .i64 (s.2:Nat)))])
   (fun s => [aI (some bz) 83 .one (lx.length+ly.length) (lx.length+ly.length) (fun q=>one (.int .u32 (s.1.getD q 0:Nat)))]) (fun s=>TimesR lx ly s.1 s.2) (fun s=>lx.length - s.2) (List.replicate (lx.length+ly.length) 0,0)
   ⟨by simp,by simp,bp.replicate _,fun k _=>cj _ _,by simp [dE,lv]⟩ AM (.keep (bZ (fun q _=>by rw [cj]; rfl)) .nil) (fun s hR => ?_)
 obtain ⟨z0,i⟩:=s
 simp only at hR ⊢
 refine ae (ai (AP (bH Z Z) (AT (aa (ae ?_)))))
 refine bw Z (fun hc => ?_) (fun hc => ?_) <;> simp at hc
 ·have h1:=a9 hx i
  refine az (aa (ae (aw (ae (ai (AQ Z ?_))))))
  (refine AP (aR Z Z ?_) ?_;omega)
  refine AP (bj Z) (AR Z (AR Z (AT (aa (ae (ai (AR Z (AT (aa ?_)))))))))
  refine ae (ae (ai (AQ Z (AP (bh Z) (AQ Z (AT (aa (aw ?_))))))))
  refine cU (σ:=List Nat × Nat × Nat) (fun s => [(1,cw ly),(5,one (slV (some bz) (lx.length+ly.length) (lx.length+ly.length))),(6,one (.int .i64 i)),(7,one (.int .u32 (lx.getD i 0:Nat))),(8,one (.int .u64 (s.2.2:Nat))),(24,cw ly),(25,one (.int .i64 ly.length)),(26,one (.int .i64 (s.2.1:Nat))),(17,cw lx),(18,one (.int .i64 lx.length)),(19,one (.int .i64 i))])
   (fun s => [aI (some bz) 83 .one (lx.length+ly.length) (lx.length+ly.length) (fun q=>one (.int .u32 (s.1.getD q 0:Nat)))]) (fun s=>TimesI lx ly z0 s.1 i s.2.1 s.2.2) (fun s=>ly.length - s.2.1) (z0,0,0)
   hR.start AM (SubM.refl _) (fun s hI => ?_)
  obtain ⟨zz,j,c⟩:=s
  simp only at hI ⊢
  refine ae (ai (AP (bH Z Z) (AT (aa (ae ?_)))))
  refine bw Z (fun hc2 => ?_) (fun hc2 => ?_) <;> simp at hc2
  ·have h2:=a9 hy j
   have h3:=a9 hI.lim (i+j)
   have h4:=jZ h1 h2 h3 hI.c1
   have h5:=hI.c1
   refine az (aa (ae (aw (ae (ai (AQ Z ?_))))))
   (refine AP (aR Z Z ?_) ?_;omega)
   refine AP (bj Z) (AR Z (AR Z (AT (aa (ae (ai (AQ Z (AQ Z ?_))))))))
   (refine AP (bX Z ?_) ?_;omega)
   refine AQ Z ?_
   (refine AP (bX Z ?_) ?_;omega)
   (refine AP (jq Z Z ?_) ?_;omega)
   refine AQ Z (AQ Z (AQ Z ?_))
   (refine AP (cB Z Z (aT ?_ ?_)) ?_;omega;omega)
   (refine AP (ar Z Z ?_) ?_;omega)
   (refine AP (bQ 0 Z Z ?_) ?_;omega)
   (refine AP (bX Z ?_) ?_;omega)
   (refine AP (ej Z Z ?_) ?_;omega)
   (refine AP (ej Z Z ?_) ?_;omega)
   refine AR Z (AT (aa (ae (ai (AQ Z (AQ Z (AQ Z ?_)))))))
   (refine AP (cB Z Z (aT ?_ ?_)) ?_;omega;omega)
   refine AQ Z (AP (cH Z) ?_)
   (refine AP (ar Z Z ?_) ?_;omega)
   (refine ax 0 Z Z Z ?_ Z ?_;omega)
   refine AT (aa (ai (AQ Z (AP (fd Z) (AR Z (AT (aK (aa (ai ?_)))))))))
   (refine AP (cB Z Z (aT ?_ ?_)) ?_;omega;omega)
   refine AQ Z (AT ?_)
   have hstep:=hI.step hx hy hc hc2
   have hlt:i+j<zz.length:=by rw [hI.len]; omega
   refine cz (s:=(zz,j,c)) (zz.set (i+j) ((c+(lx.getD i 0*ly.getD j 0+zz.getD (i+j) 0)) % 4294967296),j+1,(c+(lx.getD i 0*ly.getD j 0+zz.getD (i+j) 0)) / 4294967296) hstep (by simp;omega) AM (.keep (bZ (fun q hq => ?_)) .nil)
   unfold upd;rw [dj hlt]; split <;> rfl
  ·have hj:j=ly.length:=by have:=hI.le;omega
   subst hj
   refine a8 (ay (ay (aM (aa (ai (AQ Z (AQ Z (AQ Z (AP (bh Z) ?_)))))))))
   (refine AP (cB Z Z (aT ?_ ?_)) ?_;omega;omega)
   refine AQ Z (AP (cH Z) ?_)
   (refine AP (ar Z Z ?_) ?_;omega)
   (refine ax 0 Z Z Z ?_ Z ?_;omega)
   refine AT (aK (aa (ai ?_)))
   (refine AP (cB Z Z (aT ?_ ?_)) ?_;omega;omega)
   refine AQ Z (AT ?_)
   have hfin:=hI.finish hR hc
   have hlt:i+ly.length<zz.length:=by rw [hI.len]; omega
   refine cz (s:=(z0,i)) (zz.set (i+ly.length) (c % 4294967296),i+1) hfin (by simp;omega) AM (.keep (bZ (fun q hq => ?_)) .nil)
   unfold upd;rw [dj hlt]; split <;> rfl
 ·have hi:i=lx.length:=by have:=hR.le;omega
  refine a8 (ay (ay (aM (aa (ae (ai (AQ Z (AR Z (AT ?_)))))))))
  refine aa (aH (dX (t:=4) (i:=0) Z Z ?_))
  refine aX Tryz.results131 (.tmp Z (VT.le_trans (cN (m:=z0.length) (ψ:=fun i=>one (.int .u32 (z0.getD i 0:Nat))) hR.len.symm (fun q hq=>rfl)) (eL (l:=z0) hR.lim ?_)))
  rw [hR.val,hi,List.take_length,hva,hvb]
end Tor
end
section
namespace Tor
open Go Go.RowKit Go.Proofs
variable [Tor.Co.Kc]
def sgT (neg:Bool) (v:Nat):VT:=bB 2 [(0, .one,one (.bool neg)),(1, .one,cw (aS v))]
def sv (neg:Bool) (v:Nat):Int:=if neg then -(v:Int) else v
theorem eM (x:Int):VT.le (aW x) (sgT (decide (x<0)) x.natAbs):=VT.le_refl _
theorem f7 (x:Int):sv (decide (x<0)) x.natAbs=x:=by
 unfold sv;by_cases h:x<0
 ·rw [decide_eq_true h,if_pos Z]; omega
 ·rw [decide_eq_false h]; simp only [Bool.false_eq_true,if_false]; omega
attribute [local irreducible] J PJ aB one slT bJ bB bv exT cd eP aQ aI slV VT.le Ret bN
attribute [local irreducible] aW
theorem j7 (u:Nat) (hu:u<18446744073709551616):Ok Tryz.prog 126 [one (.int .u64 u)] (j5 u):=by
 refine Ok.enter Tryz.func126 Z Tryz.ntmps126 Z (fun w O => ?_)
 refine ae (ai (AR Z (AT (aa (ae (ai (AQ Z (AP (cH Z) (AQ Z ?_)))))))))
 refine AP (fd Z) (AP (cH Z) (stS Z Z Z Z (PartsK.cons Z (PartsK.cons Z (PartsK.nil (AR Z (AT (aa (aH ?_)))))))))
 refine aX Tryz.results126 (.tmp Z (VT.le_trans (cN (m := [u % 4294967296,u / 4294967296 % 4294967296].length) (ψ:=fun i=>one (.int .u32 ([u % 4294967296,u / 4294967296 % 4294967296].getD i 0:Nat))) Z (fun q hq => ?_)) (eL (l := [u % 4294967296,u / 4294967296 % 4294967296]) ?_ ?_)))
 ·match q,hq with
  | 0, _ => rfl
  | 1, _ => rfl
 ·intro d hd;simp at hd;omega
 ·simp only [lv]; omega
theorem io (n:Int) (h1 : -9223372036854775808≤n) (h2:n≤9223372036854775807):Ok Tryz.prog 84 [one (.int .i64 n)] (aW n):=by
 refine Ok.enter Tryz.func84 Z Tryz.ntmps84 Z (fun w O => ?_)
 by_cases hn:n<0
 ·refine ae (ai ?_)
  refine aU (T:=28) Z (ltN Z) (fun b => ?_)
  refine AT (aa (ae (ai (AQ Z (AP (iy (r:=((18446744073709551616 - n.natAbs:Nat):Int)) Z (by rw [cR]; omega)) (AR Z (AT (aa (ae ?_)))))))))
  refine ae (ai (AQ Z (AP (bH Z Z) (AT (aa ?_)))))
  refine bw Z (fun hc => ?_) (fun hc => ?_) <;> simp at hc
  ·refine ai (AQ Z (AP (yU (r:=(n.natAbs:Int)) Z (by rw [cR]; omega)) (AR Z (AT (aa (ae (ai (AQ Z (AP (bH Z Z) ?_)))))))))
   refine AQ Z ?_
   refine AP (ao (j7 _ X) Z ⟨A,AU⟩) ?_
   refine AP (ao (dT _ _) Z ⟨A,A,AU⟩) ?_
   refine au 0 Z Z Z Z Z (leN Z) Z (AT (aa (aH ?_)))
   exact aX Tryz.results84 (.cellB 0 Z Z Z (cW (by rw [decide_eq_true hn,if_pos Z]; omega)))
  ·omega
 ·refine ae (ai ?_)
  refine aU (T:=28) Z (ltN Z) (fun b => ?_)
  refine AT (aa (ae (ai (AQ Z (AP (iy (r:=(n.natAbs:Int)) Z (by rw [cR]; omega)) (AR Z (AT (aa (ae ?_)))))))))
  refine ae (ai (AQ Z (AP (bH Z Z) (AT (aa ?_)))))
  refine bw Z (fun hc => ?_) (fun hc => ?_) <;> simp at hc
  ·omega
  ·refine az (aa (ae (ai (AQ Z (AP (bH Z Z) (AQ Z ?_))))))
   refine AP (ao (j7 _ X) Z ⟨A,AU⟩) ?_
   refine AP (ao (dT _ _) Z ⟨A,A,AU⟩) ?_
   refine au 0 Z Z Z Z Z (leN Z) Z (AT (aa (aH ?_)))
   exact aX Tryz.results84 (.cellB 0 Z Z Z (cW (by rw [decide_eq_false hn]; simp;omega)))
def j8 (x:Int):Int:=if x=0 then 0 else if x<0 then -1 else 1
theorem ot (neg:Bool) (v:Nat):Ok Tryz.prog 132 [sgT neg v] (one (.int .i64 (j8 (sv neg v)))):=by
 refine Ok.enter Tryz.func132 Z Tryz.ntmps132 Z (fun w O => ?_)
 refine ae (ai ?_)
 refine bE Z Z (ltN Z) (fun b => ?_)
 refine AR Z (AT (aa (ae (aw (ae (ai (AP (aj Z) (AP (am 0 Z Z Z) ?_))))))))
 refine AP (ao (cO _) Z ⟨cy _,AU⟩) ?_
 refine AP (bh Z) (AP (cQ Z Z) (AR Z (AT (aa ?_))))
 refine bw Z (fun hc => ?_) (fun hc => ?_) <;> simp at hc
 ·have hv:v=0:=by rw [← bW v,hc]; rfl
  refine ae (ai (AR Z (AT (aa (aH (bq (aL ?_)))))))
  exact aX Tryz.results132 (.tmp Z (av (by subst hv;simp [j8,sv])))
 ·have hv:v≠0:=by intro e;subst e;exact hc Z
  refine ae (ai (AP (aj Z) (AP (am 0 Z Z Z) (AR Z (AT (aa ?_))))))
  refine bw Z (fun hc2 => ?_) (fun hc2 => ?_)
  ·subst hc2
   refine ae (ai (AR Z (AT (aa (aH (bq (aL ?_)))))))
   exact aX Tryz.results132 (.tmp Z (av (by congr 1;unfold j8 sv;simp only [if_true]; rw [if_neg X,if_pos X])))
  ·subst hc2
   refine az (aK (aa (ae (ai (AR Z (AT (aa (aH ?_))))))))
   exact aX Tryz.results132 (.tmp Z (av (by congr 1;unfold j8 sv;simp only [Bool.false_eq_true,if_false]; rw [if_neg X,if_neg X])))
theorem vD (n1 n2:Bool) (v1 v2:Nat) (h1:(aS v1).length≤1099511627776) (h2:(aS v2).length≤1099511627776):Ok Tryz.prog 86 [sgT n1 v1,sgT n2 v2] (aW (sv n1 v1+sv n2 v2)):=by
 refine Ok.enter Tryz.func86 Z Tryz.ntmps86 Z (fun w O => ?_)
 refine ae (ai ?_)
 refine bE Z Z (ltN Z) (fun b => ?_)
 refine bE Z Z (ltN Z) (fun b => ?_)
 refine aU (T:=28) Z (ltN Z) (fun b => ?_)
 refine AT (aa (ae (bG 8 bL Y U (AP (aj Z) (AP (am 2 Z Z Z) ?_)))))
 refine AP (ao (cO _) Z ⟨cy _,AU⟩) ?_
 refine AP (aj Z) (AP (am 1 Z Z Z) ?_)
 refine AP (ao (cO _) Z ⟨cy _,AU⟩) ?_
 refine AR Z (AR Z (AT (AT (aa (ae (aw (ae (ai (AP (aj Z) ?_)))))))))
 refine AP (am 2 Z Z Z) (AP (aj Z) (AP (am 1 Z Z Z) (AP (yT Z Z) (AR Z (AT (aa ?_))))))
 refine bw Z (fun hc => ?_) (fun hc => ?_) <;> simp at hc
 ·subst hc
  refine ae (bG 6 bL Y U (AP (aj Z) (AP (am 2 Z Z Z) (AQ Z (AQ Z ?_)))))
  refine AP (ao (sE _ _ h1 h2) Z ⟨A,A,AU⟩) ?_
  refine AP (ao (dT _ _) Z ⟨A,A,AU⟩) ?_
  refine AT (au 0 Z Z Z Z Z (leN Z) Z (AT (aa (aH (bq (aL ?_))))))
  exact aX Tryz.results86 (.cellB 0 Z Z Z (cW (by unfold sv;split <;> omega)))
 ·refine ae (ai (AQ Z (AQ Z ?_)))
  refine AP (ao (jB _ _) Z ⟨A,A,AU⟩) ?_
  refine AP (bH Z Z) (AR Z (AT (aa ?_)))
  refine bw Z (fun hc2 => ?_) (fun hc2 => ?_) <;> simp at hc2
  ·have hlt:v1<v2:=by
    unfold kJ at hc2;split at hc2
    ·assumption
    ·split at hc2 <;> omega
   refine ae (bG 6 bL Y U (AP (aj Z) (AP (am 1 Z Z Z) (AQ Z (AQ Z ?_)))))
   refine AP (ao (mf _ _ X h2) Z ⟨A,A,AU⟩) ?_
   refine AP (ao (dT _ _) Z ⟨A,A,AU⟩) ?_
   refine AT (au 0 Z Z Z Z Z (leN Z) Z (AT (aa (aH (bq (aL ?_))))))
   exact aX Tryz.results86 (.cellB 0 Z Z Z (cW (by unfold sv;cases n1 <;> cases n2 <;> simp at hc ⊢ <;> omega)))
  ·have hge:v2≤v1:=by
    unfold kJ at hc2;split at hc2 <;> omega
   refine az (aK (aa (ae (bG 6 bL Y U (AP (aj Z) (AP (am 2 Z Z Z) (AQ Z (AQ Z ?_))))))))
   refine AP (ao (mf _ _ X h1) Z ⟨A,A,AU⟩) ?_
   refine AP (ao (dT _ _) Z ⟨A,A,AU⟩) ?_
   refine AT (au 0 Z Z Z Z Z (leN Z) Z (AT (aa (aH ?_))))
   exact aX Tryz.results86 (.cellB 0 Z Z Z (cW (by unfold sv;cases n1 <;> cases n2 <;> simp at hc ⊢ <;> omega)))
theorem zt (n1 n2:Bool) (v1 v2:Nat) (h1:(aS v1).length≤1099511627776) (h2:(aS v2).length≤1099511627776):Ok Tryz.prog 90 [sgT n1 v1,sgT n2 v2] (aW (sv n1 v1 - sv n2 v2)):=by
 refine Ok.enter Tryz.func90 Z Tryz.ntmps90 Z (fun w O => ?_)
 refine ae (ai ?_)
 refine bE Z Z (ltN Z) (fun b => ?_)
 refine bE Z Z (ltN Z) (fun b => ?_)
 refine aU (T:=28) Z (ltN Z) (fun b => ?_)
 refine AT (aa (ae (ai (AP (bM 2 Z Z) (AP (aj Z) (AP (am 1 Z Z Z) (AP (dl Z) (AP (aj Z) (AP (am 1 Z Z Z) ?_)))))))))
 refine stB Z Z Z (BuildK.cons Z Z Z (BuildK.cons Z Z Z (BuildK.nil ?_)))
 refine AP (ao (vD n1 (!n2) v1 v2 h1 h2) Z ⟨A,A,AU⟩) ?_
 refine au 0 Z Z Z Z Z (leN Z) Z (AT (aa (aH ?_)))
 exact aX Tryz.results90 (.cellB 0 Z Z Z (cW (by unfold sv;cases n2 <;> simp <;> omega)))
theorem zu (n1 n2:Bool) (v1 v2:Nat) (h1:(aS v1).length≤1099511627776) (h2:(aS v2).length≤1099511627776):Ok Tryz.prog 87 [sgT n1 v1,sgT n2 v2] (aW (sv n1 v1*sv n2 v2)):=by
 refine Ok.enter Tryz.func87 Z Tryz.ntmps87 Z (fun w O => ?_)
 refine ae (ai ?_)
 refine bE Z Z (ltN Z) (fun b => ?_)
 refine bE Z Z (ltN Z) (fun b => ?_)
 refine aU (T:=28) Z (ltN Z) (fun b => ?_)
 refine AT (aa (ae (bG 13 bL Y U (AP (aj Z) (AP (am 2 Z Z Z) (AP (aj Z) (AP (am 1 Z Z Z) (AP (pf Z Z) (AP (aj Z) ?_)))))))))
 refine AP (am 2 Z Z Z) ?_
 refine AP (ao (cO _) Z ⟨cy _,AU⟩) ?_
 refine AP (aj Z) (AP (am 1 Z Z Z) ?_)
 refine AP (ao (cO _) Z ⟨cy _,AU⟩) ?_
 skip
 refine AP (ao (vC _ _ h1 h2) Z ⟨A,A,AU⟩) ?_
 refine AP (ao (dT _ _) Z ⟨A,A,AU⟩) ?_
 refine AT (au 0 Z Z Z Z Z (leN Z) Z (AT (aa (aH ?_))))
 exact aX Tryz.results87 (.cellB 0 Z Z Z (cW (by unfold sv;cases n1 <;> cases n2 <;> simp [Int.neg_mul,Int.mul_neg])))
theorem xG {n1 n2:Bool} {v1 v2:Nat} (h:j8 (sv n1 v1)=j8 (sv n2 v2)):IntKind.i64.wrap (j8 (sv n1 v1)*kJ v1 v2)=cT (sv n1 v1) (sv n2 v2):=by
 have key:j8 (sv n1 v1)*kJ v1 v2=cT (sv n1 v1) (sv n2 v2):=by
  unfold j8 sv kJ cT at *
  cases n1 <;> cases n2 <;> simp only [if_true,if_false,Bool.false_eq_true] at * <;> (repeat' split at h) <;> (try omega) <;> (repeat' split) <;> omega
 rw [key]
 unfold cT;split
 ·decide
 ·split <;> decide
theorem zv (n1 n2:Bool) (v1 v2:Nat):Ok Tryz.prog 89 [sgT n1 v1,sgT n2 v2] (one (.int .i64 (cT (sv n1 v1) (sv n2 v2)))):=by
 refine Ok.enter Tryz.func89 Z Tryz.ntmps89 Z (fun w O => ?_)
 refine ae (ai ?_)
 refine bE Z Z (ltN Z) (fun b => ?_)
 refine bE Z Z (ltN Z) (fun b => ?_)
 refine AR Z (AT (aa (ae (bG 6 bL Y U (AP (bM 1 Z Z) ?_)))))
 refine AP (ao (ot n1 v1) Z ⟨A,AU⟩) ?_
 refine AP (bM 0 Z Z) ?_
 refine AP (ao (ot n2 v2) Z ⟨A,AU⟩) ?_
 refine AR Z (AR Z (AT (AT (aa (ae (ae (ai (AQ Z (AQ Z ?_)))))))))
 refine AP (eh Z Z) (AT (aa ?_))
 refine bw Z (fun hc => ?_) (fun hc => ?_) <;> simp only [decide_eq_true_eq,decide_eq_false_iff_not,ne_eq,Decidable.not_not] at hc
 ·refine ae (ai (AQ Z (AQ Z ?_)))
  refine AP (ao (iH _ _) Z ⟨A,A,AU⟩) ?_
  refine AR Z (AT (aa (aH (aL ?_))))
  exact aX Tryz.results89 (.tmp Z (av (by congr 1;unfold j8 at *; unfold cT;split at hc <;> split at hc <;> (try split at hc) <;> (try split at hc) <;> simp at * <;> (repeat' split) <;> omega)))
 ·refine az (aa (ae (bG 10 bL Y U (AQ Z (AP (aj Z) (AP (am 1 Z Z Z) ?_))))))
  refine AP (ao (cO _) Z ⟨cy _,AU⟩) ?_
  refine AP (aj Z) (AP (am 0 Z Z Z) ?_)
  refine AP (ao (cO _) Z ⟨cy _,AU⟩) ?_
  skip
  refine AP (ao (jB _ _) Z ⟨A,A,AU⟩) ?_
  refine AP (lK (r:=cT (sv n1 v1) (sv n2 v2)) Z Z (xG hc)) (AR Z (AT (AT (aa (aH ?_)))))
  exact aX Tryz.results89 (.tmp Z A)
end Tor
end
section
namespace Tor
open Go Go.RowKit Go.Proofs
variable [Tor.Co.Kc]
theorem nu {nb neg:Bool} {v:Nat} (h:nb=(neg && decide (v≠0))):VT.le (bB 2 [(0, .one,one (.bool nb)),(1, .one,cw (aS v))]) (aW (if neg then -(v:Int) else v)):=by
 refine fI (fun q hq => ?_)
 simp only [List.mem_cons,List.not_mem_nil,or_false] at hq
 rcases hq with rfl | rfl
 ·have e:decide ((if neg then -(v:Int) else v)<0)=nb:=by rw [h]; cases neg <;> simp <;> (try omega) <;> (rw [Bool.eq_iff_iff]; simp;omega)
  exact ⟨_,List.mem_cons_self,jk (by rw [e])⟩
 ·refine ⟨_,List.mem_cons_of_mem _ List.mem_cons_self,j6 ?_⟩
  cases neg <;> simp
theorem sG {b:Bool} {φ ψ:VT} (h:VT.le φ ψ):VT.le (bB 2 [(0, .one,one (.bool b)),(1, .one, φ)]) (bB 2 [(0, .one,one (.bool b)),(1, .one, ψ)]):=by
 refine fI (fun q hq => ?_)
 simp only [List.mem_cons,List.not_mem_nil,or_false] at hq
 rcases hq with rfl | rfl
 ·exact ⟨_,List.mem_cons_self,A⟩
 ·exact ⟨_,List.mem_cons_of_mem _ List.mem_cons_self,h⟩
attribute [local irreducible] J PJ aB one slT bJ bB bv exT cd eP aQ aI slV VT.le Ret bN
attribute [local irreducible] aW
theorem mg (neg:Bool) (v:Nat):Ok Tryz.prog 41 [zr v,one (.bool neg)] (aW (if neg then -(v:Int) else v)):=by
 refine Ok.enter Tryz.func41 Z Tryz.ntmps41 Z (fun w O => ?_)
 refine xq (t:=0) Z (fun l=>sf (t:=0) Z (fun ⟨hL,hv,hb⟩ => ?_))
 subst hv
 refine ae (ai ?_)
 refine aU (T:=28) Z (ltN Z) (fun b => ?_)
 refine AT (aa (ae (ai (AQ Z (AP (bh Z) (AR Z (AT (aa (ae ?_)))))))))
 refine aw ?_
 refine cU (σ:=Nat) (fun n => [(0,cw l),(1,one (.bool neg)),(4,one (.pointer (some ⟨b,0,none⟩))),(5,one (.int .i64 n))]) (fun _ => [aQ b 28 2 [(0, .agg 2,one (.agg #[.bool false, .slice none 0 0]))]]) (fun n=>n≤l.length∧f6 l n=f6 l l.length) (fun n=>n) l.length ⟨Nat.le_refl _,rfl⟩ AM (SubM.refl _) (fun n ⟨hn,ht⟩ => ?_)
 have hd:=mc hL
 refine ae (ae ?_)
 refine gU (σ:=Unit) (fun _ => [(0,cw l),(1,one (.bool neg)),(4,one (.pointer (some ⟨b,0,none⟩))),(5,one (.int .i64 n)),(17,one (.bool (decide (0<n∧l.getD (n - 1) 0=0))))]) (fun _ => [aQ b 28 2 [(0, .agg 2,one (.agg #[.bool false, .slice none 0 0]))]]) (fun _=>True) ?_ (fun _ _ => ?_)
 ·by_cases h0:0<n
  ·obtain ⟨n,rfl⟩ : ∃ m,n=m+1:=⟨n - 1,by omega⟩
   refine ai (AQ Z (AP (dk Z Z) (AQ Z ?_)))
   refine nT (t:=10) Z (fun b hb => ?_)
   rw [hb]
   have:b=true:=by rw [← hb]; simp
   subst this
   refine AS (ab Z) (AS (ab Z) ?_)
   (refine AS (eu Z Z (aT ?_ ?_)) ?_;omega;omega)
   (refine AS (gB Z Z ?_ ?_) ?_;omega;omega)
   refine AS (bj Z) (AS (cQ Z Z) (AP (bP Z Z) (AT ?_)))
   exact dg () trivial (.cons Z A (.cons Z A (.cons Z A (.cons Z A (.cons Z (av (by simp)) .nil))))) (SubM.refl _)
  ·refine ai (AQ Z (AP (dk Z Z) (AQ Z ?_)))
   refine nT (t:=10) Z (fun b hb => ?_)
   rw [hb]
   have:b=false:=by rw [← hb]; simp;omega
   subst this
   refine sg0 Z Z Z Z (sg0 Z Z Z Z (sg0 Z Z Z Z (sg0 Z Z Z Z (sg0 Z Z Z Z (sg0 Z Z Z Z (AP (bY Z Z) (AT ?_)))))))
   exact dg () trivial (.cons Z A (.cons Z A (.cons Z A (.cons Z A (.cons Z (av (by simp;omega)) .nil))))) (SubM.refl _)
 ·refine aa ?_
  refine bw Z (fun hc => ?_) (fun hc => ?_) <;> simp only [decide_eq_true_eq,decide_eq_false_iff_not] at hc
  ·obtain ⟨n,rfl⟩ : ∃ m,n=m+1:=⟨n - 1,by omega⟩
   refine az (aa (aw (ai (AQ Z ?_))))
   (refine AP (eu Z Z (aT ?_ ?_)) ?_;omega;omega)
   refine AR Z (AT (aK ?_))
   refine cz (s:=n+1) n ⟨by omega,by have h2:l.getD n 0=0:=hc.2;rw [← ht,f6,if_pos h2]⟩ X AM (SubM.refl _)
  ·have hz:f6 l n=n:=by
    cases n with
    | zero => rfl
    | succ n =>
     have h2 : ¬ l.getD n 0=0:=fun h=>hc ⟨by omega,h⟩
     rw [f6,if_neg h2]
   rw [ht] at hz
   rw [hz] at hd
   have hlen:(aS (lv l)).length=n:=by rw [← hd,List.length_take_of_le hn]
   have hnz:(0<n)↔lv l≠0:=by
    constructor
    ·intro h e;rw [e] at hlen;simp [gI] at hlen;omega
    ·intro h;rw [← hlen]; exact Nat.pos_of_ne_zero (fun e=>h (by rw [← bW (lv l),List.eq_nil_of_length_eq_zero e]; rfl))
   have hmag:VT.le (slT .one (0+((n:Int) - 0).toNat) fun q=>if q<0 then [].reverse.getD q bN else one (.int .u32 (l.getD (Int.toNat 0+(q - 0)) 0:Nat))) (cw (aS (lv l))) :=
    VT.le_trans (cN (m:=(l.take n).length) (ψ:=fun q=>one (.int .u32 ((l.take n).getD q 0:Nat))) (by rw [List.length_take_of_le hn]; omega) (fun q hq=>by
     simp only [Nat.not_lt_zero,if_false]
     rw [show Int.toNat 0+(q - 0)=q from by simp]
     simp [List.getElem?_take_of_lt (show q<n by omega)])) (j6 hd)
   cases neg
   ·refine a8 (ay (ay (aM (aa (ae (ai (AQ Z (AQ Z (sg0 Z Z Z Z ?_)))))))))
    refine sg0 Z Z Z Z (AP (bY Z Z) (u3 (n:=0) Z Z Z Z Z ?_))
    refine PartsK.nil (fun b => ?_)
    refine AQ Z (AQ Z ?_)
    (refine AP (jP Z Z Z Z (fun _=>rfl) ?_ ?_ ?_ ?_) ?_;omega;omega;omega;omega)
    (refine eH 0 Z Z Z (leN Z) ?_ ?_ Z (ltN Z) (fun sv cap => ?_);omega;omega)
    refine gQ (t:=29) (j:=0) Z Z (stB Z Z Z (BuildK.cons Z Z Z (BuildK.cons Z Z Z (BuildK.nil (au 0 Z Z Z Z Z (leN Z) Z (AT (aa (aH ?_))))))))
    exact aX Tryz.results41 (.cellB 0 Z Z Z (VT.le_trans (sG hmag) (nu (by simp))))
   ·refine a8 (ay (ay (aM (aa (ae (ai (AQ Z (AQ Z (AS (ab Z) ?_)))))))))
    refine AS (dk Z Z) (AP (bP Z Z) (u3 (n:=0) Z Z Z Z Z ?_))
    refine PartsK.nil (fun b => ?_)
    refine AQ Z (AQ Z ?_)
    (refine AP (jP Z Z Z Z (fun _=>rfl) ?_ ?_ ?_ ?_) ?_;omega;omega;omega;omega)
    (refine eH 0 Z Z Z (leN Z) ?_ ?_ Z (ltN Z) (fun sv cap => ?_);omega;omega)
    refine gQ (t:=29) (j:=0) Z Z (stB Z Z Z (BuildK.cons Z Z Z (BuildK.cons Z Z Z (BuildK.nil (au 0 Z Z Z Z Z (leN Z) Z (AT (aa (aH ?_))))))))
    exact aX Tryz.results41 (.cellB 0 Z Z Z (VT.le_trans (sG hmag) (nu (by rw [Bool.true_and]; exact decide_eq_decide.2 (by rw [← hnz]; omega)))))
end Tor
end
section
namespace Tor
open Go Go.RowKit Go.Proofs
variable [Tor.Co.Kc]
attribute [local irreducible] J PJ aB one slT bJ bB bv exT cd eP aQ aI slV VT.le Ret bN
theorem pQ (a b:Nat):Ok Tryz.prog 44 [cw (aS a),cw (aS b)] (one (.bool (decide (a<b)))):=by
 refine Ok.enter Tryz.func44 Z Tryz.ntmps44 Z (fun w O => ?_)
 refine iz (t:=0) Z (fun _ _=>eX) (fun hb => ?_)
 refine ae (ai (AR Z (AT (aa (ae (ae (ai (AQ Z (AP (bh Z) ?_)))))))))
 refine AQ Z (AP (bh Z) (AP (eh Z Z) (AT (aa ?_))))
 refine bw Z (fun hc => ?_) (fun hc => ?_) <;> simp only [decide_eq_true_eq,decide_eq_false_iff_not,ne_eq,Decidable.not_not] at hc
 ·refine ae (ai (AQ Z (AP (bh Z) (AQ Z (AP (bh Z) (AP (bH Z Z) (AR Z (AT (aa ?_)))))))))
  refine aH (aL ?_)
  refine aX Tryz.results44 (.tmp Z (av ?_))
  congr 1
  rw [decide_eq_decide]
  constructor
  ·intro h;exact gy X
  ·intro h;have:=fL (Nat.le_of_lt h);omega
 ·have hlen:(aS a).length=(aS b).length:=by omega
  refine az (aa (ae (ae (ai (AQ Z (AP (bh Z) ?_))))))
  (refine AP (eu Z Z (aT ?_ ?_)) ?_;omega;omega)
  refine AR Z (AT (aa (aw ?_)))
  refine cU (σ:=Nat) (fun n => [(0,cw (aS a)),(1,cw (aS b)),(5,one (.int .i64 ((n:Int) - 1)))]) (fun _ => []) (fun n=>n≤(aS a).length∧(aS a).drop n=(aS b).drop n) (fun n=>n) (aS a).length
   ⟨Nat.le_refl _,by rw [List.drop_length,hlen,List.drop_length]⟩ AM (SubM.refl _) (fun n ⟨hn,hd⟩ => ?_)
  refine ae (ae (ai (AQ Z (AP (eU Z Z) (AT (aa ?_))))))
  refine bw Z (fun hc2 => ?_) (fun hc2 => ?_) <;> simp only [decide_eq_true_eq,decide_eq_false_iff_not] at hc2
  ·obtain ⟨n,rfl⟩ : ∃ m,n=m+1:=⟨n - 1,by omega⟩
   have e:((n+1:Nat):Int) - 1=n:=by omega
   rw [e]
   refine az (aa (ae (aw (ae (bG 9 bL Y U (AQ Z (AQ Z ?_)))))))
   (refine AP (aR Z Z ?_) ?_;omega)
   refine AP (bj Z) (AQ Z (AQ Z ?_))
   (refine AP (aR Z Z ?_) ?_;omega)
   refine AP (bj Z) (AP (eh Z Z) (AT (AT (aa ?_))))
   refine bw Z (fun hc3 => ?_) (fun hc3 => ?_) <;> simp only [decide_eq_true_eq,decide_eq_false_iff_not,ne_eq,Decidable.not_not] at hc3
   ·refine ae (bG 10 bL Y U (AQ Z (AQ Z ?_)))
    (refine AP (aR Z Z ?_) ?_;omega)
    refine AP (bj Z) (AQ Z (AQ Z ?_))
    (refine AP (aR Z Z ?_) ?_;omega)
    refine AP (bj Z) (AP (bH Z Z) (AR Z (AT (AT (aa (aH (bq (aL (aL ?_)))))))))
    refine bq (aL ?_)
    refine aX Tryz.results44 (.tmp Z (av ?_))
    congr 1
    rw [decide_eq_decide]
    by_cases h1:(aS a).getD n 0<(aS b).getD n 0
    ·have:=oq (bg a) (bg b) hlen (i:=n) X hd h1
     rw [bW,bW] at this
     exact ⟨fun _=>this,fun _=>by omega⟩
    ·have:=oq (bg b) (bg a) hlen.symm (i:=n) X hd.symm X
     rw [bW,bW] at this
     exact ⟨fun h=>by omega,fun h=>by omega⟩
   ·refine az (aK (aa (ai (AQ Z ?_))))
    (refine AP (eu Z Z (aT ?_ ?_)) ?_;omega;omega)
    refine AR Z (AT ?_)
    refine cz (s:=n+1) n ⟨by omega,?_⟩ X AM (SubM.refl _)
    have h3:(aS a).getD n 0=(aS b).getD n 0:=by omega
    have e1:=e8 (l:=aS a) (k:=n) X
    have e2:=e8 (l:=aS b) (k:=n) X
    rw [e1,e2,h3,hd]
  ·refine a8 (ay (ay (aM (aa (ae (ai (AR Z (AT (aa ?_)))))))))
   refine aH ?_
   have h0:n=0:=by omega
   subst h0
   have h4:a=b:=pO (by simpa using hd)
   exact aX Tryz.results44 (.tmp Z (av (by subst h4;simp)))
theorem j9 (x y:Int):Ok Tryz.prog 18 [aW x,aW y] (one (.bool (decide (x=y)))):=by
 refine Ok.enter Tryz.func18 Z Tryz.ntmps18 Z (fun w O => ?_)
 refine ae (ai ?_)
 refine bE Z Z (ltN Z) (fun b => ?_)
 refine bE Z Z (ltN Z) (fun b => ?_)
 refine AR Z (AT (aa (ae (ai (AP (aj Z) (AP (am 1 Z Z Z) (AP (aj Z) (AP (am 0 Z Z Z) (AP (yT Z Z) ?_)))))))))
 refine AQ Z ?_
 refine nT (t:=10) Z (fun b hb => ?_)
 rw [hb]
 cases b
 ·refine sg0 Z Z Z Z (sg0 Z Z Z Z (sg0 Z Z Z Z (sg0 Z Z Z Z (sg0 Z Z Z Z (sg0 Z Z Z Z (AP (bY Z Z) (AQ Z (sg0 Z Z Z Z (sg0 Z Z Z Z ?_)))))))))
  refine sg0 Z Z Z Z (sg0 Z Z Z Z (sg0 Z Z Z Z (sg0 Z Z Z Z (AP (bY Z Z) (AR Z (AT (aa (aH ?_))))))))
  refine aX Tryz.results18 (.tmp Z (av ?_))
  congr 1
  have : ¬ (x=y):=by intro e;subst e;simp at hb
  simp [this]
 ·have hs:(x<0)↔(y<0):=by simpa using hb
  refine AS (aj Z) (AS (am 1 Z Z Z) (AS (aj Z) (AS (am 0 Z Z Z) ?_)))
  refine AS (ao (pQ _ _) Z ⟨A,A,AU⟩) ?_
  refine AS (dl Z) (AP (bP Z Z) (AQ Z ?_))
  refine nT (t:=18) Z (fun b hb2 => ?_)
  rw [hb2]
  cases b
  ·refine sg0 Z Z Z Z (sg0 Z Z Z Z (sg0 Z Z Z Z (sg0 Z Z Z Z (sg0 Z Z Z Z (sg0 Z Z Z Z (AP (bY Z Z) (AR Z (AT (aa ?_)))))))))
   refine aH ?_
   refine aX Tryz.results18 (.tmp Z (av ?_))
   congr 1
   simp at hb2
   have : ¬ (x=y):=by intro e;subst e;omega
   simp [this]
  ·simp at hb2
   refine AS (aj Z) (AS (am 0 Z Z Z) (AS (aj Z) (AS (am 1 Z Z Z) ?_)))
   refine AS (ao (pQ _ _) Z ⟨A,A,AU⟩) ?_
   refine AS (dl Z) (AP (bP Z Z) (AR Z (AT (aa (aH ?_)))))
   refine aX Tryz.results18 (.tmp Z (av ?_))
   congr 1
   rw [← decide_not,decide_eq_decide]
   omega
end Tor
end
section
namespace Tor
open Go Go.RowKit Go.Proofs
variable [Tor.Co.Kc]
theorem mh (l:List Nat) (k:Nat):lv (l.take (k+1))=lv (l.take k)+4294967296^k*l.getD k 0:=by
 by_cases hk:k<l.length
 ·exact bA hk
 ·rw [List.take_of_length_le X,List.take_of_length_le X]; simp [List.getElem?_eq_none (Nat.le_of_not_lt hk)]
theorem mi {sv:Option Nat} {T:TypeId} {L:Lay} {cap n m:Nat} {φ ψ:Nat→VT} (h:n=m) (H : ∀ q,q<n→φ q=ψ q):Own.le (aI sv T L cap n φ) (aI sv T L cap m ψ):=by
 subst h;exact bZ H
theorem sH {sv:Option Nat} {n m cap:Nat} (h:n=m):VT.le (one (slV sv n cap)) (one (slV sv m cap)):=h▸VT.le_refl _
attribute [local irreducible] J PJ aB one slT bJ bB bv exT cd eP aQ aI slV VT.le Ret bN
end Tor
end
section
namespace Tor
open Go Go.RowKit Go.Proofs
variable [Tor.Co.Kc]
theorem pR (u:Nat) (h:u<18446744073709551616):VT.le (slT .one 2 (fun q => [one (.int .u32 ((u / 4294967296 % 4294967296:Nat):Int)),one (.int .u32 ((u % 4294967296:Nat):Int))].reverse.getD q bN)) (zr u):=by
 refine VT.le_trans (cN (m:=2) (ψ:=fun i=>one (.int .u32 ([u % 4294967296,u / 4294967296 % 4294967296].getD i 0:Nat))) Z (fun q hq => ?_)) (sD (l := [u % 4294967296,u / 4294967296 % 4294967296]) (fun d hd => ?_) ?_ (by simp))
 ·match q,hq with
  | 0, _ => rfl
  | 1, _ => rfl
 ·simp at hd;omega
 ·simp only [lv]; omega
attribute [local irreducible] J PJ aB one slT bJ bB bv exT cd eP aQ aI slV VT.le Ret bN
theorem kL (n:Int) (h1 : -9223372036854775808≤n) (h2:n≤9223372036854775807):Ok Tryz.prog 12 [one (.int .i64 n)] (aW n):=by
 refine Ok.enter Tryz.func12 Z Tryz.ntmps12 Z (fun w O => ?_)
 by_cases hn:n<0
 ·refine ae (ai ?_)
  refine aU (T:=28) Z (ltN Z) (fun b => ?_)
  refine AT (aa (ae (ai (AQ Z (AP (iy (r:=((18446744073709551616 - n.natAbs:Nat):Int)) Z (by rw [cR]; omega)) (AR Z (AT (aa (ae ?_)))))))))
  refine ae (ai (AQ Z (AP (bH Z Z) (AT (aa ?_)))))
  refine bw Z (fun hc => ?_) (fun hc => ?_) <;> simp at hc
  ·refine ai (AQ Z (AP (yU (r:=(n.natAbs:Int)) Z (by rw [cR]; omega)) (AR Z (AT (aa (ae (ai (AQ Z (AP (cH Z) ?_)))))))))
   refine AQ Z (AP (fd Z) (AP (cH Z) (stS Z Z Z Z (PartsK.cons Z (PartsK.cons Z (PartsK.nil (AQ Z (AP (bH Z Z) ?_))))))))
   refine AP (ao (mg (decide (n<0)) n.natAbs) Z ⟨pR _ X,A,AU⟩) ?_
   refine au 0 Z Z Z Z Z (leN Z) Z (AT (aa (aH ?_)))
   exact aX Tryz.results12 (.cellB 0 Z Z Z (cW (by rw [decide_eq_true hn,if_pos Z]; omega)))
  ·omega
 ·refine ae (ai ?_)
  refine aU (T:=28) Z (ltN Z) (fun b => ?_)
  refine AT (aa (ae (ai (AQ Z (AP (iy (r:=(n.natAbs:Int)) Z (by rw [cR]; omega)) (AR Z (AT (aa (ae ?_)))))))))
  refine ae (ai (AQ Z (AP (bH Z Z) (AT (aa ?_)))))
  refine bw Z (fun hc => ?_) (fun hc => ?_) <;> simp at hc
  ·omega
  ·refine az (aa (ae (ai (AQ Z (AP (cH Z) (AQ Z (AP (fd Z) (AP (cH Z) (stS Z Z Z Z ?_)))))))))
   refine PartsK.cons Z (PartsK.cons Z (PartsK.nil (AQ Z (AP (bH Z Z) ?_))))
   refine AP (ao (mg (decide (n<0)) n.natAbs) Z ⟨pR _ X,A,AU⟩) ?_
   refine au 0 Z Z Z Z Z (leN Z) Z (AT (aa (aH ?_)))
   exact aX Tryz.results12 (.cellB 0 Z Z Z (cW (by rw [decide_eq_false hn]; simp;omega)))
end Tor
end
