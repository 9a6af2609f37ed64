/-
  Theorems that the proofs of laws of this seat rest on.
  No condition.
-/
import Derived.Test.YtfaglimgjfhdfaaGreatZP3
import Derived.RangeFuncFrom
import Derived.Test.YtfaglimgjfhdfaaGreatProg
set_option maxHeartbeats 20000000
set_option linter.unusedVariables false
set_option linter.unusedSimpArgs false
set_option linter.unusedSectionVars false
section
namespace Tor
open Go Go.RowKit
variable [Tor.Co.Kc]
section
variable {P:Program} {E:Env} {D:List Deferred} {Γ:Ctx} {M:Mem} {Q:Exit→Act→World→Prop}
def dfO (b:Nat):Own where
 bl := [b]
 p g _:=g b=some (.deferred (some []))
 loc:=fun he _ H=>(he _ (by simp)).symm.trans H
abbrev pL (b:Nat):Deferred := { target := .collected b,args := #[] }
class CellO (o:Own):Prop where
 h : ∀ g k,o.p g k → ∀ b∈o.bl, ∃ c T f,g b=some (.cells c T f)
theorem qZ {g:RH} {b:Nat} {c:Array Value} {T:TypeId} {f:Nat × Nat} (e:vw g b=some (c,T,f)):g b=some (.cells c T f):=by
 unfold vw at e;split at e
 ·rename_i h;cases e;exact h
 ·cases e
instance {b:Nat} {T:TypeId} {m:Nat} {cs:bX} : CellO (aU b T m cs):=⟨fun g k ⟨c,h,_⟩ b' hb=>by
 rw [show b'=b by simpa [aU] using hb]; exact ⟨_,_,_,qZ h⟩⟩
instance {sv:Option Nat} {T:TypeId} {L:Lay} {cap n:Nat} {φ:Nat→VT} : CellO (aN sv T L cap n φ):=⟨fun g k ⟨_,_,_,h⟩ b hb=>by
 obtain ⟨c,hc,_⟩:=h b (by simpa [aN] using hb);exact ⟨_,_,_,qZ hc⟩⟩
class CellM (M:Mem):Prop where
 h : ∀ o∈M,CellO o
instance:CellM []:=⟨fun o h=>by cases h⟩
instance {o:Own} {M:Mem} [ho:CellO o] [hM:CellM M]:CellM (o :: M):=⟨fun x h=>by
 rcases List.mem_cons.1 h with rfl | h
 ·exact ho
 ·exact hM.h x h⟩
theorem CellM.get {M:Mem} (hc:CellM M) {E:Env} {w:World} (hB:Base E M w) {b:Nat} (hb:b∈aZ M) : ∃ c T f,w.heap[b]? = some (Obj.cells c T f):=by
 obtain ⟨o,ho,hbo⟩:=List.mem_flatMap.1 hb
 exact (hc.h o ho).h _ _ (hB.mem o ho) b hbo
theorem St.grown {a:Act} {W W':World} {row:Option Nat} {B:Nat} (hc:CellM M) (hS:St E D Γ M a W) (hg:W.grownBy W' row) (hB:E.w0.heap.size≤B)
  (hr : ∀ r,row=some r→B≤r ∧ ∃ o:Obj,W.heap[r]? = some o∧o.isCells=false):St E D Γ M a W':=by
 have hk : ∀ b c T f,W.heap[b]? = some (Obj.cells c T f)→W'.heap[b]? = W.heap[b]? := fun b c T f e=>grownBy_keeps_cells hg (fun r e=>(hr r e).2) e Z
 have hle:Hp.le (hv E M W) (hv E M W'):=ia fun b x e=>by
  obtain ⟨c,T,f⟩:=x
  have:=dV e
  exact f8 ((hk _ _ _ _ this).trans this)
 refine ⟨⟨fun o ho=>o.loc (fun b hb => ?_) hle (hS.base.mem o ho),hS.base.nd,hS.base.dis,hS.base.lo,fun b hb=>Nat.lt_of_lt_of_le (hS.base.ex b hb) hg.size,?_⟩,hS.sz,hS.df,fun t φ h=>φ.mono hle (hS.tm t φ h)⟩
 ·obtain ⟨c,T,f,e⟩:=(hc.h o ho).h _ _ (hS.base.mem o ho) b hb
  exact (hk b c T f e).symm
 ·have hf:=hS.base.fr
  refine ⟨hg.os.trans hf.os,hg.tape.trans hf.tape,hg.output.trans hf.output,Nat.le_trans hf.size hg.size,fun k hk hn=>(hg.block k (Nat.lt_of_lt_of_le hk hf.size) fun e => ?_).trans (hf.block k hk hn)⟩
  have:=(hr k e.symm).1
  omega
theorem St.from_ {a:Act} {w W:World} {M0:Mem} {r:Option Nat} (hB:Base E M0 w) (hS:St ⟨w,E.O,aZ M0,E.N,r⟩ D Γ M a W):St E D Γ M a W :=
 ⟨⟨hS.base.mem,hS.base.nd,hS.base.dis,fun b hb=>(hS.base.lo b hb).elim (fun h => .inl (Nat.le_trans hB.fr.size h)) (fun h=>hB.lo b h),hS.base.ex,
  hB.fr.trans' hS.base.fr fun x hx=>hB.lo x hx⟩,hS.sz,hS.df,hS.tm⟩
theorem St.slots {a a':Act} {W W':World} {M':Mem} {r:Option Nat} {Γ':Ctx} (hS:St E D Γ M a W) (hS':St ⟨W,E.O,aZ M,E.N,r⟩ [] Γ' M' a' W'):St E D Γ M' a W':=by
 have hle:Hp.le (hv E M W) (hv E M' W'):=by
  intro b x e
  obtain ⟨h1,h2⟩:=de e
  have hlt:=eY h2
  have hnM:b ∉ aZ M:=fun h=>h1 (List.mem_append.2 (.inr h))
  refine eX (fun h => ?_) (by rw [gR (hS'.base.fr.block b hlt hnM)]; exact h2)
  rcases List.mem_append.1 h with h | h
  ·exact h1 (List.mem_append.2 (.inl h))
  ·rcases hS'.base.lo b h with h3 | h3
   ·have h3:W.heap.size≤b:=h3
    omega
   ·exact hnM h3
 have hB:=(hS'.from_ hS.base).base
 exact ⟨hB,hS.sz,hS.df,fun t φ h=>φ.mono hle (hS.tm t φ h)⟩
structure SameW (W0 W:World):Prop where
 os:W.os=W0.os
 tape:W.tape=W0.tape
 output:W.output=W0.output
 size:W0.heap.size≤W.heap.size
theorem SameW.refl (W:World):SameW W W:=⟨rfl,rfl,rfl,Nat.le_refl _⟩
theorem SameW.trans {a b c:World} (h:SameW a b) (k:SameW b c):SameW a c:=⟨k.os.trans h.os,k.tape.trans h.tape,k.output.trans h.output,Nat.le_trans h.size k.size⟩
theorem SameW.ofExt {a b:World} (h:Ext a b):SameW a b:=⟨h.os,h.tape,h.output,h.size⟩
theorem SameW.put {W:World} {l:Nat} {o:Obj} : SameW W (W.putObj l o):=⟨rfl,rfl,rfl,by simp⟩
def jf {β:Type} (J:β→World→Prop):Prop := ∀ s W W',J s W→Ext W W'→J s W'
def pM {α:Type} (P:Program) (l:Nat) (enc:α→Value) (J Jx:List α→World→Prop) (Nr:Nat):Prop :=
 ∀ pre x W1,J pre W1→pre.length<Nr → ∃ fn tmps ag bd,(Instr.yield l #[enc x]).run P W1 = .ok (.round l fn tmps ag bd) W1 ∧
  Co.RoundX P l fn tmps ag bd W1 fun e W'=>(e = .returned (.bool true)∧J (pre ++ [x]) W'∧SameW W1 W')∨(e = .returned (.bool false)∧Jx (pre ++ [x]) W')
def RY {α:Type} (S Sp:List α→Prop) (J Jx:List α→World→Prop) (e:Ending) (W:World):Prop:=(∃ v,e = .returned v)∧((∃ xs,S xs∧J xs W)∨(∃ pre,Sp pre∧Jx pre W))
def OkY {α:Type} (P:Program) (gf:FuncId) (cs:List VT) (enc:α→Value) (S Sp:List α→Prop) (N:Nat):Prop :=
 ∀ (w:World) (O:List Nat) (ca:List Value),(∀ b∈O,b<w.heap.size)→fB cs ca (hid O (view w)) → ∀ (l:Nat) (J Jx:List α→World→Prop),jf J→jf Jx→pM P l enc J Jx N→J [] w →
  jO P gf (.func (.yield l) #[] #[] :: ca).toArray w (RY S Sp J Jx)
def xe {α σ:Type} (E:Env) (Ms:σ→Mem) (ok:List α→σ→Prop) (okx:Option Nat→List α→σ→Prop) (pre:List α):Exit→Act→World→Prop
 | .normal, a, w => ∃ s, ok pre s ∧ St E [] [] (Ms s) a w
 | .ret, a, w => ∃ s, okx none pre s ∧ St E [] [] (Ms s) a w
 | .exit id, a, w => ∃ s, okx (some id) pre s ∧ St E [] [] (Ms s) a w
 | _, _, _ => False
theorem St.mark {a:Act} {W:World} {b:Nat} (hc:CellM M) (hS:St E D Γ M a W) (hb:E.w0.heap.size≤b) (hO:b ∉ E.O) (hh:W.heap[b]? = some (.deferred (some []))) :
  St E (pL b :: D) Γ (dfO b :: M) { a with defers:=pL b :: a.defers } W:=by
 have hn:b ∉ aZ M:=fun h=>by obtain ⟨c,T,f,e⟩:=hc.get hS.base h;rw [hh] at e;cases e
 have hlt:b<W.heap.size:=(Array.getElem?_eq_some_iff.1 hh).1
 have hle:Hp.le (hv E M W) (hv E (dfO b :: M) W):=by
  intro x y e
  obtain ⟨h1,h2⟩:=de e
  refine eX (fun h => ?_) h2
  have hx:x≠b:=fun e=>by subst e;unfold view at h2;rw [hh] at h2;cases h2
  simp only [List.mem_append,blks_cons,dfO,List.mem_singleton] at h
  rcases h with h | h | h
  ·exact h1 (List.mem_append.2 (.inl h))
  ·exact hx h
  ·exact h1 (List.mem_append.2 (.inr h))
 refine ⟨⟨?_,?_,?_,?_,?_,hS.base.fr⟩,hS.sz,by simp [hS.df],fun t φ h=>φ.mono hle (hS.tm t φ h)⟩
 ·intro o ho
  rcases List.mem_cons.1 ho with rfl | ho
  ·exact hh
  ·exact o.loc (fun _ _=>rfl) hle (hS.base.mem o ho)
 ·show (b :: aZ M).Nodup
  exact List.nodup_cons.2 ⟨hn,hS.base.nd⟩
 ·intro x hx
  rcases List.mem_cons.1 (show x∈b :: aZ M from hx) with rfl | h
  ·exact hO
  ·exact hS.base.dis x h
 ·intro x hx
  rcases List.mem_cons.1 (show x∈b :: aZ M from hx) with rfl | h
  ·exact .inl hb
  ·exact hS.base.lo x h
 ·intro x hx
  rcases List.mem_append.1 hx with h | h
  ·exact hS.base.ex x (List.mem_append.2 (.inl h))
  ·rcases List.mem_cons.1 (show x∈b :: aZ M from h) with rfl | h
   ·exact hlt
   ·exact hS.base.ex x (List.mem_append.2 (.inr h))
theorem uk {α σ:Type} {g:Operand} {p q id:Nat} {T:TypeId} {pos:String} {body:Code} {gf:FuncId} {cs:List VT} {enc:α→Value} {S Sp:List α→Prop} {N:Nat} [hF:Fn P gf]
  (hit:OkY P gf cs enc S Sp N) (Ms:σ→Mem) [hc : ∀ s,CellM (Ms s)] (ok:List α→σ→Prop) (okx:Option Nat→List α→σ→Prop) (s0:σ) (hE:E.R=none) (hg:aH Γ g=some (jM gf cs)) (h0:ok [] s0) (hm:SubM M (Ms s0))
  (hp:Nat.ble (p+1) E.N=true) (hq:Nat.ble (q+1) E.N=true) (hnd:f6 body=true)
  (hround : ∀ (l:Nat) (W:World) (pre:List α) (x:α) (s:σ),ok pre s→pre.length<N →
   J P ⟨W,E.O,aZ (Ms s),E.N,some l⟩ [] ((q,one (enc x)) :: (p,one (enc x)) :: Γ) (Ms s) body (xe ⟨W,E.O,aZ (Ms s),E.N,some l⟩ Ms ok okx (pre ++ [x])))
  (hdone : ∀ (xs:List α) (s:σ) (b:Nat),S xs→ok xs s→PJ E [pL b] Γ (dfO b :: Ms s) .normal Q)
  (hret : ∀ (pre:List α) (s:σ) (b:Nat),Sp pre→okx none pre s→PJ E [pL b] Γ (dfO b :: Ms s) .ret Q)
  (hexit : ∀ (id:Nat) (pre:List α) (s:σ) (b:Nat),Sp pre→okx (some id) pre s→PJ E [pL b] Γ (dfO b :: Ms s) (.exit id) Q) :
  J P E [] Γ M (.rangeFunc g #[p] (.region id #[⟨some q, .assign (.tmp p),T,pos, #[],none⟩] false) body) Q:=by
 intro a w hS hok
 have hpb:c6 body=true:=by
  have:=hok.plain
  simp only [c6,Bool.and_eq_true] at this
  exact this.2
 rw [hE]
 obtain ⟨ca,hg0,hca⟩:=cr hS hg
 have hp:=Nat.le_of_ble_eq_true hp
 have hq:=Nat.le_of_ble_eq_true hq
 have hdf:a.defers = []:=hS.df
 refine Co.wpX_rangeFunc (fun l => ?_) fun fn w₀ h₀ => ?_
 ·show Co.Plain P (Sem.bind (Deferred.ofValue (a.eval g) _) _)
  rw [hg0]; exact hF.plain _
 replace hS:=hS.ext h₀
 replace hca:=eM (ia (Ext.view h₀)) hca
 clear h₀
 obtain ⟨rec,hrec⟩ : ∃ rec:LoopState→Option Code→Loop,rec=fun st pe => { state:=st,pending:=pe,fn,tmps:=a.tmps,params := #[p],assign := .region id #[⟨some q, .assign (.tmp p),T,pos, #[],none⟩] false,body,defers:=w₀.heap.size } := ⟨_,rfl⟩
 obtain ⟨W1,hW1⟩ : ∃ W1,(w₀.alloc (.deferred (some []))).alloc (.loop (rec .ready none))=W1:=⟨_,rfl⟩
 have hL1:W1.heap[w₀.heap.size+1]? = some (.loop (rec .ready none)):=by
  rw [← hW1]; have:=World.alloc_heap_new (w₀.alloc (.deferred (some []))) (.loop (rec .ready none));rwa [World.size_alloc] at this
 have hK1:W1.heap[w₀.heap.size]? = some (.deferred (some [])):=by
  rw [← hW1]; exact (Below.heap_alloc _ _ _ (by simp)).trans (World.alloc_heap_new w₀ _)
 have hx1:Ext w₀ W1:=by
  rw [← hW1]; exact ((Below.refl _ w₀).alloc (Nat.le_refl _) _).alloc (by simp) _
 obtain ⟨E0,hE0⟩ : ∃ E0:Env,E0=⟨w₀,E.O,aZ M,E.N,none⟩:=⟨_,rfl⟩
 have hS0:St E0 [] Γ M a w₀:=by rw [hE0]; exact ⟨⟨hS.base.mem,hS.base.nd,hS.base.dis,fun b hb => .inr hb,hS.base.ex,Fr.refl _ _⟩,hS.sz,hS.df,hS.tm⟩
 have put : ∀ (s:σ) (W:World) (l:Nat) (o o':Obj),w₀.heap.size≤l→W.heap[l]? = some o→o.isCells=false→St E0 [] Γ (Ms s) a W→St E0 [] Γ (Ms s) a (W.putObj l o'):=fun s W l o o' hl ho hc' h =>
  St.grown (hc s) h (grownBy_putObj' W l o') (by rw [hE0]; exact Nat.le_refl _) fun r e=>by cases e;exact ⟨hl,o,ho,hc'⟩
 obtain ⟨Jr,hJr⟩ : ∃ Jr:List α→World→Prop,Jr=fun pre W=>(∃ s,ok pre s∧St E0 [] Γ (Ms s) a W)∧W.heap[w₀.heap.size+1]? = some (.loop (rec .ready none))∧W.heap[w₀.heap.size]? = some (.deferred (some [])):=⟨_,rfl⟩
 obtain ⟨Jx,hJx⟩ : ∃ Jx:List α→World→Prop,Jx=fun pre W => ∃ (id:Option Nat) (c:Code),c=(match id with | none => .ret | some i => .exit i)∧(∃ s,okx id pre s∧St E0 [] Γ (Ms s) a W)∧W.heap[w₀.heap.size+1]? = some (.loop (rec .done (some c)))∧W.heap[w₀.heap.size]? = some (.deferred (some [])):=⟨_,rfl⟩
 have lt : ∀ {W:World} {k:Nat} {o:Obj},W.heap[k]? = some o→k<W.heap.size:=fun h=>(Array.getElem?_eq_some_iff.1 h).1
 have key:=hit W1 E.O ca (fun b hb=>Nat.lt_of_lt_of_le (hS.base.ex b (List.mem_append.2 (.inl hb))) hx1.size)
  (by
   refine eM (fun b x e => ?_) hca
   obtain ⟨h1,h2⟩:=de e
   exact eX (fun h=>h1 (List.mem_append.2 (.inl h))) (Ext.view hx1 _ _ h2)) (w₀.heap.size+1) Jr Jx
  (fun s W W' h k=>by
   subst hJr
   obtain ⟨⟨s,h1,h2⟩,h3,h4⟩:=h
   exact ⟨⟨s,h1,h2.ext k⟩,(k.block _ (lt h3)).trans h3,(k.block _ (lt h4)).trans h4⟩)
  (fun s W W' h k=>by
   subst hJx
   obtain ⟨id,c,hc',⟨s,h1,h2⟩,h3,h4⟩:=h
   exact ⟨id,c,hc',⟨s,h1,h2.ext k⟩,(k.block _ (lt h3)).trans h3,(k.block _ (lt h4)).trans h4⟩)
  ?_ (by subst hJr;exact ⟨⟨s0,h0,(hS0.ext hx1).sub (dR.refl _) hm⟩,hL1,hK1⟩)
 ·refine ⟨w₀.heap.size+1, [pL w₀.heap.size],W1, { target := .fn (.func gf) ca.toArray,args := #[.func (.yield (w₀.heap.size+1)) #[] #[]] },gf, #[.func (.yield (w₀.heap.size+1)) #[] #[]] ++ ca.toArray,?_,?_,?_,?_⟩
  ·rw [← hW1,hrec]; exact run_enterLoop_outer _ _ _ _ _
  ·have hg0:a.eval g = .func (.func gf) #[] ca.toArray:=hg0
   simp only [resolve,hg0]
   simp [go_sem]
  ·exact hF.run (#[.func (.yield (w₀.heap.size+1)) #[] #[]] ++ ca.toArray) W1
  ·have he:(#[Value.func (.yield (w₀.heap.size+1)) #[] #[]] ++ ca.toArray)=(Value.func (.yield (w₀.heap.size+1)) #[] #[] :: ca).toArray:=by simp
   rw [he]
   refine key.mono ?_
   rintro e W3 ⟨⟨v,rfl⟩,h⟩ W4 k4
   have fin : ∀ (s:σ) (W:World),W.heap[w₀.heap.size]? = some (.deferred (some []))→St E0 [] Γ (Ms s) a W→St E [pL w₀.heap.size] Γ (dfO w₀.heap.size :: Ms s) { a with defers := [pL w₀.heap.size] ++ a.defers } W:=fun s W hh hs =>
    St.mark (hc s) ((hE0▸hs).from_ hS.base) hS.base.fr.size (fun h=>by have:=hS.base.ex _ (List.mem_append.2 (.inl h));omega) hh
   rcases h with ⟨xs,hxs,hj⟩ | ⟨pre,hsp,hj⟩
   ·subst hJr
    obtain ⟨⟨s,h1,h2⟩,h3,h4⟩:=hj
    replace h3:=(k4.block _ (lt h3)).trans h3
    replace h4:=(k4.block _ (lt h4)).trans h4
    refine ⟨none,_,by have:=run_endLoop (P:=P) h3 (by rw [hrec]; simp);rw [hrec] at this;exact this,?_⟩
    exact hdone xs s _ hxs h1 _ _ (fin s _ ((World.putObj_heap_other X).trans h4) (put s W4 _ _ _ X h3 Z (h2.ext k4)))
   ·subst hJx
    obtain ⟨id,c,hc',⟨s,h1,h2⟩,h3,h4⟩:=hj
    replace h3:=(k4.block _ (lt h3)).trans h3
    replace h4:=(k4.block _ (lt h4)).trans h4
    refine ⟨some c,W4.putObj (w₀.heap.size+1) (.loop { rec .done (some c) with state := .exhausted }),by have:=run_endLoop (P:=P) h3 (by rw [hrec]; simp);rw [hrec] at this ⊢; exact this,?_⟩
    have hfin:=fin s (W4.putObj (w₀.heap.size+1) (.loop { rec .done (some c) with state := .exhausted })) ((World.putObj_heap_other X).trans h4) (put s W4 _ _ _ X h3 Z (h2.ext k4))
    cases id with
    | none => obtain rfl : c = .ret := hc'; exact Co.wpX_ret (hret pre s _ hsp h1 _ _ hfin)
    | some i => obtain rfl : c = .exit i := hc'; exact Co.wpX_exit (hexit i pre s _ hsp h1 _ _ hfin)
 -- a round
 rintro pre x W hj hlen
 subst hJr
 obtain ⟨⟨s,hs,hSs⟩,hl,hk⟩:=hj
 have hlt:=lt hl
 have hy:=run_yield (P:=P) (args := #[enc x]) hl (by rw [hrec]; rfl)
 rw [hrec] at hy
 refine ⟨fn,_,_,body,hy,Co.roundX_of ?_⟩
 refine Co.wpX_region (OkC.ops (R:=some (w₀.heap.size+1)) (k:=id) (d:=false) ⟨.inr (by simp [f6,mS]),by simp [c6,Co.plainK,Co.freeK]⟩) ?_
 have e1:List.range (#[(⟨some q, .assign (.tmp p),T,pos, #[],none⟩:Oper)]).size = [0]:=rfl
 rw [e1]
 intro W2 k2
 have hv':(a.tmps.setIfInBounds p (enc x)).getD p undef=enc x:=by
  have:=hS.sz
  simp [Array.getD_eq_getD_getElem?,show p<a.tmps.size by omega]
 have hstep : ∀ K:Act→World→Prop,K (Act.put { tmps:=a.tmps.setIfInBounds p (enc x),defers := [] } (some q) (enc x)) W2→Co.wpOpX P #[(⟨some q, .assign (.tmp p),T,pos, #[],none⟩:Oper)] 0 K { tmps:=a.tmps.setIfInBounds p (enc x),defers := [] } W2:=fun K hK=>by
  unfold Co.wpOpX
  simp only [List.getElem?_toArray,List.getElem?_cons_zero]
  rw [if_pos (cU Z)]
  refine ⟨fun h=>(by cases h),?_⟩
  have e2:(execOp (Act.eval { tmps:=a.tmps.setIfInBounds p (enc x),defers := [] }) ⟨some q, .assign (.tmp p),T,pos, #[],none⟩).run P W2 = .ok (.value (enc x)) W2:=by simp [execOp,Act.eval,hv']
  rw [e2]; exact hK
 have e3:(Array.foldl (fun tmps (x:Tmp × Value)=>tmps.setIfInBounds x.1 x.2) a.tmps (Array.zip #[p] #[enc x]))=a.tmps.setIfInBounds p (enc x):=by simp
 simp only [Co.wpOpsX]
 have e4 : ∀ K:Act→World→Prop,K (Act.put { tmps:=a.tmps.setIfInBounds p (enc x),defers := [] } (some q) (enc x)) W2→Co.wpOpX P #[(⟨some q, .assign (.tmp p),T,pos, #[],none⟩:Oper)] 0 K { tmps:=Array.foldl (fun tmps (x:Tmp × Value)=>tmps.setIfInBounds x.1 x.2) a.tmps (Array.zip #[p] #[enc x]),defers := [] } W2:=fun K hK=>by rw [e3]; exact hstep K hK
 refine e4 _ ?_
 show ∀ w₂,Co.Grow W2 w₂→_
 intro W3 k3
 replace k3:=k2.trans k3
 replace hl:=(k3.block _ hlt).trans hl
 replace hk:=(k3.block _ (lt hk)).trans hk
 replace hSs:=hSs.ext k3
 have hs13:=SameW.ofExt k3
 clear hlt k2 k3 hstep hy
 have hlt:=lt hl
 refine ⟨_,run_beginRound hl (by rw [hrec]),?_⟩
 have hl2:(W3.putObj (w₀.heap.size+1) (.loop { rec .ready none with state := .busy })).heap[w₀.heap.size+1]? = some (.loop { rec .ready none with state := .busy }):=World.putObj_heap_same hlt
 have hk2:(W3.putObj (w₀.heap.size+1) (.loop { rec .ready none with state := .busy })).heap[w₀.heap.size]? = some (.deferred (some [])):=(World.putObj_heap_other X).trans hk
 have hSp:=put s W3 (w₀.heap.size+1) _ (.loop { rec .ready none with state := .busy }) X hl Z hSs
 have hs14:=hs13.trans (SameW.put (W:=W3) (l:=w₀.heap.size+1) (o := .loop { rec .ready none with state := .busy }))
 generalize hW4:W3.putObj (w₀.heap.size+1) (.loop { rec .ready none with state := .busy })=W4 at hl2 hk2 hSp hs14 ⊢
 have hsz:=hSp.sz
 have hS1:St ⟨W4,E.O,aZ (Ms s),E.N,some (w₀.heap.size+1)⟩ [] Γ (Ms s) { tmps:=a.tmps,defers := [] } W4:=by
  have hSp:=hE0▸hSp
  exact ⟨⟨hSp.base.mem,hSp.base.nd,hSp.base.dis,fun b hb => .inr hb,hSp.base.ex,Fr.refl _ _⟩,hSp.sz,rfl,hSp.tm⟩
 have hS2:=(hS1.put (Ext.refl W4) (d:=p) hp (ψ:=one (enc x)) (v:=enc x) Z).put (Ext.refl W4) (d:=q) hq (ψ:=one (enc x)) (v:=enc x) Z
 refine Co.wpX_mono (hround (w₀.heap.size+1) W4 pre x s hs hlen _ W4 hS2 ⟨.inr hnd,hpb⟩) ?_
 have keep : ∀ (s':σ) (a':Act) (W' W'':World) (j:Option Code),St ⟨W4,E.O,aZ (Ms s),E.N,some (w₀.heap.size+1)⟩ [] [] (Ms s') a' W'→Ext W' W'' →
   (Instr.endRound (w₀.heap.size+1) j).run P W'' = .ok (.bool j.isNone) (W''.putObj (w₀.heap.size+1) (.loop (rec (if j.isNone then .ready else .done) j))) ∧
   St E0 [] Γ (Ms s') a (W''.putObj (w₀.heap.size+1) (.loop (rec (if j.isNone then .ready else .done) j)))∧SameW W (W''.putObj (w₀.heap.size+1) (.loop (rec (if j.isNone then .ready else .done) j))) ∧
   (W''.putObj (w₀.heap.size+1) (.loop (rec (if j.isNone then .ready else .done) j))).heap[w₀.heap.size+1]? = some (.loop (rec (if j.isNone then .ready else .done) j)) ∧
   (W''.putObj (w₀.heap.size+1) (.loop (rec (if j.isNone then .ready else .done) j))).heap[w₀.heap.size]? = some (.deferred (some [])):=by
  intro s' a' W' W'' j h' k'
  have nc : ∀ {k:Nat} {o:Obj},W4.heap[k]? = some o→o.isCells=false→W''.heap[k]? = some o:=fun {k o} hk ho=>by
   have h1:W'.heap[k]? = W4.heap[k]? := h'.base.fr.block k (lt hk) fun hm'=>by
    obtain ⟨c,T,f,e⟩:=(hc s).get hSp.base hm'
    rw [hk] at e;cases e;cases ho
   exact (k'.block k (lt (h1.trans hk))).trans (h1.trans hk)
  have hl3:=nc hl2 Z
  have hk3:=nc hk2 Z
  have h5:St E0 [] Γ (Ms s') a W':=by
   have:=(hE0▸hSp).slots h'
   rw [hE0]; exact this
  refine ⟨?_,put s' W'' _ _ _ X hl3 Z (h5.ext k'),?_,World.putObj_heap_same (lt hl3),(World.putObj_heap_other X).trans hk3⟩
  ·have:=run_endRound (P:=P) j hl3
   rw [hrec] at this ⊢
   exact this
  ·exact ((hs14.trans ⟨h'.base.fr.os,h'.base.fr.tape,h'.base.fr.output,h'.base.fr.size⟩).trans (SameW.ofExt k')).trans SameW.put
 rintro e a' W' hp'
 cases e with
 | normal =>
  obtain ⟨s',h1,h2⟩:=hp'
  intro W'' k'
  obtain ⟨q1,q2,q3,q4,q5⟩:=keep s' a' W' W'' none h2 k'
  exact ⟨_,_,q1, .inl ⟨rfl,⟨⟨s',h1,q2⟩,q4,q5⟩,q3⟩⟩
 | ret =>
  obtain ⟨s',h1,h2⟩:=hp'
  intro W'' k'
  obtain ⟨q1,q2,q3,q4,q5⟩:=keep s' a' W' W'' (some .ret) h2 k'
  subst hJx
  exact ⟨_,_,q1, .inr ⟨rfl,none,_,rfl,⟨s',h1,q2⟩,q4,q5⟩⟩
 | exit i =>
  obtain ⟨s',h1,h2⟩:=hp'
  intro W'' k'
  obtain ⟨q1,q2,q3,q4,q5⟩:=keep s' a' W' W'' (some (.exit i)) h2 k'
  subst hJx
  exact ⟨_,_,q1, .inr ⟨rfl,some i,_,rfl,⟨s',h1,q2⟩,q4,q5⟩⟩
 | _ => exact hp'.elim
/-! ### The end of a round -/
section
variable {α σ:Type} {Ms:σ→Mem} {ok:List α→σ→Prop} {okx:Option Nat→List α→σ→Prop} {pre:List α}
theorem q0 (s:σ) (h:ok pre s) (hm:SubM M (Ms s)):PJ E [] Γ M .normal (xe E Ms ok okx pre):=fun a w hS=>⟨s,h,hS.sub .nil hm⟩
theorem ul (s:σ) (h:okx none pre s) (hm:SubM M (Ms s)):PJ E [] Γ M .ret (xe E Ms ok okx pre):=fun a w hS=>⟨s,h,hS.sub .nil hm⟩
end
/-! ### The functions that range -/
abbrev jD (P:Program) (fn:Func) (R:Ending→World→Prop):Exit→Act→World→Prop:=Co.bodyXM P fn R
theorem mG {b:Nat} {fn:Func} {R:Ending→World→Prop} (h:PJ E [] Γ M .ret (cL P fn R)):PJ E [pL b] Γ (dfO b :: M) .ret (jD P fn R):=by
 intro a w hS
 refine .inr ⟨b, #[],hS.df,fun w₁ k₁ => ?_⟩
 replace hS:=hS.ext k₁
 have hh:w₁.heap[b]? = some (.deferred (some [])):=hS.base.mem (dfO b) (by simp)
 have hnd:=List.nodup_cons.1 (show (b :: aZ M).Nodup from hS.base.nd)
 have hbO:b ∉ E.O:=hS.base.dis b (by simp [dfO])
 have hne : ∀ k,k≠b→(w₁.putObj b (.deferred none)).heap[k]? = w₁.heap[k]? := fun k hk=>World.putObj_heap_other hk
 have hle:Hp.le (hv E (dfO b :: M) w₁) (hv E M (w₁.putObj b (.deferred none))):=by
  intro x y e
  obtain ⟨h1,h2⟩:=de e
  have hx:x≠b:=fun e=>h1 (List.mem_append.2 (.inr (by simp [dfO,e])))
  refine eX (fun h=>h1 ?_) (by rw [gR (hne x hx)]; exact h2)
  rcases List.mem_append.1 h with h | h
  ·exact List.mem_append.2 (.inl h)
  ·exact List.mem_append.2 (.inr (List.mem_cons_of_mem (a:=x) b h))
 have hS':St E [] Γ M { a with defers := [] } (w₁.putObj b (.deferred none)):=by
  refine ⟨⟨fun o ho=>o.loc (fun x hx => ?_) hle (hS.base.mem o (List.mem_cons_of_mem _ ho)),hnd.2,fun x hx=>hS.base.dis x (List.mem_cons_of_mem (a:=x) b hx),
   fun x hx=>hS.base.lo x (List.mem_cons_of_mem (a:=x) b hx),fun x hx => ?_,?_⟩,hS.sz,rfl,fun t φ ht=>φ.mono hle (hS.tm t φ ht)⟩
  ·exact (hne x fun e=>hnd.1 (e▸cN ho hx)).symm
  ·rw [World.putObj_size]
   refine hS.base.ex x ?_
   rcases List.mem_append.1 hx with h | h
   ·exact List.mem_append.2 (.inl h)
   ·exact List.mem_append.2 (.inr (List.mem_cons_of_mem (a:=x) b h))
  ·have hf:=hS.base.fr
   refine ⟨hf.os,hf.tape,hf.output,by simpa using hf.size,fun k hk hn=>(hne k fun e => ?_).trans (hf.block k hk hn)⟩
   subst e
   rcases hS.base.lo k (by simp [dfO]) with h1 | h1
   ·omega
   ·exact hn h1
 obtain ⟨_,hR⟩:=h _ _ hS'
 exact ⟨_,run_takeDeferred hh,hR⟩
theorem vp {fn:Func} {R:Ending→World→Prop} (h:PJ E [] Γ M .ret (cL P fn R)):PJ E [] Γ M .ret (jD P fn R):=fun a w hS => .inl ⟨(h a w hS).2,(h a w hS).1⟩
theorem A3 {f:FuncId} {fn:Func} {c:Code} {N:Nat} {w:World} {O:List Nat} {φs:List VT} {vs:List Value} {R:Ending→World→Prop}
  (hf:P.funcs[f]? = some fn) (hb:fn.body=some c) (hN:fn.ntmps=N) (hO : ∀ b∈O,b<w.heap.size) (hv':fB φs vs (hid O (view w))) (hle:φs.length≤N)
  (h:J P ⟨w,O, [],N,none⟩ [] (fW 0 φs) [] c (jD P fn R)) (hpl:c6 c=true:=by kernel_rfl):jO P f vs.toArray w R:=by
 have hl:=ib hv'
 refine Co.callsXM_of hf hb (h _ w ⟨⟨by simp,by simp,by simp,by simp,?_,Fr.refl _ _⟩,?_,rfl,?_⟩ ⟨.inl Z,hpl⟩)
 ·intro b hb';exact hO b (by simpa using hb')
 ·simp [hN]; omega
 ·intro t φ e
  obtain ⟨v,_,h2,h3⟩:=eQ e hv'
  have h4:hv ⟨w,O, [],N,none⟩ [] w=hid O (view w):=by simp [hv]
  rw [h4]
  rw [Nat.sub_zero] at h2
  have hlt:=(List.getElem?_eq_some_iff.1 h2).1
  rw [Array.getD_eq_getD_getElem?,Array.getElem?_append_left (by simpa using hlt)]
  simpa [h2] using h3
theorem Ok.enterR {f:FuncId} {fn:Func} {c:Code} {N:Nat} {φs:List VT} {ψ:VT} (hf:P.funcs[f]? = some fn) (hb:fn.body=some c) (hN:fn.ntmps=N) (hle:Nat.ble φs.length N=true)
  (h : ∀ (w:World) (O:List Nat),J P ⟨w,O, [],N,none⟩ [] (fW 0 φs) [] c (jD P fn (Ret O ψ w))) (hpl:c6 c=true:=by kernel_rfl):Ok P f φs ψ :=
 fun w O vs hO hv=>Tor.A3 hf hb hN hO hv (Nat.le_of_ble_eq_true hle) (h w O) hpl
end
end Tor
end
section
namespace Tor
open Go Go.RowKit
variable [Tor.Co.Kc]
def yO (W:World):Own where
 bl:=List.range W.heap.size
 p g _ := ∀ b,b<W.heap.size→g b=W.heap[b]?
 loc:=fun he _ H b hb=>(he b (List.mem_range.2 hb)).symm.trans (H b hb)
def jN (W:World) (N:Nat):Env:=⟨W, [],List.range W.heap.size,N,none⟩
def oF (Γ:Ctx):Prop := ∀ t φ,bI Γ t=some φ → ∃ v, φ=one v
theorem oF.nil:oF []:=fun t φ h=>by cases h
theorem oF.cons {t:Nat} {v:Value} {Γ:Ctx} (h:oF Γ):oF ((t,one v) :: Γ):=fun s φ e=>by
 rw [a7] at e
 split at e
 ·cases e;exact ⟨v,rfl⟩
 ·exact h s φ e
section
variable {P:Program} {E:Env} {D:List Deferred} {Γ:Ctx} {M:Mem} {Q:Exit→Act→World→Prop} {a:Act} {w W w1:World} {N:Nat}
theorem St.tY (hS:St E D Γ M a w) {Γk:Ctx} (hg:dR Γ Γk) (hf:oF Γk) (W0 W':World) (hs:SameW W0 W'):St (jN W0 E.N) D Γk [yO W'] a W':=by
 refine ⟨⟨fun o ho => ?_,by simpa [yO] using List.nodup_range,fun b _=>by simp [jN],fun b _ => ?_,fun b hb => ?_,?_⟩,hS.sz,hS.df,fun t φ ht => ?_⟩
 ·rw [List.mem_singleton.1 ho]; exact fun b _=>rfl
 ·rcases Nat.lt_or_ge b W0.heap.size with h | h
  ·exact .inr (List.mem_range.2 h)
  ·exact .inl h
 ·simpa [jN,yO] using hb
 ·exact ⟨hs.os,hs.tape,hs.output,hs.size,fun k hk hn=>absurd (List.mem_range.2 hk) hn⟩
 ·obtain ⟨φ',h1,h2⟩:=hg t φ ht
  obtain ⟨v,rfl⟩:=hf t φ ht
  have:=h2 _ _ (hS.tm t φ' h1)
  exact this
theorem St.extY (hS:St (jN w1 N) D Γ [yO W] a w) (hs:SameW w1 W):Ext W w:=by
 have hf:=hS.base.fr
 have hm : ∀ b,b<W.heap.size→w.heap[b]? = W.heap[b]? := hS.base.mem (yO W) (by simp)
 refine ⟨hf.os.trans hs.os.symm,hf.tape.trans hs.tape.symm,hf.output.trans hs.output.symm,?_,fun k hk=>hm k hk⟩
 rcases Nat.eq_zero_or_pos W.heap.size with h | h
 ·omega
 ·have:=hS.base.ex (W.heap.size - 1) (by simp [jN,yO]; omega)
  omega
theorem q7 {β:Type} {J:β→World→Prop} (hJ:jf J) {s:β} (h:J s W) (k:Ext W w):J s w:=hJ s W w h k
variable {ops:Array Oper}
section
variable {α:Type} {l:Nat} {enc:α→Value} {J Jx:List α→World→Prop} {Nr:Nat} {S Sp:List α→Prop}
theorem xf {P:Program} (l:Nat) (args:Array Value):Co.Plain P (Instr.yield l args):=by
 unfold Instr.yield
 refine (Co.pl_getLoop l).bind fun r => ?_
 split
 ·exact (Co.pl_stk _).bind fun _=>Co.pl_ret _
 ·exact Co.pl_ret _
theorem xg {id m d:Nat} {t x:Operand} {ats:Array TypeId} {ty:TypeId} {pos:String} {af:Array Edge} {pre:List α} (v:α) (Γk:Ctx) (hY:pM P l enc J Jx Nr) (hA:jf J) (hs:SameW w1 W) (hJ:J pre W) (hlen:pre.length<Nr)
  (hm:ops[m]? = some ⟨some d, .call ⟨.value t, #[x],ats⟩,ty,pos,af,none⟩) (hd:Nat.ble (d+1) N=true) (hf:oF Γk)
  (h:Run P (jN w1 N) ops false 0 [] Γ [yO W] (ops.toList.take m) (fun D' Γ' M'=>D' = []∧M' = [yO W]∧aH Γ' t=some (one (.func (.yield l) #[] #[]))∧aH Γ' x=some (one (enc v))∧dR Γ' Γk))
  (h1 : ∀ W',J (pre ++ [v]) W'→SameW w1 W'→Run P (jN w1 N) ops false (m+1) [] ((d,one (.bool true)) :: Γk) [yO W'] (ops.toList.drop (m+1)) (fun D' Γ' M'=>PJ (jN w1 N) D' Γ' M' .normal Q))
  (h2 : ∀ W',Jx (pre ++ [v]) W'→Run P (jN W' N) ops false (m+1) [] ((d,one (.bool false)) :: Γk) [yO W'] (ops.toList.drop (m+1)) (fun D' Γ' M'=>PJ (jN W' N) D' Γ' M' .normal Q)) :
  Tor.J P (jN w1 N) [] Γ [yO W] (.region id ops false) Q:=by
 intro a w hS hok
 have hlt:m<ops.size:=(Array.getElem?_eq_some_iff.1 hm).1
 have hd:=Nat.le_of_ble_eq_true hd
 refine Co.wpX_region hok.ops ?_
 have e:List.range ops.size=List.range' 0 (ops.toList.take m).length ++ (m :: List.range' (m+1) (ops.size - (m+1))):=by
  rw [List.range_eq_range',show (ops.toList.take m).length=m by simp;omega, ← List.range'_succ,show ops.size - (m+1)+1=ops.size - m by omega]
  have := @List.range'_append 0 m (ops.size - m) 1
  simp only [Nat.one_mul,Nat.zero_add] at this
  rw [this]; congr 1;omega
 rw [e]
 refine h.seq (Q .normal) _ (fun j hj => ?_) (fun D' Γ' M' a w hK hS => ?_) a w hS
 ·have hj':j<m:=by simp at hj;omega
  simp [List.getElem?_take,hj']
 ·obtain ⟨rfl,rfl,ht,hx,hg⟩:=hK
  intro w' k'
  replace hS:=hS.ext k'
  have e1:=cr hS ht
  have e2:=cr hS hx
  have e1:a.eval t = .func (.yield l) #[] #[]:=e1
  have e2:a.eval x=enc v:=e2
  obtain ⟨fn,tmps,assign,body,hy,hR⟩:=hY pre v w' (q7 hA hJ (hS.extY hs)) hlen
  have tail : ∀ (E':Env) (b:Bool) (a':Act) (W':World),St E' [] ((d,one (.bool b)) :: Γk) [yO W'] a' W' →
    Run P E' ops false (m+1) [] ((d,one (.bool b)) :: Γk) [yO W'] (ops.toList.drop (m+1)) (fun D' Γ' M'=>PJ E' D' Γ' M' .normal Q) →
    Co.wpOpsX P ops (Q .normal) (List.range' (m+1) (ops.size - (m+1))) a' W':=by
   intro E' b a' W' hS' hr
   have:=hr.seq (Q .normal) [] (fun j _=>by simp [List.getElem?_drop]) (fun D' Γ' M' a w hK hS=>hK a w hS) a' W' hS'
   simpa using this
  unfold Co.wpOpX
  simp only [hm]
  rw [if_pos (cU Z)]
  refine ⟨fun _ => ?_,?_⟩
  ·show Co.Plain P (Sem.bind (Deferred.ofValue (a.eval t) _) _)
   rw [e1]; exact xf _ _
  have hr:(execOp a.eval ⟨some d, .call ⟨.value t, #[x],ats⟩,ty,pos,af,none⟩).run P w' = .ok (.round l fn tmps assign body) w':=by
   simpa [execOp,resolve,Deferred.ofValue,invoke,e1,e2] using hy
  rw [hr]
  refine fun c m cs Stop hc=>hR c m cs Stop fun v' W' hq=>hc v' W' ?_
  rcases hq with ⟨he,hJ',hk⟩ | ⟨he,hJx'⟩
  ·cases he
   have hw:SameW w1 W':=⟨hk.os.trans hS.base.fr.os,hk.tape.trans hS.base.fr.tape,hk.output.trans hS.base.fr.output,Nat.le_trans hS.base.fr.size hk.size⟩
   exact tail (jN w1 N) true _ W' ((hS.tY hg hf w1 W' hw).put (Ext.refl _) (d:=d) (show d<N from hd) (ψ:=one (.bool true)) Z) (h1 W' hJ' hw)
  ·cases he
   exact tail (jN W' N) false _ W' ((hS.tY hg hf W' W' (SameW.refl _)).put (Ext.refl _) (d:=d) (show d<N from hd) (ψ:=one (.bool false)) Z) (h2 W' hJx')
theorem q8 {fn:Func} (hr:fn.results = #[]) (hA:jf J) {xs:List α} (hJ:J xs W) (hS:S xs) (hs:SameW w1 W):PJ (jN w1 N) [] Γ [yO W] .normal (cL P fn (RY S Sp J Jx)):=by
 intro a w hSt
 exact ⟨hSt.df,fun w₁ k₁=>⟨.tuple #[],by simp [results,hr],⟨_,rfl⟩, .inl ⟨xs,hS,q7 hA hJ ((hSt.extY hs).trans k₁)⟩⟩⟩
theorem q9 {fn:Func} (hr:fn.results = #[]) (hA:jf Jx) {pre:List α} (hJ:Jx pre W) (hS:Sp pre) (hs:SameW w1 W):PJ (jN w1 N) [] Γ [yO W] .ret (cL P fn (RY S Sp J Jx)):=by
 intro a w hSt
 exact ⟨hSt.df,fun w₁ k₁=>⟨.tuple #[],by simp [results,hr],⟨_,rfl⟩, .inr ⟨pre,hS,q7 hA hJ ((hSt.extY hs).trans k₁)⟩⟩⟩
theorem AE {c:Code} (Γk:Ctx) {w0:World} (hg:dR Γ Γk) (hf:oF Γk) (h : ∀ w,Ext w0 w→Tor.J P (jN w N) [] Γk [yO w] c Q):Tor.J P ⟨w0, [], [],N,none⟩ [] Γ M c Q :=
 fun a w hS=>h w hS.base.fr.toExt a w (hS.tY hg hf w w (SameW.refl _))
theorem OkY.enter {f:FuncId} {fn:Func} {c:Code} {N:Nat} {cs:List VT} (hf:P.funcs[f]? = some fn) (hb:fn.body=some c) (hN:fn.ntmps=N) (hle:Nat.ble (cs.length+1) N=true)
  (h : ∀ (w0:World) (l:Nat) (J Jx:List α→World→Prop) (B:Nat),jf J→jf Jx→pM P l enc J Jx Nr→J [] w0 →
   Tor.J P ⟨w0, [], [],N,none⟩ [] ((0,one (.func (.yield l) #[] #[])) :: fW 1 cs) [] c (cL P fn (RY S Sp J Jx))) (hpl:c6 c=true:=by kernel_rfl):OkY P f cs enc S Sp Nr:=by
 intro w O ca hO hca l J Jx hA hAx hY h0
 have hv':fB (one (.func (.yield l) #[] #[]) :: cs) (.func (.yield l) #[] #[] :: ca) (hid [] (view w)):=by
  refine ⟨rfl,eM (fun b x e => ?_) hca⟩
  obtain ⟨h1,h2⟩:=de e
  exact eX (by simp) h2
 exact Tor.enter (R:=RY S Sp J Jx) hf hb hN (O := []) (by simp) hv' (Nat.le_of_ble_eq_true hle) (h w l J Jx 0 hA hAx hY h0) hpl
end
end
end Tor
end
section
set_option maxRecDepth 100000
namespace Tor
open Go Go.Proofs
variable [Tor.Co.Kc]
instance:LayOf Tryz.prog 2 (.one):=⟨by kernel_rfl,by kernel_rfl⟩
instance:LayOf Tryz.prog 3 (.one):=⟨by kernel_rfl,by kernel_rfl⟩
instance:LayOf Tryz.prog 4 (.one):=⟨by kernel_rfl,by kernel_rfl⟩
instance:LayOf Tryz.prog 5 (.one):=⟨by kernel_rfl,by kernel_rfl⟩
instance:LayOf Tryz.prog 22 (.one):=⟨by kernel_rfl,by kernel_rfl⟩
instance:LayOf Tryz.prog 24 (.agg 3):=⟨by kernel_rfl,by kernel_rfl⟩
instance:LayOf Tryz.prog 26 (.one):=⟨by kernel_rfl,by kernel_rfl⟩
instance:LayOf Tryz.prog 28 (.agg 2):=⟨by kernel_rfl,by kernel_rfl⟩
instance:LayOf Tryz.prog 33 (.one):=⟨by kernel_rfl,by kernel_rfl⟩
instance:LayOf Tryz.prog 35 (.agg 3):=⟨by kernel_rfl,by kernel_rfl⟩
instance:LayOf Tryz.prog 39 (.one):=⟨by kernel_rfl,by kernel_rfl⟩
instance:LayOf Tryz.prog 46 (.one):=⟨by kernel_rfl,by kernel_rfl⟩
instance:LayOf Tryz.prog 47 (.one):=⟨by kernel_rfl,by kernel_rfl⟩
instance:LayOf Tryz.prog 50 (.agg 2):=⟨by kernel_rfl,by kernel_rfl⟩
instance:LayOf Tryz.prog 58 (.one):=⟨by kernel_rfl,by kernel_rfl⟩
instance:LayOf Tryz.prog 65 (.one):=⟨by kernel_rfl,by kernel_rfl⟩
instance:LayOf Tryz.prog 83 (.one):=⟨by kernel_rfl,by kernel_rfl⟩
instance:LayOf Tryz.prog 93 (.one):=⟨by kernel_rfl,by kernel_rfl⟩
instance:LayOf Tryz.prog 95 (.agg 3):=⟨by kernel_rfl,by kernel_rfl⟩
instance:IntOf Tryz.prog 2 .i64:=⟨by kernel_rfl⟩
instance:IntOf Tryz.prog 3 .i64:=⟨by kernel_rfl⟩
instance:BoolOf Tryz.prog 4:=⟨by kernel_rfl⟩
instance:IntOf Tryz.prog 5 .u8:=⟨by kernel_rfl⟩
instance:SliceOf Tryz.prog 22 65:=⟨by kernel_rfl⟩
instance:FieldOf Tryz.prog 24 0 0 (.one):=FieldOf.by_info (ft:=5) inferInstance Y U
instance:FieldOf Tryz.prog 24 2 2 (.one):=FieldOf.by_info (ft:=22) inferInstance Y U
instance:SliceOf Tryz.prog 26 83:=⟨by kernel_rfl⟩
instance:FieldOf Tryz.prog 28 0 0 (.one):=FieldOf.by_info (ft:=4) inferInstance Y U
instance:FieldOf Tryz.prog 28 1 1 (.one):=FieldOf.by_info (ft:=26) inferInstance Y U
instance:SliceOf Tryz.prog 33 39:=⟨by kernel_rfl⟩
instance:FieldOf Tryz.prog 35 0 0 (.one):=FieldOf.by_info (ft:=3) inferInstance Y U
instance:FieldOf Tryz.prog 35 1 1 (.one):=FieldOf.by_info (ft:=3) inferInstance Y U
instance:FieldOf Tryz.prog 35 2 2 (.one):=FieldOf.by_info (ft:=33) inferInstance Y U
instance:SliceOf Tryz.prog 39 28:=⟨by kernel_rfl⟩
instance:SliceOf Tryz.prog 45 5:=⟨by kernel_rfl⟩
instance:SliceOf Tryz.prog 46 50:=⟨by kernel_rfl⟩
instance:IntOf Tryz.prog 47 .u64:=⟨by kernel_rfl⟩
instance:FieldOf Tryz.prog 50 0 0 (.one):=FieldOf.by_info (ft:=47) inferInstance Y U
instance:FieldOf Tryz.prog 50 1 1 (.one):=FieldOf.by_info (ft:=47) inferInstance Y U
instance:SliceOf Tryz.prog 58 47:=⟨by kernel_rfl⟩
instance:IntOf Tryz.prog 65 .i8:=⟨by kernel_rfl⟩
instance:SliceOf Tryz.prog 68 28:=⟨by kernel_rfl⟩
instance:SliceOf Tryz.prog 81 2:=⟨by kernel_rfl⟩
instance:IntOf Tryz.prog 83 .u32:=⟨by kernel_rfl⟩
instance:IntOf Tryz.prog 84 .u64:=⟨by kernel_rfl⟩
instance:SliceOf Tryz.prog 93 58:=⟨by kernel_rfl⟩
instance:FieldOf Tryz.prog 95 0 0 (.one):=FieldOf.by_info (ft:=47) inferInstance Y U
instance:FieldOf Tryz.prog 95 1 1 (.one):=FieldOf.by_info (ft:=3) inferInstance Y U
instance:FieldOf Tryz.prog 95 2 2 (.one):=FieldOf.by_info (ft:=93) inferInstance Y U
instance:ArrayOf Tryz.prog 114 4 47:=⟨by kernel_rfl⟩
instance:SliceOf Tryz.prog 128 50:=⟨by kernel_rfl⟩
instance:SliceOf Tryz.prog 148 3:=⟨by kernel_rfl⟩
instance:ZeroOf Tryz.prog 2 (.int .i64 0) 8:=⟨by kernel_rfl⟩
instance:ZeroOf Tryz.prog 3 (.int .i64 0) 8:=⟨by kernel_rfl⟩
instance:ZeroOf Tryz.prog 4 (.bool false) 1:=⟨by kernel_rfl⟩
instance zf27:Flat (one (.agg #[.bool false, .slice none 0 0])) (.agg 2):=kA U Y
instance:ZeroOf Tryz.prog 28 (.agg #[.bool false, .slice none 0 0]) 32:=⟨by kernel_rfl⟩
instance zf34:Flat (one (.agg #[.int .i64 0, .int .i64 0, .slice none 0 0])) (.agg 3):=kA U Y
instance:ZeroOf Tryz.prog 35 (.agg #[.int .i64 0, .int .i64 0, .slice none 0 0]) 40:=⟨by kernel_rfl⟩
instance:ZeroOf Tryz.prog 39 (.slice none 0 0) 24:=⟨by kernel_rfl⟩
instance:ZeroOf Tryz.prog 46 (.slice none 0 0) 24:=⟨by kernel_rfl⟩
instance:ZeroOf Tryz.prog 47 (.int .u64 0) 8:=⟨by kernel_rfl⟩
instance zf49:Flat (one (.agg #[.int .u64 0, .int .u64 0])) (.agg 2):=kA U Y
instance:ZeroOf Tryz.prog 50 (.agg #[.int .u64 0, .int .u64 0]) 16:=⟨by kernel_rfl⟩
instance:ZeroOf Tryz.prog 58 (.slice none 0 0) 24:=⟨by kernel_rfl⟩
instance:ZeroOf Tryz.prog 83 (.int .u32 0) 4:=⟨by kernel_rfl⟩
instance zf94:Flat (one (.agg #[.int .u64 0, .int .i64 0, .slice none 0 0])) (.agg 3):=kA U Y
instance:ZeroOf Tryz.prog 95 (.agg #[.int .u64 0, .int .i64 0, .slice none 0 0]) 40:=⟨by kernel_rfl⟩
instance:ZeroOf Tryz.prog 114 (.agg #[.int .u64 0, .int .u64 0, .int .u64 0, .int .u64 0]) 32:=⟨by kernel_rfl⟩
instance:BuildOf Tryz.prog 28 2 #[.bool false, .slice none 0 0] [(0, .one),(1, .one)]:=BuildOf.by_struct (by':=32) inferInstance Z Y Y
instance:BuildOf Tryz.prog 35 3 #[.int .i64 0, .int .i64 0, .slice none 0 0] [(0, .one),(1, .one),(2, .one)]:=BuildOf.by_struct (by':=40) inferInstance Z Y Y
instance:BuildOf Tryz.prog 50 2 #[.int .u64 0, .int .u64 0] [(0, .one),(1, .one)]:=BuildOf.by_struct (by':=16) inferInstance Z Y Y
instance:BuildOf Tryz.prog 95 3 #[.int .u64 0, .int .i64 0, .slice none 0 0] [(0, .one),(1, .one),(2, .one)]:=BuildOf.by_struct (by':=40) inferInstance Z Y Y
instance:BuildOf Tryz.prog 114 4 #[.int .u64 0, .int .u64 0, .int .u64 0, .int .u64 0] [(0, .one),(1, .one),(2, .one),(3, .one)]:=BuildOf.by_array (by':=32) (n:=4) (e:=47) (L := .one) inferInstance inferInstance inferInstance Z Y Z U
instance:Fn Tryz.prog 10:=Fn.of Tryz.func10 V Z
instance:Fn Tryz.prog 12:=Fn.of Tryz.func12 V Z
instance:Fn Tryz.prog 13:=Fn.of Tryz.func13 V Z
instance:Fn Tryz.prog 15:=Fn.of Tryz.func15 V Z
instance:Fn Tryz.prog 16:=Fn.of Tryz.func16 V Z
instance:Fn Tryz.prog 18:=Fn.of Tryz.func18 V Z
instance:Fn Tryz.prog 19:=Fn.of Tryz.func19 V Z
instance:Fn Tryz.prog 20:=Fn.of Tryz.func20 V Z
instance:Fn Tryz.prog 21:=Fn.of Tryz.func21 V Z
instance:Fn Tryz.prog 22:=Fn.of Tryz.func22 V Z
instance:Fn Tryz.prog 23:=Fn.of Tryz.func23 V Z
instance:Fn Tryz.prog 24:=Fn.of Tryz.func24 V Z
instance:Fn Tryz.prog 25:=Fn.of Tryz.func25 V Z
instance:Fn Tryz.prog 26:=Fn.of Tryz.func26 V Z
instance:Fn Tryz.prog 27:=Fn.of Tryz.func27 V Z
instance:Fn Tryz.prog 28:=Fn.of Tryz.func28 V Z
instance:Fn Tryz.prog 31:=Fn.of Tryz.func31 V Z
instance:Fn Tryz.prog 33:=Fn.of Tryz.func33 V Z
instance:Fn Tryz.prog 35:=Fn.of Tryz.func35 V Z
instance:Fn Tryz.prog 37:=Fn.of Tryz.func37 V Z
instance:Fn Tryz.prog 39:=Fn.of Tryz.func39 V Z
instance:Fn Tryz.prog 40:=Fn.of Tryz.func40 V Z
instance:Fn Tryz.prog 41:=Fn.of Tryz.func41 V Z
instance:Fn Tryz.prog 43:=Fn.of Tryz.func43 V Z
instance:Fn Tryz.prog 44:=Fn.of Tryz.func44 V Z
instance:Fn Tryz.prog 45:=Fn.of Tryz.func45 V Z
instance:Fn Tryz.prog 47:=Fn.of Tryz.func47 V Z
instance:Fn Tryz.prog 48:=Fn.of Tryz.func48 V Z
instance:Fn Tryz.prog 49:=Fn.of Tryz.func49 V Z
instance:Fn Tryz.prog 50:=Fn.of Tryz.func50 V Z
instance:Fn Tryz.prog 51:=Fn.of Tryz.func51 V Z
instance:Fn Tryz.prog 52:=Fn.of Tryz.func52 V Z
instance:Fn Tryz.prog 53:=Fn.of Tryz.func53 V Z
instance:Fn Tryz.prog 54:=Fn.of Tryz.func54 V Z
instance:Fn Tryz.prog 55:=Fn.of Tryz.func55 V Z
instance:Fn Tryz.prog 56:=Fn.of Tryz.func56 V Z
instance:Fn Tryz.prog 57:=Fn.of Tryz.func57 V Z
instance:Fn Tryz.prog 58:=Fn.of Tryz.func58 V Z
instance:Fn Tryz.prog 59:=Fn.of Tryz.func59 V Z
instance:Fn Tryz.prog 60:=Fn.of Tryz.func60 V Z
instance:Fn Tryz.prog 62:=Fn.of Tryz.func62 V Z
instance:Fn Tryz.prog 63:=Fn.of Tryz.func63 V Z
instance:Fn Tryz.prog 68:=Fn.of Tryz.func68 V Z
instance:Fn Tryz.prog 69:=Fn.of Tryz.func69 V Z
instance:Fn Tryz.prog 70:=Fn.of Tryz.func70 V Z
instance:Fn Tryz.prog 71:=Fn.of Tryz.func71 V Z
instance:Fn Tryz.prog 72:=Fn.of Tryz.func72 V Z
instance:Fn Tryz.prog 73:=Fn.of Tryz.func73 V Z
instance:Fn Tryz.prog 74:=Fn.of Tryz.func74 V Z
instance:Fn Tryz.prog 75:=Fn.of Tryz.func75 V Z
instance:Fn Tryz.prog 76:=Fn.of Tryz.func76 V Z
instance:Fn Tryz.prog 77:=Fn.of Tryz.func77 V Z
instance:Fn Tryz.prog 78:=Fn.of Tryz.func78 V Z
instance:Fn Tryz.prog 79:=Fn.of Tryz.func79 V Z
instance:Fn Tryz.prog 80:=Fn.of Tryz.func80 V Z
instance:Fn Tryz.prog 81:=Fn.of Tryz.func81 V Z
instance:Fn Tryz.prog 82:=Fn.of Tryz.func82 V Z
instance:Fn Tryz.prog 83:=Fn.of Tryz.func83 V Z
instance:Fn Tryz.prog 84:=Fn.of Tryz.func84 V Z
instance:Fn Tryz.prog 85:=Fn.of Tryz.func85 V Z
instance:Fn Tryz.prog 86:=Fn.of Tryz.func86 V Z
instance:Fn Tryz.prog 87:=Fn.of Tryz.func87 V Z
instance:Fn Tryz.prog 88:=Fn.of Tryz.func88 V Z
instance:Fn Tryz.prog 89:=Fn.of Tryz.func89 V Z
instance:Fn Tryz.prog 90:=Fn.of Tryz.func90 V Z
instance:Fn Tryz.prog 91:=Fn.of Tryz.func91 V Z
instance:Fn Tryz.prog 92:=Fn.of Tryz.func92 V Z
instance:Fn Tryz.prog 111:=Fn.of Tryz.func111 V Z
instance:Fn Tryz.prog 112:=Fn.of Tryz.func112 V Z
instance:Fn Tryz.prog 113:=Fn.of Tryz.func113 V Z
instance:Fn Tryz.prog 114:=Fn.of Tryz.func114 V Z
instance:Fn Tryz.prog 115:=Fn.of Tryz.func115 V Z
instance:Fn Tryz.prog 116:=Fn.of Tryz.func116 V Z
instance:Fn Tryz.prog 117:=Fn.of Tryz.func117 V Z
instance:Fn Tryz.prog 118:=Fn.of Tryz.func118 V Z
instance:Fn Tryz.prog 119:=Fn.of Tryz.func119 V Z
instance:Fn Tryz.prog 120:=Fn.of Tryz.func120 V Z
instance:Fn Tryz.prog 121:=Fn.of Tryz.func121 V Z
instance:Fn Tryz.prog 122:=Fn.of Tryz.func122 V Z
instance:Fn Tryz.prog 123:=Fn.of Tryz.func123 V Z
instance:Fn Tryz.prog 124:=Fn.of Tryz.func124 V Z
instance:Fn Tryz.prog 125:=Fn.of Tryz.func125 V Z
instance:Fn Tryz.prog 126:=Fn.of Tryz.func126 V Z
instance:Fn Tryz.prog 127:=Fn.of Tryz.func127 V Z
instance:Fn Tryz.prog 128:=Fn.of Tryz.func128 V Z
instance:Fn Tryz.prog 129:=Fn.of Tryz.func129 V Z
instance:Fn Tryz.prog 130:=Fn.of Tryz.func130 V Z
instance:Fn Tryz.prog 131:=Fn.of Tryz.func131 V Z
instance:Fn Tryz.prog 132:=Fn.of Tryz.func132 V Z
instance:Fn Tryz.prog 133:=Fn.of Tryz.func133 V Z
instance:Fn Tryz.prog 134:=Fn.of Tryz.func134 V Z
instance:Fn Tryz.prog 135:=Fn.of Tryz.func135 V Z
instance:Fn Tryz.prog 141:=Fn.of Tryz.func141 V Z
instance:Fn Tryz.prog 142:=Fn.of Tryz.func142 V Z
instance:Fn Tryz.prog 143:=Fn.of Tryz.func143 V Z
instance:Fn Tryz.prog 144:=Fn.of Tryz.func144 V Z
instance:Fn Tryz.prog 145:=Fn.of Tryz.func145 V Z
instance:Fn Tryz.prog 146:=Fn.of Tryz.func146 V Z
instance:Fn Tryz.prog 147:=Fn.of Tryz.func147 V Z
instance:Fn Tryz.prog 148:=Fn.of Tryz.func148 V Z
instance:Fn Tryz.prog 149:=Fn.of Tryz.func149 V Z
instance:Fn Tryz.prog 150:=Fn.of Tryz.func150 V Z
instance:Fn Tryz.prog 151:=Fn.of Tryz.func151 V Z
instance:Fn Tryz.prog 152:=Fn.of Tryz.func152 V Z
instance:Fn Tryz.prog 153:=Fn.of Tryz.func153 V Z
instance:Fn Tryz.prog 154:=Fn.of Tryz.func154 V Z
instance:Fn Tryz.prog 155:=Fn.of Tryz.func155 V Z
instance:Fn Tryz.prog 156:=Fn.of Tryz.func156 V Z
instance:Fn Tryz.prog 164:=Fn.of Tryz.func164 V Z
instance:Fn Tryz.prog 165:=Fn.of Tryz.func165 V Z
instance:Fn Tryz.prog 166:=Fn.of Tryz.func166 V Z
instance:Fn Tryz.prog 167:=Fn.of Tryz.func167 V Z
instance:Fn Tryz.prog 168:=Fn.of Tryz.func168 V Z
instance:Fn Tryz.prog 169:=Fn.of Tryz.func169 V Z
instance:Fn Tryz.prog 170:=Fn.of Tryz.func170 V Z
instance:Fn Tryz.prog 171:=Fn.of Tryz.func171 V Z
instance:Fn Tryz.prog 172:=Fn.of Tryz.func172 V Z
theorem a8:Tryz.prog.follows .mixedOrders=true:=by kernel_rfl
end Tor
end
section
namespace Tor
variable [Tor.Co.Kc]
def lv:List Nat→Nat
 | [] => 0
 | d :: l => d + 4294967296 * lv l
def bv (l:List Nat):Prop := ∀ d∈l,d<4294967296
def gi:List Nat→Prop
 | [] => True
 | [d] => d ≠ 0
 | _ :: d :: l => gi (d :: l)
def mj:Nat→Nat→List Nat
 | 0, _ => []
 | f + 1, n => if n = 0 then [] else n % 4294967296 :: mj f (n / 4294967296)
def aC (n:Nat):List Nat:=mj n n
theorem ra : ∀ (f n:Nat),n≤f → ∀ g,n≤g→mj f n=mj g n
 | 0, n, h, g, hg => by
  have:n=0:=by omega
  subst this;cases g <;> simp [mj]
 | f + 1, n, h, 0, hg => by
  have:n=0:=by omega
  subst this;simp [mj]
 | f + 1, n, h, g + 1, hg => by
  simp only [mj]
  split
  ·rfl
  ·rw [ra f (n / 4294967296) X g X]
theorem ii:aC 0 = []:=rfl
theorem gD {n:Nat} (h:n≠0):aC n=n % 4294967296 :: aC (n / 4294967296):=by
 unfold aC
 obtain ⟨m,rfl⟩ : ∃ m,n=m+1:=⟨n - 1,by omega⟩
 rw [mj,if_neg h,ra m _ X ((m+1) / 4294967296) (Nat.le_refl _)]
theorem bN (n:Nat):lv (aC n)=n:=by
 induction n using Nat.strongRecOn with
 | _ n ih =>
  by_cases h:n=0
  ·subst h;rfl
  ·rw [gD h,lv,ih _ X]; omega
theorem aX (n:Nat):bv (aC n):=by
 induction n using Nat.strongRecOn with
 | _ n ih =>
  by_cases h:n=0
  ·subst h;intro d hd;cases hd
  ·rw [gD h]; intro d hd
   rcases List.mem_cons.1 hd with rfl | hd
   ·omega
   ·exact ih _ X d hd
theorem bv.tail {d:Nat} {l:List Nat} (h:bv (d :: l)):bv l:=fun x hx=>h x (List.mem_cons_of_mem _ hx)
theorem bv.head {d:Nat} {l:List Nat} (h:bv (d :: l)):d<4294967296:=h d List.mem_cons_self
theorem xh : ∀ {l:List Nat},l ≠ []→gi l→0<lv l
 | [], h, _ => absurd Z h
 | [d], _, h => by have h : d ≠ 0 := h; simp only [lv]; omega
 | d :: e :: l, _, h => by have := xh (l := e :: l) (by simp) h; simp only [lv] at *; omega
theorem gi.tail {d:Nat} : ∀ {l:List Nat},gi (d :: l)→gi l
 | [], _ => trivial
 | _ :: _, h => h
theorem um : ∀ {l:List Nat},bv l→gi l→aC (lv l)=l
 | [], _, _ => rfl
 | d :: l, hl, ht => by
  have h0:lv (d :: l)≠0:=by have:=xh (l:=d :: l) (by simp) ht;omega
  have hd:=hl.head
  rw [gD h0]
  simp only [lv]
  rw [show (d+4294967296*lv l) % 4294967296=d by omega,show (d+4294967296*lv l) / 4294967296=lv l by omega,um hl.tail ht.tail]
theorem kP (n:Nat):gi (aC n):=by
 induction n using Nat.strongRecOn with
 | _ n ih =>
  by_cases h:n=0
  ·subst h;trivial
  ·rw [gD h]
   have:=ih (n / 4294967296) X
   by_cases h2:n / 4294967296=0
   ·rw [h2,ii]; show n % 4294967296≠0;omega
   ·rw [gD h2] at this ⊢; exact this
theorem fK (l m:List Nat):lv (l ++ m)=lv l+4294967296^l.length*lv m:=by
 induction l with
 | nil => simp [lv]
 | cons d l ih =>
  simp only [List.cons_append,lv,ih,List.length_cons,Nat.pow_succ,Nat.mul_add]
  have:4294967296*(4294967296^l.length*lv m)=4294967296^l.length*4294967296*lv m:=by
   rw [← Nat.mul_assoc,Nat.mul_comm 4294967296]
  omega
theorem gE : ∀ {l:List Nat},bv l→lv l<4294967296^l.length
 | [], _ => by simp [lv]
 | d :: l, h => by
  have:=gE h.tail
  have hd:=h.head
  simp only [lv,List.length_cons,Nat.pow_succ]
  have h2:lv l+1≤4294967296^l.length:=this
  have:=Nat.mul_le_mul_right 4294967296 h2
  omega
theorem nm {l:List Nat} {k:Nat} (h:k<l.length):l.take (k+1)=l.take k ++ [l.getD k 0]:=by
 rw [List.take_add_one]; simp [List.getD,h]
theorem bF {l:List Nat} {k:Nat} (h:k<l.length):lv (l.take (k+1))=lv (l.take k)+4294967296^k*l.getD k 0:=by
 rw [nm h,fK,List.length_take_of_le X]; simp [lv]
theorem aY {l:List Nat} (h:bv l) (k:Nat):l.getD k 0<4294967296:=by
 by_cases hk:k<l.length
 ·have:l.getD k 0=l[k]:=by simp [List.getD,hk]
  rw [this]; exact h _ (List.getElem_mem hk)
 ·have:l.getD k 0=0:=by simp [List.getD,List.getElem?_eq_none (Nat.le_of_not_lt hk)]
  omega
theorem jE (l:List Nat) (x q:Nat):(l ++ [x]).getD q 0=if q=l.length then x else l.getD q 0:=by
 simp only [List.getD,List.getElem?_append]
 by_cases h:q<l.length
 ·rw [if_pos h,if_neg X]
 ·rw [if_neg h]
  by_cases h2:q=l.length
  ·subst h2;simp
  ·rw [if_neg h2,List.getElem?_eq_none (by simp;omega),List.getElem?_eq_none X]
theorem bv.take {l:List Nat} (h:bv l) (k:Nat):bv (l.take k):=fun d hd=>h d (List.mem_of_mem_take hd)
def gF (l:List Nat):Nat→Nat
 | 0 => 0
 | n + 1 => if l.getD n 0 = 0 then gF l n else n + 1
theorem pN {l:List Nat} : ∀ {n:Nat},n<l.length→l.getD n 0≠0→gi (l.take (n+1)):=by
  induction l with
  | nil => intro n h; simp at h
  | cons d l ih =>
    intro n h h0
    cases n with
    | zero => simp at h0 ⊢; exact h0
    | succ n =>
      have:=ih (n:=n) (by simpa using h) (by simpa using h0)
      rw [List.take_succ_cons]
      cases hl:l.take (n+1) with
      | nil => rw [List.take_eq_nil_iff] at hl; rcases hl with hl | hl
               · omega
               · subst hl;simp at h
      | cons e r => rw [hl] at this; exact this
theorem oG {l:List Nat} (hl:bv l) : ∀ {n:Nat},n≤l.length→lv l=lv (l.take n)→l.take (gF l n)=aC (lv l)
 | 0, _, h => by rw [gF, h]; simp [lv, ii]
 | n + 1, hn, h => by
  rw [gF]
  split
  ·rename_i h0
   refine oG hl X ?_
   rw [h,bF X,h0]; simp
  ·rename_i h0
   rw [h]
   exact (um (hl.take _) (pN X h0)).symm
theorem no {l:List Nat} (hl:bv l):l.take (gF l l.length)=aC (lv l):=oG hl (Nat.le_refl _) (by rw [List.take_length])
theorem cz : ∀ {k n:Nat},n<4294967296^k→(aC n).length≤k
  | 0, n, h => by have : n = 0 := by simpa using h
                  subst this;simp [ii]
  | k + 1, n, h => by
    by_cases h0:n=0
    · subst h0;simp [ii]
    · rw [gD h0,List.length_cons]
      have:n / 4294967296<4294967296^k:=by
        rw [Nat.pow_succ] at h
        exact Nat.div_lt_of_lt_mul (by rw [Nat.mul_comm]; exact h)
      have:=cz this
      omega
theorem dj (n:Nat):n<4294967296^(aC n).length:=by
 have:=gE (aX n);rwa [bN] at this
theorem rb {a b:Nat} (h:aC a=aC b):a=b:=by rw [← bN a, ← bN b,h]
theorem fj (l:List Nat) (k:Nat) (hk:k≤l.length):lv l=lv (l.take k)+4294967296^k*lv (l.drop k):=by
 have h:=fK (l.take k) (l.drop k)
 rwa [List.take_append_drop,List.length_take_of_le hk] at h
theorem eU {l:List Nat} {k:Nat} (h:k<l.length):l.drop k=l.getD k 0 :: l.drop (k+1):=by
 rw [List.drop_eq_getElem_cons h]; simp [List.getD,h]
theorem pO {l m:List Nat} (hl:bv l) (hm:bv m) (hn:l.length=m.length) {i:Nat} (hi:i<l.length) (hd:l.drop (i+1)=m.drop (i+1)) (hlt:l.getD i 0<m.getD i 0):lv l<lv m:=by
 have e1:=eU hi
 have e2:=eU (hn▸hi:i<m.length)
 rw [fj l i X,fj m i X,e1,e2,hd]
 simp only [lv]
 have h1:=gE (hl.take i)
 rw [List.length_take_of_le X] at h1
 generalize 4294967296^i=B at *
 generalize lv (m.drop (i+1))=t
 have h2:B*(l.getD i 0+4294967296*t)+B≤B*(m.getD i 0+4294967296*t):=by
  rw [← Nat.mul_succ]; exact Nat.mul_le_mul_left B X
 omega
theorem g9 {a b:Nat} (h:(aC a).length<(aC b).length):a<b:=by
 rcases Nat.lt_or_ge a b with h' | h'
 ·exact h'
 ·have h1:b<4294967296^(aC a).length:=Nat.lt_of_le_of_lt h' (dj a)
  have:=cz h1;omega
theorem cj {a b:Nat} (h:a≤b):(aC a).length≤(aC b).length:=cz (Nat.lt_of_le_of_lt h (dj b))
def cK (a b:Int):Int:=if a<b then -1 else if b<a then 1 else 0
def lP (a b:Nat):Int:=if a<b then -1 else if b<a then 1 else 0
theorem dJ {l:List Nat} {k v q:Nat} (h:k<l.length):(l.set k v).getD q 0=if q=k then v else l.getD q 0:=by
 simp only [List.getD,List.getElem?_set]
 by_cases e:k=q
 ·subst e;simp [h]
 ·rw [if_neg e,if_neg (fun h=>e h.symm)]
theorem fL {l:List Nat} : ∀ {k v:Nat},k<l.length→lv (l.set k v)+4294967296^k*l.getD k 0=lv l+4294967296^k*v:=by
 induction l with
 | nil => intro k v h; simp at h
 | cons d l ih =>
  intro k v h
  cases k with
  | zero => simp [lv]; omega
  | succ k =>
   have:=ih (k:=k) (v:=v) (by simpa using h)
   simp only [List.set_cons_succ,lv,List.getD_cons_succ,Nat.pow_succ]
   have e1:4294967296^k*4294967296*l.getD k 0=4294967296*(4294967296^k*l.getD k 0):=by rw [Nat.mul_comm (4294967296^k),Nat.mul_assoc]
   have e2:4294967296^k*4294967296*v=4294967296*(4294967296^k*v):=by rw [Nat.mul_comm (4294967296^k),Nat.mul_assoc]
   rw [e1,e2]; omega
theorem bv.set {l:List Nat} (h:bv l) {k v:Nat} (hv:v<4294967296):bv (l.set k v):=fun d hd=>by
 rcases List.mem_or_eq_of_mem_set hd with h' | h'
 ·exact h d h'
 ·omega
theorem kQ {a b c d:Nat} (ha:a<4294967296) (hb:b<4294967296) (hc:c<4294967296) (hd:d<4294967296):d+(a*b+c)<18446744073709551616∧a*b<18446744073709551616∧a*b+c<18446744073709551616:=by
 have:a*b≤4294967295*4294967295:=Nat.mul_le_mul X X
 omega
end Tor
end
section
namespace Tor
open Go Go.RowKit Go.Proofs
variable [Tor.Co.Kc]
abbrev cd (l:List Nat):VT:=slT .one l.length (fun i=>one (.int .u32 (l.getD i 0)))
def kR (v:Nat):VT:=exT fun l:List Nat=>cn (bv l∧lv l=v) (cd l)
def np (v:Nat):VT:=exT fun l:List Nat=>cn (bv l∧lv l=v∧l.length≤4398046511104) (cd l)
def aP (x:Int):VT:=bG 2 [(0, .one,one (.bool (decide (x<0)))),(1, .one,cd (aC x.natAbs))]
instance {x:Int} : Flat (aP x) (.agg 2):=by unfold aP;infer_instance
theorem gk {l:List Nat} {v:Nat} (h:bv l) (hv:lv l=v) (hl:l.length≤4398046511104):VT.le (cd l) (np v):=wM l (t4 ⟨h,hv,hl⟩ A)
theorem fk {l:List Nat} {v:Nat} (h:bv l) (hv:lv l=v):VT.le (cd l) (kR v):=wM l (t4 ⟨h,hv⟩ A)
theorem cH (n:Nat):VT.le (cd (aC n)) (kR n):=fk (aX n) (bN n)
theorem kS {l l':List Nat} (h:l=l'):VT.le (cd l) (cd l'):=h▸VT.le_refl _
theorem ze {neg:Bool} {v:Nat} (h:v≠0):VT.le (bG 2 [(0, .one,one (.bool neg)),(1, .one,cd (aC v))]) (aP (if neg then -(v:Int) else v)):=by
 refine gh (fun q hq => ?_)
 simp only [List.mem_cons,List.not_mem_nil,or_false] at hq
 rcases hq with rfl | rfl
 ·have e:decide ((if neg then -(v:Int) else v)<0)=neg:=by cases neg <;> simp <;> omega
  exact ⟨_,List.mem_cons_self,jP (by rw [e])⟩
 ·refine ⟨_,List.mem_cons_of_mem _ List.mem_cons_self,kS ?_⟩
  cases neg <;> simp
theorem ij:VT.le (bG 2 [(0, .one,one (.bool false)),(1, .one,one (.slice none 0 0))]) (aP 0):=by
 refine gh (fun q hq => ?_)
 simp only [List.mem_cons,List.not_mem_nil,or_false] at hq
 rcases hq with rfl | rfl
 ·exact ⟨_,List.mem_cons_self,jP (by simp)⟩
 ·exact ⟨_,List.mem_cons_of_mem _ List.mem_cons_self,gT⟩
theorem bV {x y:Int} (h:x=y):VT.le (aP x) (aP y):=h▸VT.le_refl _
attribute [local irreducible] J PJ aJ one slT bL bG bD exT cn eP aU aN slV VT.le Ret bS
theorem c5 (v:Nat):Ok Tryz.prog 127 [kR v] (cd (aC v)):=by
 refine Ok.enter Tryz.func127 Z Tryz.ntmps127 Z (fun w O => ?_)
 refine y4 (t:=0) Z (fun l=>t3 (t:=0) Z (fun ⟨hL,hv⟩=>gY (t:=0) Z (fun _ _=>ei) (fun hb => ?_)))
 subst hv
 refine ae (ai (CH Z (CJ (aa (iu (ae (ai (CG Z (CF (aW Z) ?_)))))))))
 refine CH Z (CJ (aa (ae (mB (aa (ae (av ?_)))))))
 refine c8 (σ:=Nat) (fun n => [(0,cd l),(3,one (.int .i64 n))]) (fun _ => []) (fun n=>n≤l.length∧gF l n=gF l l.length) (fun n=>n) l.length ⟨Nat.le_refl _,rfl⟩ CB (SubM.refl _) (fun n ⟨hn,ht⟩ => ?_)
 have hd:=no hL
 refine ae (ae (ai (CG Z (CF (dh Z Z) (CJ (aa ?_))))))
 refine bw Z (fun hc => ?_) (fun hc => ?_) <;> simp at hc
 ·obtain ⟨n,rfl⟩ : ∃ m,n=m+1:=⟨n - 1,by omega⟩
  refine aw (aa (av (ae (ai (CG Z (CG Z ?_))))))
  (refine CF (dx Z Z (aO ?_ ?_)) ?_;omega;omega)
  (refine CF (ek Z Z ?_ ?_) ?_;omega;omega)
  refine CF (aV Z) (CJ (aa (av (ae (ai (CF (cq Z Z) (CH Z (CJ (aa ?_)))))))))
  refine bw Z (fun hc => ?_) (fun hc => ?_) <;> simp at hc
  ·refine ai (CG Z ?_)
   (refine CF (dx Z Z (aO ?_ ?_)) ?_;omega;omega)
   refine CH Z (CJ (aL (aL ?_)))
   have h0:l.getD n 0=0:=by simpa using hc
   refine cI n ⟨by omega,by rw [← ht,gF,if_pos h0]⟩ X CB (SubM.refl _)
  ·refine a6 (dK Z (dK Z (ax (aM (aa (ae (ai (CG Z (CG Z ?_)))))))))
   refine CG Z ?_
   (refine CF (gc Z Z Z Z (fun _=>rfl) ?_ ?_ ?_ ?_) ?_;omega;omega;omega;omega)
   refine CH Z (CJ (aa (aG (el ?_))))
   have h0 : ¬ l.getD n 0=0:=by simpa using hc
   rw [← ht,gF,if_neg h0] at hd
   refine aQ Tryz.results127 (.tmp Z (VT.le_trans (ci ?_ ?_) (kS hd)))
   ·simp;omega
   ·intro i hi;simp at hi ⊢; rw [List.getElem?_take_of_lt X]
 ·subst hc
  refine a6 (ax (ax (aM (aa (ae (ai (CG Z (CG Z (CG Z ?_)))))))))
  (refine CF (gc Z Z Z Z (fun _=>rfl) ?_ ?_ ?_ ?_) ?_;omega;omega;omega;omega)
  refine CH Z (CJ (aa (aG (el ?_))))
  rw [← ht,gF] at hd
  refine aQ Tryz.results127 (.tmp Z (VT.le_trans (ci ?_ ?_) (kS hd)))
  ·simp
  ·intro i hi;simp at hi
end Tor
end
section
namespace Tor
open Go Go.RowKit Go.Proofs
variable [Tor.Co.Kc]
attribute [local irreducible] J PJ aJ one slT bL bG bD exT cn eP aU aN slV VT.le Ret bS
theorem eg (neg:Bool) (v:Nat):Ok Tryz.prog 125 [one (.bool neg),kR v] (aP (if neg then -(v:Int) else v)):=by
 refine Ok.enter Tryz.func125 Z Tryz.ntmps125 Z (fun w O => ?_)
 refine ae (ai ?_)
 refine aD (T:=28) Z (ltN Z) (fun b => ?_)
 refine CJ (aa (ae (ai (CG Z ?_))))
 refine CF (am (c5 _) Z ⟨A,CK⟩) ?_
 refine CH Z (CJ (aa (ae (ae (ai (CG Z (CF (aW Z) (CF (cq Z Z) (CJ ?_)))))))))
 refine aa ?_
 refine bw Z (fun hc => ?_) (fun hc => ?_) <;> simp at hc
 ·have hv:v=0:=by rw [← bN v,hc]; rfl
  subst hv
  refine ae (ai (stB Z Z Z (BuildK.nil (au 0 Z Z Z Z Z (leN Z) Z (CJ (aa (aG (aK ?_))))))))
  exact aQ Tryz.results125 (.cellB 0 Z Z Z (VT.le_trans ij (bV (by simp))))
 ·have hv:v≠0:=by intro e;subst e;exact hc Z
  refine aw (aa (ae (ai (CG Z (CG Z (stB Z Z Z (BuildK.cons Z Z Z (BuildK.cons Z Z Z (BuildK.nil ?_)))))))))
  refine au 0 Z Z Z Z Z (leN Z) Z (CJ (aa (aG ?_)))
  exact aQ Tryz.results125 (.cellB 0 Z Z Z (ze hv))
structure PlusR (lx ly:List Nat) (zl:List Nat) (c:Nat):Prop where
 len:zl.length≤lx.length
 lim:bv zl
 c1:c≤1
 val:lv zl+4294967296^zl.length*c=lv (lx.take zl.length)+lv (ly.take zl.length)
theorem PlusR.step {lx ly zl:List Nat} {c:Nat} (h:PlusR lx ly zl c) (hx:bv lx) (hy:bv ly) (hl:ly.length≤lx.length) (hlt:zl.length<lx.length) :
  PlusR lx ly (zl ++ [(c+lx.getD zl.length 0+ly.getD zl.length 0) % 4294967296]) ((c+lx.getD zl.length 0+ly.getD zl.length 0) / 4294967296):=by
 have h1:=aY hx zl.length
 have h2:=aY hy zl.length
 have h3:=h.c1
 refine ⟨by simp;omega,fun d hd => ?_,by omega,?_⟩
 ·rcases List.mem_append.1 hd with hd | hd
  ·exact h.lim d hd
  ·simp at hd;omega
 ·have hy2:lv (ly.take (zl.length+1))=lv (ly.take zl.length)+4294967296^zl.length*ly.getD zl.length 0:=by
   by_cases hk:zl.length<ly.length
   ·exact bF hk
   ·rw [List.take_of_length_le X,List.take_of_length_le X]; simp [List.getElem?_eq_none (Nat.le_of_not_lt hk)]
  simp only [List.length_append,List.length_cons,List.length_nil,Nat.zero_add]
  rw [fK,bF hlt,hy2,Nat.pow_succ]
  have hv:=h.val
  generalize lx.getD zl.length 0=x at *
  generalize ly.getD zl.length 0=y at *
  generalize 4294967296^zl.length=B at *
  have e:(c+x+y)=4294967296*((c+x+y) / 4294967296)+(c+x+y) % 4294967296:=by omega
  generalize (c+x+y) / 4294967296=q at *
  generalize (c+x+y) % 4294967296=r at *
  simp only [lv,Nat.mul_zero,Nat.add_zero]
  have e2:B*(c+x+y)=B*(4294967296*q+r):=by rw [e]
  simp only [Nat.mul_add,Nat.mul_assoc] at e2 ⊢
  omega
theorem un (a b:Nat) (ha:(aC a).length≤1099511627776) (hb:(aC b).length≤1099511627776):Ok Tryz.prog 128 [cd (aC a),cd (aC b)] (kR (a+b)):=by
 refine Ok.enter Tryz.func128 Z Tryz.ntmps128 Z (fun w O => ?_)
 refine ae (ai (CH Z (CJ (aa (ae (ae (ai (CG Z (CF (aW Z) ?_)))))))))
 refine CG Z (CF (aW Z) (CF (bq Z Z) (CJ (aa ?_))))
 refine fb (σ:=List Nat × List Nat) (fun s => [(0,cd s.1),(1,cd s.2)]) (fun _ => []) (fun s=>bv s.1∧bv s.2∧s.2.length≤s.1.length∧s.1.length≤1099511627776∧lv s.1+lv s.2=a+b) ?_ (fun s ⟨hx,hy,hl,hs,hv⟩ => ?_)
 ·refine bw Z (fun hc => ?_) (fun hc => ?_) <;> simp at hc
  ·refine ai (CG Z (CG Z (CH Z (CH Z (CJ ?_)))))
   exact cJ (aC b,aC a) ⟨aX _,aX _,Nat.le_of_lt hc,hb,by simp only [bN]; omega⟩ CB (SubM.refl _)
  ·refine aw ?_
   exact cJ (aC a,aC b) ⟨aX _,aX _,hc,ha,by simp only [bN]⟩ CB (SubM.refl _)
 ·obtain ⟨lx,ly⟩:=s
  simp only at hx hy hl hs hv ⊢
  refine aa (ae (ai (CG Z (CF (aW Z) ?_))))
  (refine CF (cG Z Z (aO ?_ ?_)) ?_;omega;omega)
  refine co (lx.length+1) (lx.length+1) Z Z (by simp) (by simp) (Nat.le_refl _) Z Z X Z Z (fun bz => ?_)
  refine CH Z (CJ (aa (ae (ai (CH Z (CJ (aa (ae (ae ?_)))))))))
  refine ai (CG Z (CF (aW Z) (CG Z (CJ (aa (av ?_))))))
  refine c8 (σ:=List Nat × Nat) (fun s => [(0,cd lx),(1,cd ly),(5,one (slV (some bz) (lx.length+1) (lx.length+1))),(6,one (.int .u64 (s.2:Nat))),(20,one (.int .i64 lx.length)),(21,one (.int .i64 s.1.length))])
   (fun s => [aN (some bz) 83 .one (lx.length+1) (lx.length+1) (fun q=>one (.int .u32 (s.1.getD q 0:Nat)))]) (fun s=>PlusR lx ly s.1 s.2) (fun s=>lx.length - s.1.length) ([],0)
   ⟨by simp,(fun d hd=>by cases hd),by decide,by simp [lv]⟩ CB (.keep (bW (by simp)) .nil) (fun s hR => ?_)
  obtain ⟨zl,c⟩:=s
  simp only at hR ⊢
  refine ae (ai (CF (bq Z Z) (CJ (aa (ae ?_)))))
  refine bw Z (fun hc => ?_) (fun hc => ?_) <;> simp at hc
  ·have h1:=aY hx zl.length
   have h2:=aY hy zl.length
   have h3:=hR.c1
   refine aw (aa (ae (av (ae (ai (CG Z (CH Z (CJ (aa ?_)))))))))
   refine ae (ai (CG Z (CG Z (CG Z ?_))))
   (refine CF (aE Z Z ?_) ?_;omega)
   refine CF (aV Z) ?_
   (refine CF (bH Z ?_) ?_;omega)
   (refine CF (di Z Z ?_) ?_;omega)
   refine CH Z (CJ (aa (ae (ae (ai (CG Z (CG Z (CF (aW Z) (CF (bq Z Z) ?_)))))))))
   refine CJ (aa ?_)
   refine fb (σ:=Unit) (fun _ => [(0,cd lx),(1,cd ly),(5,one (slV (some bz) (lx.length+1) (lx.length+1))),(6,one (.int .u64 ((c+lx.getD zl.length 0+ly.getD zl.length 0:Nat):Int))),(7,one (.int .i64 zl.length)),(20,one (.int .i64 lx.length)),(21,one (.int .i64 zl.length))])
    (fun _ => [aN (some bz) 83 .one (lx.length+1) (lx.length+1) (fun q=>one (.int .u32 (zl.getD q 0:Nat)))]) (fun _=>True) ?_ (fun _ _ => ?_)
   ·refine bw Z (fun hc => ?_) (fun hc => ?_) <;> simp at hc
    ·refine ai (CG Z (CG Z (CG Z ?_)))
     (refine CF (aE Z Z ?_) ?_;omega)
     refine CF (aV Z) ?_
     (refine CF (bH Z ?_) ?_;omega)
     (refine CF (di Z Z ?_) ?_;omega)
     refine CH Z (CJ ?_)
     exact cJ () trivial CB (SubM.refl _)
    ·have e0:ly.getD zl.length 0=0:=by simp [List.getElem?_eq_none hc]
     refine aw ?_
     exact cJ () trivial CB (SubM.refl _)
   ·refine aa (ae (ai (CG Z (CG Z (CG Z (CF (cw Z) ?_))))))
    (refine CF (ay Z Z ?_) ?_;omega)
    (refine aA 0 Z Z Z ?_ Z ?_;omega)
    refine CJ (aa (ai (CG Z (CF (fe Z) (CH Z (CJ (aL (aa (ai ?_)))))))))
    (refine CF (cG Z Z (aO ?_ ?_)) ?_;omega;omega)
    refine CG Z (CJ ?_)
    have hstep:=hR.step hx hy hl hc
    refine cI (s:=(zl,c)) (zl ++ [(c+lx.getD zl.length 0+ly.getD zl.length 0) % 4294967296],(c+lx.getD zl.length 0+ly.getD zl.length 0) / 4294967296) hstep (by simp;omega) CB (.keep (bW (fun q hq => ?_)) .nil)
    unfold upd;rw [jE]; split <;> rfl
  ·have hlen:zl.length=lx.length:=by have:=hR.len;omega
   refine a6 (ax (ax (aM (aa (ae (ai (CG Z (CG Z (CF (aW Z) ?_)))))))))
   refine CG Z (CF (cw Z) ?_)
   (refine CF (ay Z Z ?_) ?_;omega)
   (refine aA 0 Z Z Z ?_ Z ?_;omega)
   refine CJ (aa (ae (ai (CG Z (CH Z (CJ (aa (aG (c4 (t:=4) (i:=0) Z Z ?_)))))))))
   refine aQ Tryz.results128 (.tmp Z (VT.le_trans (ci (m:=(zl ++ [c]).length) (ψ:=fun i=>one (.int .u32 ((zl ++ [c]).getD i 0:Nat))) (by simp [hlen]) (fun q hq => ?_)) (fk (l:=zl ++ [c]) ?_ ?_)))
   ·have h3:=hR.c1
    unfold upd;rw [jE,hlen]
    split
    ·rw [Nat.mod_eq_of_lt X]
    ·rfl
   ·intro d hd
    have h3:=hR.c1
    rcases List.mem_append.1 hd with hd | hd
    ·exact hR.lim d hd
    ·simp at hd;omega
   ·have h4:=hR.val
    rw [hlen,List.take_length,List.take_of_length_le X] at h4
    rw [fK,hlen]; simp only [lv,Nat.mul_zero,Nat.add_zero]; omega
end Tor
end
section
namespace Tor
open Go Go.RowKit Go.Proofs
variable [Tor.Co.Kc]
attribute [local irreducible] J PJ aJ one slT bL bG bD exT cn eP aU aN slV VT.le Ret bS
theorem oH (a:Int):Ok Tryz.prog 150 [one (.int .i64 a)] (one (.bool false)):=by
 refine Ok.enter Tryz.func150 Z Tryz.ntmps150 Z (fun w O => ?_)
 refine ae (ai (CH Z (CJ (aa (ae (ai (CG Z (CG Z (CF (eI Z Z) ?_)))))))))
 refine CH Z (CJ (aa (aG ?_)))
 exact aQ Tryz.results150 (.tmp Z (ao (by simp)))
theorem oI (a:Int):Ok Tryz.prog 165 [one (.int .u32 a)] (one (.bool false)):=by
 refine Ok.enter Tryz.func165 Z Tryz.ntmps165 Z (fun w O => ?_)
 refine ae (ai (CH Z (CJ (aa (ae (ai (CG Z (CG Z (CF (eI Z Z) ?_)))))))))
 refine CH Z (CJ (aa (aG ?_)))
 exact aQ Tryz.results165 (.tmp Z (ao (by simp)))
theorem jg (a b:Int):Ok Tryz.prog 133 [one (.int .i64 a),one (.int .i64 b)] (one (.int .i64 (cK a b))):=by
 refine Ok.enter Tryz.func133 Z Tryz.ntmps133 Z (fun w O => ?_)
 refine ae (ai (CH Z (CJ (aa (ae (ai (CG Z ?_)))))))
 refine CF (am (oH _) Z ⟨A,CK⟩) ?_
 refine CH Z (CJ (aa (ae (ai (CG Z ?_)))))
 refine CF (am (oH _) Z ⟨A,CK⟩) ?_
 refine CH Z (CJ (aa (ae (ae (ai (CG Z (CJ (aa ?_))))))))
 refine bw Z (fun hc=>by cases hc) (fun hc => ?_)
 refine aw (aa (ae (ae (ai (CG Z (CJ (aa ?_)))))))
 refine bw Z (fun hc=>by cases hc) (fun hc => ?_)
 refine aw (aa (ae (ae (ai (CG Z (CG Z (CF (bq Z Z) (CJ (aa ?_)))))))))
 refine bw Z (fun hc => ?_) (fun hc => ?_) <;> simp at hc
 ·refine ae (ai (CH Z (CJ (aa (aG (aK ?_))))))
  exact aQ Tryz.results133 (.tmp Z (ao (by rw [cK,if_pos hc])))
 ·refine aw (aa (ae (ae (ai (CG Z (CG Z (CF (dh Z Z) (CJ (aa ?_)))))))))
  refine bw Z (fun hc2 => ?_) (fun hc2 => ?_) <;> simp at hc2
  ·refine ae (ai (CH Z (CJ (aa (aG (aK ?_))))))
   exact aQ Tryz.results133 (.tmp Z (ao (by rw [cK,if_neg X,if_pos hc2])))
  ·refine aw (aa (ae (ai (CH Z (CJ (aa (aG ?_)))))))
   exact aQ Tryz.results133 (.tmp Z (ao (by rw [cK,if_neg X,if_neg X])))
theorem nq (a b:Int):Ok Tryz.prog 149 [one (.int .u32 a),one (.int .u32 b)] (one (.int .i64 (cK a b))):=by
 refine Ok.enter Tryz.func149 Z Tryz.ntmps149 Z (fun w O => ?_)
 refine ae (ai (CH Z (CJ (aa (ae (ai (CG Z ?_)))))))
 refine CF (am (oI _) Z ⟨A,CK⟩) ?_
 refine CH Z (CJ (aa (ae (ai (CG Z ?_)))))
 refine CF (am (oI _) Z ⟨A,CK⟩) ?_
 refine CH Z (CJ (aa (ae (ae (ai (CG Z (CJ (aa ?_))))))))
 refine bw Z (fun hc=>by cases hc) (fun hc => ?_)
 refine aw (aa (ae (ae (ai (CG Z (CJ (aa ?_)))))))
 refine bw Z (fun hc=>by cases hc) (fun hc => ?_)
 refine aw (aa (ae (ae (ai (CG Z (CG Z (CF (bq Z Z) (CJ (aa ?_)))))))))
 refine bw Z (fun hc => ?_) (fun hc => ?_) <;> simp at hc
 ·refine ae (ai (CH Z (CJ (aa (aG (aK ?_))))))
  exact aQ Tryz.results149 (.tmp Z (ao (by rw [cK,if_pos hc])))
 ·refine aw (aa (ae (ae (ai (CG Z (CG Z (CF (dh Z Z) (CJ (aa ?_)))))))))
  refine bw Z (fun hc2 => ?_) (fun hc2 => ?_) <;> simp at hc2
  ·refine ae (ai (CH Z (CJ (aa (aG (aK ?_))))))
   exact aQ Tryz.results149 (.tmp Z (ao (by rw [cK,if_neg X,if_pos hc2])))
  ·refine aw (aa (ae (ai (CH Z (CJ (aa (aG ?_)))))))
   exact aQ Tryz.results149 (.tmp Z (ao (by rw [cK,if_neg X,if_neg X])))
theorem j9 (a b:Nat):Ok Tryz.prog 129 [cd (aC a),cd (aC b)] (one (.int .i64 (lP a b))):=by
 refine Ok.enter Tryz.func129 Z Tryz.ntmps129 Z (fun w O => ?_)
 refine gY (t:=0) Z (fun _ _=>ei) (fun hb => ?_)
 refine ae (ai (CH Z (CJ (aa (ae (ae (ai (CG Z (CF (aW Z) ?_)))))))))
 refine CG Z (CF (aW Z) ?_)
 refine CF (am (jg _ _) Z ⟨A,A,CK⟩) ?_
 refine CH Z (CJ (aa (ae (ai (CG Z (CF (eI Z Z) (CJ (aa ?_))))))))
 refine bw Z (fun hc => ?_) (fun hc => ?_) <;> simp at hc
 ·refine ae (ai (CG Z (CH Z (CJ (aa (aG (aK ?_)))))))
  refine aQ Tryz.results129 (.tmp Z (ao ?_))
  unfold cK at hc ⊢
  unfold lP
  congr 1
  by_cases h1:(aC a).length<(aC b).length
  ·have:=g9 h1
   rw [if_pos X,if_pos this]
  ·by_cases h2:(aC b).length<(aC a).length
   ·have:=g9 h2
    rw [if_neg X,if_pos X,if_neg X,if_pos this]
   ·rw [if_neg X,if_neg X] at hc;exact absurd Z hc
 ·have hlen:(aC a).length=(aC b).length:=by
   unfold cK at hc
   split at hc
   ·cases hc
   ·split at hc
    ·cases hc
    ·omega
  refine aw (aa (ae (ae (ai (CG Z (CF (aW Z) ?_))))))
  (refine CF (dx Z Z (aO ?_ ?_)) ?_;omega;omega)
  refine CH Z (CJ (aa (av ?_)))
  refine c8 (σ:=Nat) (fun n => [(0,cd (aC a)),(1,cd (aC b)),(6,one (.int .i64 ((n:Int) - 1)))]) (fun _ => []) (fun n=>n≤(aC a).length∧(aC a).drop n=(aC b).drop n) (fun n=>n) (aC a).length
   ⟨Nat.le_refl _,by rw [List.drop_length,hlen,List.drop_length]⟩ CB (SubM.refl _) (fun n ⟨hn,hd⟩ => ?_)
  refine ae (ae (ai (CG Z (CF (dF Z Z) (CJ (aa ?_))))))
  refine bw Z (fun hc2 => ?_) (fun hc2 => ?_) <;> simp at hc2
  ·obtain ⟨n,rfl⟩ : ∃ m,n=m+1:=⟨n - 1,by omega⟩
   have e:((n+1:Nat):Int) - 1=n:=by omega
   rw [e]
   refine aw (aa (ae (av (ae (bh 10 a8 Y U (CG Z (CG Z ?_)))))))
   (refine CF (aE Z Z ?_) ?_;omega)
   refine CF (aV Z) (CG Z (CG Z ?_))
   (refine CF (aE Z Z ?_) ?_;omega)
   refine CF (aV Z) ?_
   refine CF (am (nq _ _) Z ⟨A,A,CK⟩) ?_
   refine CH Z (CJ (CJ (aa (ae (ai (CG Z (CF (eI Z Z) (CJ (aa ?_)))))))))
   refine bw Z (fun hc3 => ?_) (fun hc3 => ?_) <;> simp only [decide_eq_true_eq,decide_eq_false_iff_not,ne_eq,Decidable.not_not] at hc3
   ·refine ae (ai (CG Z (CH Z (CJ (aa (aG (a9 (aK (aK ?_)))))))))
    refine a9 (aK ?_)
    refine aQ Tryz.results129 (.tmp Z (ao ?_))
    congr 1
    unfold cK at hc3 ⊢
    unfold lP
    by_cases h1:(aC a).getD n 0<(aC b).getD n 0
    ·have:=pO (aX a) (aX b) hlen (i:=n) X hd h1
     rw [bN,bN] at this
     rw [if_pos X,if_pos this]
    ·by_cases h2:(aC b).getD n 0<(aC a).getD n 0
     ·have:=pO (aX b) (aX a) hlen.symm (i:=n) X hd.symm h2
      rw [bN,bN] at this
      rw [if_neg X,if_pos X,if_neg X,if_pos this]
     ·rw [if_neg X,if_neg X] at hc3;exact absurd Z hc3
   ·refine aw (aL (aa (ai (CG Z ?_))))
    (refine CF (dx Z Z (aO ?_ ?_)) ?_;omega;omega)
    refine CH Z (CJ ?_)
    refine cI (s:=n+1) n ⟨by omega,?_⟩ X CB (SubM.refl _)
    have h3:(aC a).getD n 0=(aC b).getD n 0:=by
     unfold cK at hc3
     split at hc3
     ·cases hc3
     ·split at hc3
      ·cases hc3
      ·omega
    have e1:=eU (l:=aC a) (k:=n) X
    have e2:=eU (l:=aC b) (k:=n) X
    rw [e1,e2,h3,hd]
  ·refine a6 (ax (ax (aM (aa (ae (ai (CH Z (CJ (aa ?_)))))))))
   refine aG ?_
   have h0:n=0:=by omega
   subst h0
   have h4:a=b:=rb (by simpa using hd)
   exact aQ Tryz.results129 (.tmp Z (ao (by subst h4;simp [lP])))
end Tor
end
section
namespace Tor
open Go Go.RowKit Go.Proofs
variable [Tor.Co.Kc]
attribute [local irreducible] J PJ aJ one slT bL bG bD exT cn eP aU aN slV VT.le Ret bS
structure MinusR (lx ly:List Nat) (zl:List Nat) (c:Nat):Prop where
 len:zl.length≤lx.length
 lim:bv zl
 c1:c≤1
 val:lv zl+lv (ly.take zl.length)=lv (lx.take zl.length)+4294967296^zl.length*c
theorem rc {x y c d:Nat} (hx:x<4294967296) (hy:y<4294967296) (hc:c≤1) (hd:d=((x+18446744073709551616 - c) % 18446744073709551616+18446744073709551616 - y) % 18446744073709551616) :
  d % 4294967296+y+c=x+4294967296*(d / 9223372036854775808)∧d / 9223372036854775808≤1:=by
 rcases Nat.lt_or_ge x (y+c) with h | h
 ·have h1:d=x+18446744073709551616 - (y+c):=by omega
  omega
 ·have h1:d=x - (y+c):=by omega
  omega
theorem MinusR.step {lx ly zl:List Nat} {c d:Nat} (h:MinusR lx ly zl c) (hx:bv lx) (hy:bv ly) (hl:ly.length≤lx.length) (hlt:zl.length<lx.length)
  (hd:d=((lx.getD zl.length 0+18446744073709551616 - c) % 18446744073709551616+18446744073709551616 - ly.getD zl.length 0) % 18446744073709551616) :
  MinusR lx ly (zl ++ [d % 4294967296]) (d / 9223372036854775808):=by
 obtain ⟨h1,h2⟩:=rc (aY hx zl.length) (aY hy zl.length) h.c1 hd
 refine ⟨by simp;omega,fun e he => ?_,h2,?_⟩
 ·rcases List.mem_append.1 he with he | he
  ·exact h.lim e he
  ·simp at he;omega
 ·have hy2:lv (ly.take (zl.length+1))=lv (ly.take zl.length)+4294967296^zl.length*ly.getD zl.length 0:=by
   by_cases hk:zl.length<ly.length
   ·exact bF hk
   ·rw [List.take_of_length_le X,List.take_of_length_le X]; simp [List.getElem?_eq_none (Nat.le_of_not_lt hk)]
  simp only [List.length_append,List.length_cons,List.length_nil,Nat.zero_add]
  rw [fK,bF hlt,hy2,Nat.pow_succ]
  have hv:=h.val
  clear hd
  generalize lx.getD zl.length 0=x at *
  generalize ly.getD zl.length 0=y at *
  generalize 4294967296^zl.length=B at *
  generalize d % 4294967296=r at *
  generalize d / 9223372036854775808=q at *
  simp only [lv,Nat.mul_zero,Nat.add_zero]
  have e2:B*(r+y+c)=B*(x+4294967296*q):=by rw [h1]
  simp only [Nat.mul_add,Nat.mul_assoc] at e2 ⊢
  omega
theorem ns (a b:Nat) (hab:b≤a) (ha:(aC a).length≤1099511627776):Ok Tryz.prog 130 [cd (aC a),cd (aC b)] (kR (a - b)):=by
 refine Ok.enter Tryz.func130 Z Tryz.ntmps130 Z (fun w O => ?_)
 have hx:=aX a
 have hy:=aX b
 have hl:=cj hab
 have hva:=bN a
 have hvb:=bN b
 generalize aC a=lx at *
 generalize aC b=ly at *
 refine ae (ai (CH Z (CJ (aa (ae (ai (CG Z (CF (aW Z) ?_))))))))
 refine co lx.length lx.length Z Z Z Z (Nat.le_refl _) Z Z X Z Z (fun bz => ?_)
 refine CH Z (CJ (aa (ae (ai (CH Z (CJ (aa (ae (ae ?_)))))))))
 refine ai (CG Z (CF (aW Z) (CG Z (CJ (aa (av ?_))))))
 refine c8 (σ:=List Nat × Nat) (fun s => [(0,cd lx),(1,cd ly),(5,one (slV (some bz) lx.length lx.length)),(6,one (.int .u64 (s.2:Nat))),(13,one (.int .i64 lx.length)),(14,one (.int .i64 s.1.length))])
   (fun s => [aN (some bz) 83 .one lx.length lx.length (fun q=>one (.int .u32 (s.1.getD q 0:Nat)))]) (fun s=>MinusR lx ly s.1 s.2) (fun s=>lx.length - s.1.length) ([],0)
   ⟨by simp,(fun d hd=>by cases hd),by decide,by simp [lv]⟩ CB (.keep (bW (by simp)) .nil) (fun s hR => ?_)
 obtain ⟨zl,c⟩:=s
 simp only at hR ⊢
 refine ae (ai (CF (bq Z Z) (CJ (aa (ae ?_)))))
 refine bw Z (fun hc => ?_) (fun hc => ?_) <;> simp at hc
 ·have h1:=aY hx zl.length
  have h2:=aY hy zl.length
  have h3:=hR.c1
  refine aw (aa (ae (av (ae (ai (CG Z (CH Z (CJ (aa ?_)))))))))
  refine ae (ai (CG Z (CG Z ?_)))
  (refine CF (aE Z Z ?_) ?_;omega)
  refine CF (aV Z) ?_
  (refine CF (bH Z ?_) ?_;omega)
  refine CG Z ?_
  (refine CF (fd Z Z ?_ ?_) ?_;omega;omega)
  refine CH Z (CJ (aa (ae (ae (ai (CG Z (CG Z (CF (aW Z) (CF (bq Z Z) ?_)))))))))
  refine CJ (aa ?_)
  generalize hD:((lx.getD zl.length 0+18446744073709551616 - c) % 18446744073709551616+18446744073709551616 - ly.getD zl.length 0) % 18446744073709551616=d
  refine fb (σ:=Unit) (fun _ => [(0,cd lx),(1,cd ly),(5,one (slV (some bz) lx.length lx.length)),(8,one (.int .u64 (d:Nat))),(7,one (.int .i64 zl.length)),(13,one (.int .i64 lx.length)),(14,one (.int .i64 zl.length))])
    (fun _ => [aN (some bz) 83 .one lx.length lx.length (fun q=>one (.int .u32 (zl.getD q 0:Nat)))]) (fun _=>True) ?_ (fun _ _ => ?_)
  ·refine bw Z (fun hc => ?_) (fun hc => ?_) <;> simp at hc
   ·refine ai (CG Z (CG Z (CG Z ?_)))
    (refine CF (aE Z Z ?_) ?_;omega)
    refine CF (aV Z) ?_
    (refine CF (bH Z ?_) ?_;omega)
    (refine CF (fd Z Z ?_ ?_) ?_;omega;omega)
    refine CH Z (CJ ?_)
    exact cJ () trivial CB (SubM.refl _)
   ·have e0:ly.getD zl.length 0=0:=by simp [List.getElem?_eq_none hc]
    refine aw ?_
    exact cJ () trivial CB (SubM.refl _)
  ·refine aa (ae (ai (CG Z (CG Z (CG Z (CF (cw Z) ?_))))))
   (refine CF (ay Z Z ?_) ?_;omega)
   (refine aA 0 Z Z Z ?_ Z ?_;omega)
   refine CJ (aa (ai (CG Z (CF (pw Z) (CH Z (CJ (aL (aa (ai ?_)))))))))
   (refine CF (cG Z Z (aO ?_ ?_)) ?_;omega;omega)
   refine CG Z (CJ ?_)
   have hstep:=hR.step hx hy hl hc hD.symm
   refine cI (s:=(zl,c)) (zl ++ [d % 4294967296],d / 9223372036854775808) hstep (by simp;omega) CB (.keep (bW (fun q hq => ?_)) .nil)
   unfold upd;rw [jE]; split <;> rfl
 ·have hlen:zl.length=lx.length:=by have:=hR.len;omega
  refine a6 (ax (ax (aM (aa (ae (ai (CG Z (CH Z (CJ ?_)))))))))
  refine aa (aG (c4 (t:=4) (i:=0) Z Z ?_))
  refine aQ Tryz.results130 (.tmp Z (VT.le_trans (ci (m:=zl.length) (ψ:=fun i=>one (.int .u32 (zl.getD i 0:Nat))) hlen.symm (fun q hq=>rfl)) (fk (l:=zl) hR.lim ?_)))
  have h4:=hR.val
  rw [hlen,List.take_length,List.take_of_length_le X,hva,hvb] at h4
  have h5:=gE hR.lim
  rw [hlen] at h5
  have h3:=hR.c1
  have:c=0:=by
   rcases Nat.eq_zero_or_pos c with h | h
   ·exact h
   ·have:c=1:=by omega
    subst this;omega
  subst this;omega
end Tor
end
section
namespace Tor
open Go Go.RowKit Go.Proofs
variable [Tor.Co.Kc]
attribute [local irreducible] J PJ aJ one slT bL bG bD exT cn eP aU aN slV VT.le Ret bS
structure TimesR (lx ly zz:List Nat) (i:Nat):Prop where
 le:i≤lx.length
 len:zz.length=lx.length+ly.length
 lim:bv zz
 zero : ∀ k,i+ly.length≤k→zz.getD k 0=0
 val:lv zz=lv (lx.take i)*lv ly
structure TimesI (lx ly z0 zz:List Nat) (i j c:Nat):Prop where
 le:j≤ly.length
 len:zz.length=lx.length+ly.length
 lim:bv zz
 zero : ∀ k,i+ly.length≤k→zz.getD k 0=0
 c1:c<4294967296
 val:lv zz+4294967296^(i+j)*c=lv z0+4294967296^i*(lx.getD i 0*lv (ly.take j))
theorem TimesI.step {lx ly z0 zz:List Nat} {i j c:Nat} (h:TimesI lx ly z0 zz i j c) (hx:bv lx) (hy:bv ly) (hi:i<lx.length) (hj:j<ly.length) :
  TimesI lx ly z0 (zz.set (i+j) ((c+(lx.getD i 0*ly.getD j 0+zz.getD (i+j) 0)) % 4294967296)) i (j+1) ((c+(lx.getD i 0*ly.getD j 0+zz.getD (i+j) 0)) / 4294967296):=by
 have hlim:=kQ (aY hx i) (aY hy j) (aY h.lim (i+j)) h.c1
 have hlt:i+j<zz.length:=by rw [h.len]; omega
 refine ⟨hj,by rw [List.length_set]; exact h.len,h.lim.set X,fun k hk => ?_,by omega,?_⟩
 ·rw [dJ hlt,if_neg X]; exact h.zero k hk
 ·have hs:=fL (l:=zz) (k:=i+j) (v:=(c+(lx.getD i 0*ly.getD j 0+zz.getD (i+j) 0)) % 4294967296) hlt
  have hv:=h.val
  rw [bF hj]
  generalize lx.getD i 0=x at *
  generalize ly.getD j 0=y at *
  generalize zz.getD (i+j) 0=z at *
  have e:c+(x*y+z)=4294967296*((c+(x*y+z)) / 4294967296)+(c+(x*y+z)) % 4294967296:=by omega
  generalize (c+(x*y+z)) / 4294967296=q at *
  generalize (c+(x*y+z)) % 4294967296=r at *
  rw [show i+(j+1)=(i+j)+1 by omega,Nat.pow_succ]
  have eB:4294967296^i*4294967296^j=4294967296^(i+j):=(Nat.pow_add _ _ _).symm
  have e3:4294967296^i*(x*(lv (ly.take j)+4294967296^j*y))=4294967296^i*(x*lv (ly.take j))+4294967296^(i+j)*(x*y):=by
   rw [Nat.mul_add,Nat.mul_add, ← eB]
   congr 1
   rw [Nat.mul_assoc]; congr 1
   rw [Nat.mul_left_comm]
  rw [e3]
  generalize 4294967296^(i+j)=B at *
  have e2:B*(c+(x*y+z))=B*(4294967296*q+r):=by rw [e]
  simp only [Nat.mul_add, ← Nat.mul_assoc] at e2 ⊢ hs hv
  omega
theorem TimesR.start {lx ly z0:List Nat} {i:Nat} (h:TimesR lx ly z0 i):TimesI lx ly z0 z0 i 0 0:=⟨Nat.zero_le _,h.len,h.lim,h.zero,by decide,by simp [lv]⟩
theorem TimesI.finish {lx ly z0 zz:List Nat} {i c:Nat} (h0:TimesR lx ly z0 i) (h:TimesI lx ly z0 zz i ly.length c) (hi:i<lx.length):TimesR lx ly (zz.set (i+ly.length) (c % 4294967296)) (i+1):=by
 have hlt:i+ly.length<zz.length:=by rw [h.len]; omega
 have hc:=h.c1
 refine ⟨hi,by rw [List.length_set]; exact h.len,h.lim.set X,fun k hk => ?_,?_⟩
 ·rw [dJ hlt,if_neg X]; exact h.zero k X
 ·have hs:=fL (l:=zz) (k:=i+ly.length) (v:=c % 4294967296) hlt
  rw [h.zero _ (Nat.le_refl _),Nat.mul_zero,Nat.add_zero,Nat.mod_eq_of_lt hc] at hs
  rw [Nat.mod_eq_of_lt hc,hs,h.val,List.take_length,h0.val,bF hi,Nat.add_mul,Nat.mul_assoc]
theorem bv.replicate (n:Nat):bv (List.replicate n 0):=fun d hd=>by
 have:=(List.mem_replicate.1 hd).2;omega
theorem dB : ∀ n,lv (List.replicate n 0)=0
 | 0 => rfl
 | n + 1 => by rw [List.replicate_succ, lv, dB n]
theorem cm (n q:Nat):(List.replicate n 0).getD q 0=0:=by
 simp only [List.getD,List.getElem?_replicate]; split <;> rfl
theorem xi (a b:Nat) (ha:(aC a).length≤1099511627776) (hb:(aC b).length≤1099511627776):Ok Tryz.prog 131 [cd (aC a),cd (aC b)] (kR (a*b)):=by
 refine Ok.enter Tryz.func131 Z Tryz.ntmps131 Z (fun w O => ?_)
 have hx:=aX a
 have hy:=aX b
 have hva:=bN a
 have hvb:=bN b
 generalize aC a=lx at *
 generalize aC b=ly at *
 refine ae (ai (CH Z (CJ (aa (ae (ai (CG Z (CF (aW Z) (CG Z ?_)))))))))
 refine CF (aW Z) ?_
 (refine CF (cG Z Z (aO ?_ ?_)) ?_;omega;omega)
 refine co (lx.length+ly.length) (lx.length+ly.length) Z Z (by simp) (by simp) (Nat.le_refl _) Z Z X Z Z (fun bz => ?_)
 refine CH Z (CJ (aa (ae (ae (ai (CG Z (CF (aW Z) (CG Z (CJ ?_)))))))))
 refine aa (av ?_)
 refine c8 (σ:=List Nat × Nat) (fun s => [(1,cd ly),(5,one (slV (some bz) (lx.length+ly.length) (lx.length+ly.length))),(17,cd lx),(18,one (.int .i64 lx.length)),(19,one (.int .i64 (s.2:Nat)))])
   (fun s => [aN (some bz) 83 .one (lx.length+ly.length) (lx.length+ly.length) (fun q=>one (.int .u32 (s.1.getD q 0:Nat)))]) (fun s=>TimesR lx ly s.1 s.2) (fun s=>lx.length - s.2) (List.replicate (lx.length+ly.length) 0,0)
   ⟨by simp,by simp,bv.replicate _,fun k _=>cm _ _,by simp [dB,lv]⟩ CB (.keep (bW (fun q _=>by rw [cm]; rfl)) .nil) (fun s hR => ?_)
 obtain ⟨z0,i⟩:=s
 simp only at hR ⊢
 refine ae (ai (CF (bq Z Z) (CJ (aa (ae ?_)))))
 refine bw Z (fun hc => ?_) (fun hc => ?_) <;> simp at hc
 ·have h1:=aY hx i
  refine aw (aa (ae (av (ae (ai (CG Z ?_))))))
  (refine CF (aE Z Z ?_) ?_;omega)
  refine CF (aV Z) (CH Z (CH Z (CJ (aa (ae (ai (CH Z (CJ (aa ?_)))))))))
  refine ae (ae (ai (CG Z (CF (aW Z) (CG Z (CJ (aa (av ?_))))))))
  refine c8 (σ:=List Nat × Nat × Nat) (fun s => [(1,cd ly),(5,one (slV (some bz) (lx.length+ly.length) (lx.length+ly.length))),(6,one (.int .i64 i)),(7,one (.int .u32 (lx.getD i 0:Nat))),(8,one (.int .u64 (s.2.2:Nat))),(24,cd ly),(25,one (.int .i64 ly.length)),(26,one (.int .i64 (s.2.1:Nat))),(17,cd lx),(18,one (.int .i64 lx.length)),(19,one (.int .i64 i))])
   (fun s => [aN (some bz) 83 .one (lx.length+ly.length) (lx.length+ly.length) (fun q=>one (.int .u32 (s.1.getD q 0:Nat)))]) (fun s=>TimesI lx ly z0 s.1 i s.2.1 s.2.2) (fun s=>ly.length - s.2.1) (z0,0,0)
   hR.start CB (SubM.refl _) (fun s hI => ?_)
  obtain ⟨zz,j,c⟩:=s
  simp only at hI ⊢
  refine ae (ai (CF (bq Z Z) (CJ (aa (ae ?_)))))
  refine bw Z (fun hc2 => ?_) (fun hc2 => ?_) <;> simp at hc2
  ·have h2:=aY hy j
   have h3:=aY hI.lim (i+j)
   have h4:=kQ h1 h2 h3 hI.c1
   have h5:=hI.c1
   refine aw (aa (ae (av (ae (ai (CG Z ?_))))))
   (refine CF (aE Z Z ?_) ?_;omega)
   refine CF (aV Z) (CH Z (CH Z (CJ (aa (ae (ai (CG Z (CG Z ?_))))))))
   (refine CF (bH Z ?_) ?_;omega)
   refine CG Z ?_
   (refine CF (bH Z ?_) ?_;omega)
   (refine CF (fc Z Z ?_) ?_;omega)
   refine CG Z (CG Z (CG Z ?_))
   (refine CF (cG Z Z (aO ?_ ?_)) ?_;omega;omega)
   (refine CF (ay Z Z ?_) ?_;omega)
   (refine CF (cf 0 Z Z ?_) ?_;omega)
   (refine CF (bH Z ?_) ?_;omega)
   (refine CF (di Z Z ?_) ?_;omega)
   (refine CF (di Z Z ?_) ?_;omega)
   refine CH Z (CJ (aa (ae (ai (CG Z (CG Z (CG Z ?_)))))))
   (refine CF (cG Z Z (aO ?_ ?_)) ?_;omega;omega)
   refine CG Z (CF (cw Z) ?_)
   (refine CF (ay Z Z ?_) ?_;omega)
   (refine aA 0 Z Z Z ?_ Z ?_;omega)
   refine CJ (aa (ai (CG Z (CF (fe Z) (CH Z (CJ (aL (aa (ai ?_)))))))))
   (refine CF (cG Z Z (aO ?_ ?_)) ?_;omega;omega)
   refine CG Z (CJ ?_)
   have hstep:=hI.step hx hy hc hc2
   have hlt:i+j<zz.length:=by rw [hI.len]; omega
   refine cI (s:=(zz,j,c)) (zz.set (i+j) ((c+(lx.getD i 0*ly.getD j 0+zz.getD (i+j) 0)) % 4294967296),j+1,(c+(lx.getD i 0*ly.getD j 0+zz.getD (i+j) 0)) / 4294967296) hstep (by simp;omega) CB (.keep (bW (fun q hq => ?_)) .nil)
   unfold upd;rw [dJ hlt]; split <;> rfl
  ·have hj:j=ly.length:=by have:=hI.le;omega
   subst hj
   refine a6 (ax (ax (aM (aa (ai (CG Z (CG Z (CG Z (CF (aW Z) ?_)))))))))
   (refine CF (cG Z Z (aO ?_ ?_)) ?_;omega;omega)
   refine CG Z (CF (cw Z) ?_)
   (refine CF (ay Z Z ?_) ?_;omega)
   (refine aA 0 Z Z Z ?_ Z ?_;omega)
   refine CJ (aL (aa (ai ?_)))
   (refine CF (cG Z Z (aO ?_ ?_)) ?_;omega;omega)
   refine CG Z (CJ ?_)
   have hfin:=hI.finish hR hc
   have hlt:i+ly.length<zz.length:=by rw [hI.len]; omega
   refine cI (s:=(z0,i)) (zz.set (i+ly.length) (c % 4294967296),i+1) hfin (by simp;omega) CB (.keep (bW (fun q hq => ?_)) .nil)
   unfold upd;rw [dJ hlt]; split <;> rfl
 ·have hi:i=lx.length:=by have:=hR.le;omega
  refine a6 (ax (ax (aM (aa (ae (ai (CG Z (CH Z (CJ ?_)))))))))
  refine aa (aG (c4 (t:=4) (i:=0) Z Z ?_))
  refine aQ Tryz.results131 (.tmp Z (VT.le_trans (ci (m:=z0.length) (ψ:=fun i=>one (.int .u32 (z0.getD i 0:Nat))) hR.len.symm (fun q hq=>rfl)) (fk (l:=z0) hR.lim ?_)))
  rw [hR.val,hi,List.take_length,hva,hvb]
end Tor
end
section
namespace Tor
open Go Go.RowKit Go.Proofs
variable [Tor.Co.Kc]
def sgT (neg:Bool) (v:Nat):VT:=bG 2 [(0, .one,one (.bool neg)),(1, .one,cd (aC v))]
def sv (neg:Bool) (v:Nat):Int:=if neg then -(v:Int) else v
theorem d7 (x:Int):VT.le (aP x) (sgT (decide (x<0)) x.natAbs):=VT.le_refl _
theorem fl (x:Int):sv (decide (x<0)) x.natAbs=x:=by
 unfold sv;by_cases h:x<0
 ·rw [decide_eq_true h,if_pos Z]; omega
 ·rw [decide_eq_false h]; simp only [Bool.false_eq_true,if_false]; omega
attribute [local irreducible] J PJ aJ one slT bL bG bD exT cn eP aU aN slV VT.le Ret bS
attribute [local irreducible] aP
theorem kT (u:Nat) (hu:u<18446744073709551616):Ok Tryz.prog 126 [one (.int .u64 u)] (kR u):=by
 refine Ok.enter Tryz.func126 Z Tryz.ntmps126 Z (fun w O => ?_)
 refine ae (ai (CH Z (CJ (aa (ae (ai (CG Z (CF (cw Z) (CG Z ?_)))))))))
 refine CF (fe Z) (CF (cw Z) (stS Z Z Z Z (PartsK.cons Z (PartsK.cons Z (PartsK.nil (CH Z (CJ (aa (aG ?_)))))))))
 refine aQ Tryz.results126 (.tmp Z (VT.le_trans (ci (m := [u % 4294967296,u / 4294967296 % 4294967296].length) (ψ:=fun i=>one (.int .u32 ([u % 4294967296,u / 4294967296 % 4294967296].getD i 0:Nat))) Z (fun q hq => ?_)) (fk (l := [u % 4294967296,u / 4294967296 % 4294967296]) ?_ ?_)))
 ·match q,hq with
  | 0, _ => rfl
  | 1, _ => rfl
 ·intro d hd;simp at hd;omega
 ·simp only [lv]; omega
theorem iT (n:Int) (h1 : -9223372036854775808≤n) (h2:n≤9223372036854775807):Ok Tryz.prog 84 [one (.int .i64 n)] (aP n):=by
 refine Ok.enter Tryz.func84 Z Tryz.ntmps84 Z (fun w O => ?_)
 by_cases hn:n<0
 ·refine ae (ai ?_)
  refine aD (T:=28) Z (ltN Z) (fun b => ?_)
  refine CJ (aa (ae (ai (CG Z (CF (i6 (r:=((18446744073709551616 - n.natAbs:Nat):Int)) Z (by rw [c7]; omega)) (CH Z (CJ (aa (ae ?_)))))))))
  refine ae (ai (CG Z (CF (bq Z Z) (CJ (aa ?_)))))
  refine bw Z (fun hc => ?_) (fun hc => ?_) <;> simp at hc
  ·refine ai (CG Z (CF (AB (r:=(n.natAbs:Int)) Z (by rw [c7]; omega)) (CH Z (CJ (aa (ae (ai (CG Z (CF (bq Z Z) ?_)))))))))
   refine CG Z ?_
   refine CF (am (kT _ X) Z ⟨A,CK⟩) ?_
   refine CF (am (eg _ _) Z ⟨A,A,CK⟩) ?_
   refine au 0 Z Z Z Z Z (leN Z) Z (CJ (aa (aG ?_)))
   exact aQ Tryz.results84 (.cellB 0 Z Z Z (bV (by rw [decide_eq_true hn,if_pos Z]; omega)))
  ·omega
 ·refine ae (ai ?_)
  refine aD (T:=28) Z (ltN Z) (fun b => ?_)
  refine CJ (aa (ae (ai (CG Z (CF (i6 (r:=(n.natAbs:Int)) Z (by rw [c7]; omega)) (CH Z (CJ (aa (ae ?_)))))))))
  refine ae (ai (CG Z (CF (bq Z Z) (CJ (aa ?_)))))
  refine bw Z (fun hc => ?_) (fun hc => ?_) <;> simp at hc
  ·omega
  ·refine aw (aa (ae (ai (CG Z (CF (bq Z Z) (CG Z ?_))))))
   refine CF (am (kT _ X) Z ⟨A,CK⟩) ?_
   refine CF (am (eg _ _) Z ⟨A,A,CK⟩) ?_
   refine au 0 Z Z Z Z Z (leN Z) Z (CJ (aa (aG ?_)))
   exact aQ Tryz.results84 (.cellB 0 Z Z Z (bV (by rw [decide_eq_false hn]; simp;omega)))
def fm (x:Int):Int:=if x=0 then 0 else if x<0 then -1 else 1
theorem pP (neg:Bool) (v:Nat):Ok Tryz.prog 132 [sgT neg v] (one (.int .i64 (fm (sv neg v)))):=by
 refine Ok.enter Tryz.func132 Z Tryz.ntmps132 Z (fun w O => ?_)
 refine ae (ai ?_)
 refine bm Z Z (ltN Z) (fun b => ?_)
 refine CH Z (CJ (aa (ae (av (ae (ai (CF (aj Z) (CF (ak 0 Z Z Z) ?_))))))))
 refine CF (am (c5 _) Z ⟨cH _,CK⟩) ?_
 refine CF (aW Z) (CF (cq Z Z) (CH Z (CJ (aa ?_))))
 refine bw Z (fun hc => ?_) (fun hc => ?_) <;> simp at hc
 ·have hv:v=0:=by rw [← bN v,hc]; rfl
  refine ae (ai (CH Z (CJ (aa (aG (a9 (aK ?_)))))))
  exact aQ Tryz.results132 (.tmp Z (ao (by subst hv;simp [fm,sv])))
 ·have hv:v≠0:=by intro e;subst e;exact hc Z
  refine ae (ai (CF (aj Z) (CF (ak 0 Z Z Z) (CH Z (CJ (aa ?_))))))
  refine bw Z (fun hc2 => ?_) (fun hc2 => ?_)
  ·subst hc2
   refine ae (ai (CH Z (CJ (aa (aG (a9 (aK ?_)))))))
   exact aQ Tryz.results132 (.tmp Z (ao (by congr 1;unfold fm sv;simp only [if_true]; rw [if_neg X,if_pos X])))
  ·subst hc2
   refine aw (aL (aa (ae (ai (CH Z (CJ (aa (aG ?_))))))))
   exact aQ Tryz.results132 (.tmp Z (ao (by congr 1;unfold fm sv;simp only [Bool.false_eq_true,if_false]; rw [if_neg X,if_neg X])))
theorem xj (n1 n2:Bool) (v1 v2:Nat) (h1:(aC v1).length≤1099511627776) (h2:(aC v2).length≤1099511627776):Ok Tryz.prog 86 [sgT n1 v1,sgT n2 v2] (aP (sv n1 v1+sv n2 v2)):=by
 refine Ok.enter Tryz.func86 Z Tryz.ntmps86 Z (fun w O => ?_)
 refine ae (ai ?_)
 refine bm Z Z (ltN Z) (fun b => ?_)
 refine bm Z Z (ltN Z) (fun b => ?_)
 refine aD (T:=28) Z (ltN Z) (fun b => ?_)
 refine CJ (aa (ae (bh 8 a8 Y U (CF (aj Z) (CF (ak 2 Z Z Z) ?_)))))
 refine CF (am (c5 _) Z ⟨cH _,CK⟩) ?_
 refine CF (aj Z) (CF (ak 1 Z Z Z) ?_)
 refine CF (am (c5 _) Z ⟨cH _,CK⟩) ?_
 refine CH Z (CH Z (CJ (CJ (aa (ae (av (ae (ai (CF (aj Z) ?_)))))))))
 refine CF (ak 2 Z Z Z) (CF (aj Z) (CF (ak 1 Z Z Z) (CF (wI Z Z) (CH Z (CJ (aa ?_))))))
 refine bw Z (fun hc => ?_) (fun hc => ?_) <;> simp at hc
 ·subst hc
  refine ae (bh 6 a8 Y U (CF (aj Z) (CF (ak 2 Z Z Z) (CG Z (CG Z ?_)))))
  refine CF (am (un _ _ h1 h2) Z ⟨A,A,CK⟩) ?_
  refine CF (am (eg _ _) Z ⟨A,A,CK⟩) ?_
  refine CJ (au 0 Z Z Z Z Z (leN Z) Z (CJ (aa (aG (a9 (aK ?_))))))
  exact aQ Tryz.results86 (.cellB 0 Z Z Z (bV (by unfold sv;split <;> omega)))
 ·refine ae (ai (CG Z (CG Z ?_)))
  refine CF (am (j9 _ _) Z ⟨A,A,CK⟩) ?_
  refine CF (bq Z Z) (CH Z (CJ (aa ?_)))
  refine bw Z (fun hc2 => ?_) (fun hc2 => ?_) <;> simp at hc2
  ·have hlt:v1<v2:=by
    unfold lP at hc2;split at hc2
    ·assumption
    ·split at hc2 <;> omega
   refine ae (bh 6 a8 Y U (CF (aj Z) (CF (ak 1 Z Z Z) (CG Z (CG Z ?_)))))
   refine CF (am (ns _ _ X h2) Z ⟨A,A,CK⟩) ?_
   refine CF (am (eg _ _) Z ⟨A,A,CK⟩) ?_
   refine CJ (au 0 Z Z Z Z Z (leN Z) Z (CJ (aa (aG (a9 (aK ?_))))))
   exact aQ Tryz.results86 (.cellB 0 Z Z Z (bV (by unfold sv;cases n1 <;> cases n2 <;> simp at hc ⊢ <;> omega)))
  ·have hge:v2≤v1:=by
    unfold lP at hc2;split at hc2 <;> omega
   refine aw (aL (aa (ae (bh 6 a8 Y U (CF (aj Z) (CF (ak 2 Z Z Z) (CG Z (CG Z ?_))))))))
   refine CF (am (ns _ _ X h1) Z ⟨A,A,CK⟩) ?_
   refine CF (am (eg _ _) Z ⟨A,A,CK⟩) ?_
   refine CJ (au 0 Z Z Z Z Z (leN Z) Z (CJ (aa (aG ?_))))
   exact aQ Tryz.results86 (.cellB 0 Z Z Z (bV (by unfold sv;cases n1 <;> cases n2 <;> simp at hc ⊢ <;> omega)))
theorem A4 (n1 n2:Bool) (v1 v2:Nat) (h1:(aC v1).length≤1099511627776) (h2:(aC v2).length≤1099511627776):Ok Tryz.prog 90 [sgT n1 v1,sgT n2 v2] (aP (sv n1 v1 - sv n2 v2)):=by
 refine Ok.enter Tryz.func90 Z Tryz.ntmps90 Z (fun w O => ?_)
 refine ae (ai ?_)
 refine bm Z Z (ltN Z) (fun b => ?_)
 refine bm Z Z (ltN Z) (fun b => ?_)
 refine aD (T:=28) Z (ltN Z) (fun b => ?_)
 refine CJ (aa (ae (ai (CF (bB 2 Z Z) (CF (aj Z) (CF (ak 1 Z Z Z) (CF (cZ Z) (CF (aj Z) (CF (ak 1 Z Z Z) ?_)))))))))
 refine stB Z Z Z (BuildK.cons Z Z Z (BuildK.cons Z Z Z (BuildK.nil ?_)))
 refine CF (am (xj n1 (!n2) v1 v2 h1 h2) Z ⟨A,A,CK⟩) ?_
 refine au 0 Z Z Z Z Z (leN Z) Z (CJ (aa (aG ?_)))
 exact aQ Tryz.results90 (.cellB 0 Z Z Z (bV (by unfold sv;cases n2 <;> simp <;> omega)))
theorem A5 (n1 n2:Bool) (v1 v2:Nat) (h1:(aC v1).length≤1099511627776) (h2:(aC v2).length≤1099511627776):Ok Tryz.prog 87 [sgT n1 v1,sgT n2 v2] (aP (sv n1 v1*sv n2 v2)):=by
 refine Ok.enter Tryz.func87 Z Tryz.ntmps87 Z (fun w O => ?_)
 refine ae (ai ?_)
 refine bm Z Z (ltN Z) (fun b => ?_)
 refine bm Z Z (ltN Z) (fun b => ?_)
 refine aD (T:=28) Z (ltN Z) (fun b => ?_)
 refine CJ (aa (ae (bh 13 a8 Y U (CF (aj Z) (CF (ak 2 Z Z Z) (CF (aj Z) (CF (ak 1 Z Z Z) (CF (i5 Z Z) (CF (aj Z) ?_)))))))))
 refine CF (ak 2 Z Z Z) ?_
 refine CF (am (c5 _) Z ⟨cH _,CK⟩) ?_
 refine CF (aj Z) (CF (ak 1 Z Z Z) ?_)
 refine CF (am (c5 _) Z ⟨cH _,CK⟩) ?_
 skip
 refine CF (am (xi _ _ h1 h2) Z ⟨A,A,CK⟩) ?_
 refine CF (am (eg _ _) Z ⟨A,A,CK⟩) ?_
 refine CJ (au 0 Z Z Z Z Z (leN Z) Z (CJ (aa (aG ?_))))
 exact aQ Tryz.results87 (.cellB 0 Z Z Z (bV (by unfold sv;cases n1 <;> cases n2 <;> simp [Int.neg_mul,Int.mul_neg])))
theorem zf {n1 n2:Bool} {v1 v2:Nat} (h:fm (sv n1 v1)=fm (sv n2 v2)):IntKind.i64.wrap (fm (sv n1 v1)*lP v1 v2)=cK (sv n1 v1) (sv n2 v2):=by
 have key:fm (sv n1 v1)*lP v1 v2=cK (sv n1 v1) (sv n2 v2):=by
  unfold fm sv lP cK at *
  cases n1 <;> cases n2 <;> simp only [if_true,if_false,Bool.false_eq_true] at * <;> (repeat' split at h) <;> (try omega) <;> (repeat' split) <;> omega
 rw [key]
 unfold cK;split
 ·decide
 ·split <;> decide
theorem A6 (n1 n2:Bool) (v1 v2:Nat):Ok Tryz.prog 89 [sgT n1 v1,sgT n2 v2] (one (.int .i64 (cK (sv n1 v1) (sv n2 v2)))):=by
 refine Ok.enter Tryz.func89 Z Tryz.ntmps89 Z (fun w O => ?_)
 refine ae (ai ?_)
 refine bm Z Z (ltN Z) (fun b => ?_)
 refine bm Z Z (ltN Z) (fun b => ?_)
 refine CH Z (CJ (aa (ae (bh 6 a8 Y U (CF (bB 1 Z Z) ?_)))))
 refine CF (am (pP n1 v1) Z ⟨A,CK⟩) ?_
 refine CF (bB 0 Z Z) ?_
 refine CF (am (pP n2 v2) Z ⟨A,CK⟩) ?_
 refine CH Z (CH Z (CJ (CJ (aa (ae (ae (ai (CG Z (CG Z ?_)))))))))
 refine CF (eI Z Z) (CJ (aa ?_))
 refine bw Z (fun hc => ?_) (fun hc => ?_) <;> simp only [decide_eq_true_eq,decide_eq_false_iff_not,ne_eq,Decidable.not_not] at hc
 ·refine ae (ai (CG Z (CG Z ?_)))
  refine CF (am (jg _ _) Z ⟨A,A,CK⟩) ?_
  refine CH Z (CJ (aa (aG (aK ?_))))
  exact aQ Tryz.results89 (.tmp Z (ao (by congr 1;unfold fm at *; unfold cK;split at hc <;> split at hc <;> (try split at hc) <;> (try split at hc) <;> simp at * <;> (repeat' split) <;> omega)))
 ·refine aw (aa (ae (bh 10 a8 Y U (CG Z (CF (aj Z) (CF (ak 1 Z Z Z) ?_))))))
  refine CF (am (c5 _) Z ⟨cH _,CK⟩) ?_
  refine CF (aj Z) (CF (ak 0 Z Z Z) ?_)
  refine CF (am (c5 _) Z ⟨cH _,CK⟩) ?_
  skip
  refine CF (am (j9 _ _) Z ⟨A,A,CK⟩) ?_
  refine CF (mf (r:=cK (sv n1 v1) (sv n2 v2)) Z Z (zf hc)) (CH Z (CJ (CJ (aa (aG ?_)))))
  exact aQ Tryz.results89 (.tmp Z A)
end Tor
end
section
namespace Tor
open Go Go.RowKit Go.Proofs
variable [Tor.Co.Kc]
theorem oJ {nb neg:Bool} {v:Nat} (h:nb=(neg && decide (v≠0))):VT.le (bG 2 [(0, .one,one (.bool nb)),(1, .one,cd (aC v))]) (aP (if neg then -(v:Int) else v)):=by
 refine gh (fun q hq => ?_)
 simp only [List.mem_cons,List.not_mem_nil,or_false] at hq
 rcases hq with rfl | rfl
 ·have e:decide ((if neg then -(v:Int) else v)<0)=nb:=by rw [h]; cases neg <;> simp <;> (try omega) <;> (rw [Bool.eq_iff_iff]; simp;omega)
  exact ⟨_,List.mem_cons_self,jP (by rw [e])⟩
 ·refine ⟨_,List.mem_cons_of_mem _ List.mem_cons_self,kS ?_⟩
  cases neg <;> simp
theorem uo {b:Bool} {φ ψ:VT} (h:VT.le φ ψ):VT.le (bG 2 [(0, .one,one (.bool b)),(1, .one, φ)]) (bG 2 [(0, .one,one (.bool b)),(1, .one, ψ)]):=by
 refine gh (fun q hq => ?_)
 simp only [List.mem_cons,List.not_mem_nil,or_false] at hq
 rcases hq with rfl | rfl
 ·exact ⟨_,List.mem_cons_self,A⟩
 ·exact ⟨_,List.mem_cons_of_mem _ List.mem_cons_self,h⟩
attribute [local irreducible] J PJ aJ one slT bL bG bD exT cn eP aU aN slV VT.le Ret bS
attribute [local irreducible] aP
theorem cY (neg:Bool) (v:Nat):Ok Tryz.prog 41 [np v,one (.bool neg)] (aP (if neg then -(v:Int) else v)):=by
 refine Ok.enter Tryz.func41 Z Tryz.ntmps41 Z (fun w O => ?_)
 refine y4 (t:=0) Z (fun l=>t3 (t:=0) Z (fun ⟨hL,hv,hb⟩ => ?_))
 subst hv
 refine ae (ai ?_)
 refine aD (T:=28) Z (ltN Z) (fun b => ?_)
 refine CJ (aa (ae (ai (CG Z (CF (aW Z) (CH Z (CJ (aa (ae ?_)))))))))
 refine av ?_
 refine c8 (σ:=Nat) (fun n => [(0,cd l),(1,one (.bool neg)),(4,one (.pointer (some ⟨b,0,none⟩))),(5,one (.int .i64 n))]) (fun _ => [aU b 28 2 [(0, .agg 2,one (.agg #[.bool false, .slice none 0 0]))]]) (fun n=>n≤l.length∧gF l n=gF l l.length) (fun n=>n) l.length ⟨Nat.le_refl _,rfl⟩ CB (SubM.refl _) (fun n ⟨hn,ht⟩ => ?_)
 have hd:=no hL
 refine ae (ae ?_)
 refine fb (σ:=Unit) (fun _ => [(0,cd l),(1,one (.bool neg)),(4,one (.pointer (some ⟨b,0,none⟩))),(5,one (.int .i64 n)),(17,one (.bool (decide (0<n∧l.getD (n - 1) 0=0))))]) (fun _ => [aU b 28 2 [(0, .agg 2,one (.agg #[.bool false, .slice none 0 0]))]]) (fun _=>True) ?_ (fun _ _ => ?_)
 ·by_cases h0:0<n
  ·obtain ⟨n,rfl⟩ : ∃ m,n=m+1:=⟨n - 1,by omega⟩
   refine ai (CG Z (CF (dh Z Z) (CG Z ?_)))
   refine mY (t:=10) Z (fun b hb => ?_)
   rw [hb]
   have:b=true:=by rw [← hb]; simp
   subst this
   refine CI (ab Z) (CI (ab Z) ?_)
   (refine CI (dx Z Z (aO ?_ ?_)) ?_;omega;omega)
   (refine CI (ek Z Z ?_ ?_) ?_;omega;omega)
   refine CI (aV Z) (CI (cq Z Z) (CF (bp Z Z) (CJ ?_)))
   exact cJ () trivial (.cons Z A (.cons Z A (.cons Z A (.cons Z A (.cons Z (ao (by simp)) .nil))))) (SubM.refl _)
  ·refine ai (CG Z (CF (dh Z Z) (CG Z ?_)))
   refine mY (t:=10) Z (fun b hb => ?_)
   rw [hb]
   have:b=false:=by rw [← hb]; simp;omega
   subst this
   refine sg0 Z Z Z Z (sg0 Z Z Z Z (sg0 Z Z Z Z (sg0 Z Z Z Z (sg0 Z Z Z Z (sg0 Z Z Z Z (CF (bK Z Z) (CJ ?_)))))))
   exact cJ () trivial (.cons Z A (.cons Z A (.cons Z A (.cons Z A (.cons Z (ao (by simp;omega)) .nil))))) (SubM.refl _)
 ·refine aa ?_
  refine bw Z (fun hc => ?_) (fun hc => ?_) <;> simp only [decide_eq_true_eq,decide_eq_false_iff_not] at hc
  ·obtain ⟨n,rfl⟩ : ∃ m,n=m+1:=⟨n - 1,by omega⟩
   refine aw (aa (av (ai (CG Z ?_))))
   (refine CF (dx Z Z (aO ?_ ?_)) ?_;omega;omega)
   refine CH Z (CJ (aL ?_))
   refine cI (s:=n+1) n ⟨by omega,by have h2:l.getD n 0=0:=hc.2;rw [← ht,gF,if_pos h2]⟩ X CB (SubM.refl _)
  ·have hz:gF l n=n:=by
    cases n with
    | zero => rfl
    | succ n =>
     have h2 : ¬ l.getD n 0=0:=fun h=>hc ⟨by omega,h⟩
     rw [gF,if_neg h2]
   rw [ht] at hz
   rw [hz] at hd
   have hlen:(aC (lv l)).length=n:=by rw [← hd,List.length_take_of_le hn]
   have hnz:(0<n)↔lv l≠0:=by
    constructor
    ·intro h e;rw [e] at hlen;simp [ii] at hlen;omega
    ·intro h;rw [← hlen]; exact Nat.pos_of_ne_zero (fun e=>h (by rw [← bN (lv l),List.eq_nil_of_length_eq_zero e]; rfl))
   have hmag:VT.le (slT .one (0+((n:Int) - 0).toNat) fun q=>if q<0 then [].reverse.getD q bS else one (.int .u32 (l.getD (Int.toNat 0+(q - 0)) 0:Nat))) (cd (aC (lv l))) :=
    VT.le_trans (ci (m:=(l.take n).length) (ψ:=fun q=>one (.int .u32 ((l.take n).getD q 0:Nat))) (by rw [List.length_take_of_le hn]; omega) (fun q hq=>by
     simp only [Nat.not_lt_zero,if_false]
     rw [show Int.toNat 0+(q - 0)=q from by simp]
     simp [List.getElem?_take_of_lt (show q<n by omega)])) (kS hd)
   cases neg
   ·refine a6 (ax (ax (aM (aa (ae (ai (CG Z (CG Z (sg0 Z Z Z Z ?_)))))))))
    refine sg0 Z Z Z Z (CF (bK Z Z) (mo (n:=0) Z Z Z Z Z ?_))
    refine PartsK.nil (fun b => ?_)
    refine CG Z (CG Z ?_)
    (refine CF (gc Z Z Z Z (fun _=>rfl) ?_ ?_ ?_ ?_) ?_;omega;omega;omega;omega)
    (refine cX 0 Z Z Z (leN Z) ?_ ?_ Z (ltN Z) (fun sv cap => ?_);omega;omega)
    refine gz (t:=29) (j:=0) Z Z (stB Z Z Z (BuildK.cons Z Z Z (BuildK.cons Z Z Z (BuildK.nil (au 0 Z Z Z Z Z (leN Z) Z (CJ (aa (aG ?_))))))))
    exact aQ Tryz.results41 (.cellB 0 Z Z Z (VT.le_trans (uo hmag) (oJ (by simp))))
   ·refine a6 (ax (ax (aM (aa (ae (ai (CG Z (CG Z (CI (ab Z) ?_)))))))))
    refine CI (dh Z Z) (CF (bp Z Z) (mo (n:=0) Z Z Z Z Z ?_))
    refine PartsK.nil (fun b => ?_)
    refine CG Z (CG Z ?_)
    (refine CF (gc Z Z Z Z (fun _=>rfl) ?_ ?_ ?_ ?_) ?_;omega;omega;omega;omega)
    (refine cX 0 Z Z Z (leN Z) ?_ ?_ Z (ltN Z) (fun sv cap => ?_);omega;omega)
    refine gz (t:=29) (j:=0) Z Z (stB Z Z Z (BuildK.cons Z Z Z (BuildK.cons Z Z Z (BuildK.nil (au 0 Z Z Z Z Z (leN Z) Z (CJ (aa (aG ?_))))))))
    exact aQ Tryz.results41 (.cellB 0 Z Z Z (VT.le_trans (uo hmag) (oJ (by rw [Bool.true_and]; exact decide_eq_decide.2 (by rw [← hnz]; omega)))))
end Tor
end
section
namespace Tor
open Go Go.RowKit Go.Proofs
variable [Tor.Co.Kc]
attribute [local irreducible] J PJ aJ one slT bL bG bD exT cn eP aU aN slV VT.le Ret bS
theorem kU (a b:Nat):Ok Tryz.prog 44 [cd (aC a),cd (aC b)] (one (.bool (decide (a<b)))):=by
 refine Ok.enter Tryz.func44 Z Tryz.ntmps44 Z (fun w O => ?_)
 refine gY (t:=0) Z (fun _ _=>ei) (fun hb => ?_)
 refine ae (ai (CH Z (CJ (aa (ae (ae (ai (CG Z (CF (aW Z) ?_)))))))))
 refine CG Z (CF (aW Z) (CF (eI Z Z) (CJ (aa ?_))))
 refine bw Z (fun hc => ?_) (fun hc => ?_) <;> simp only [decide_eq_true_eq,decide_eq_false_iff_not,ne_eq,Decidable.not_not] at hc
 ·refine ae (ai (CG Z (CF (aW Z) (CG Z (CF (aW Z) (CF (bq Z Z) (CH Z (CJ (aa ?_)))))))))
  refine aG (aK ?_)
  refine aQ Tryz.results44 (.tmp Z (ao ?_))
  congr 1
  rw [decide_eq_decide]
  constructor
  ·intro h;exact g9 X
  ·intro h;have:=cj (Nat.le_of_lt h);omega
 ·have hlen:(aC a).length=(aC b).length:=by omega
  refine aw (aa (ae (ae (ai (CG Z (CF (aW Z) ?_))))))
  (refine CF (dx Z Z (aO ?_ ?_)) ?_;omega;omega)
  refine CH Z (CJ (aa (av ?_)))
  refine c8 (σ:=Nat) (fun n => [(0,cd (aC a)),(1,cd (aC b)),(5,one (.int .i64 ((n:Int) - 1)))]) (fun _ => []) (fun n=>n≤(aC a).length∧(aC a).drop n=(aC b).drop n) (fun n=>n) (aC a).length
   ⟨Nat.le_refl _,by rw [List.drop_length,hlen,List.drop_length]⟩ CB (SubM.refl _) (fun n ⟨hn,hd⟩ => ?_)
  refine ae (ae (ai (CG Z (CF (dF Z Z) (CJ (aa ?_))))))
  refine bw Z (fun hc2 => ?_) (fun hc2 => ?_) <;> simp only [decide_eq_true_eq,decide_eq_false_iff_not] at hc2
  ·obtain ⟨n,rfl⟩ : ∃ m,n=m+1:=⟨n - 1,by omega⟩
   have e:((n+1:Nat):Int) - 1=n:=by omega
   rw [e]
   refine aw (aa (ae (av (ae (bh 9 a8 Y U (CG Z (CG Z ?_)))))))
   (refine CF (aE Z Z ?_) ?_;omega)
   refine CF (aV Z) (CG Z (CG Z ?_))
   (refine CF (aE Z Z ?_) ?_;omega)
   refine CF (aV Z) (CF (eI Z Z) (CJ (CJ (aa ?_))))
   refine bw Z (fun hc3 => ?_) (fun hc3 => ?_) <;> simp only [decide_eq_true_eq,decide_eq_false_iff_not,ne_eq,Decidable.not_not] at hc3
   ·refine ae (bh 10 a8 Y U (CG Z (CG Z ?_)))
    (refine CF (aE Z Z ?_) ?_;omega)
    refine CF (aV Z) (CG Z (CG Z ?_))
    (refine CF (aE Z Z ?_) ?_;omega)
    refine CF (aV Z) (CF (bq Z Z) (CH Z (CJ (CJ (aa (aG (a9 (aK (aK ?_)))))))))
    refine a9 (aK ?_)
    refine aQ Tryz.results44 (.tmp Z (ao ?_))
    congr 1
    rw [decide_eq_decide]
    by_cases h1:(aC a).getD n 0<(aC b).getD n 0
    ·have:=pO (aX a) (aX b) hlen (i:=n) X hd h1
     rw [bN,bN] at this
     exact ⟨fun _=>this,fun _=>by omega⟩
    ·have:=pO (aX b) (aX a) hlen.symm (i:=n) X hd.symm X
     rw [bN,bN] at this
     exact ⟨fun h=>by omega,fun h=>by omega⟩
   ·refine aw (aL (aa (ai (CG Z ?_))))
    (refine CF (dx Z Z (aO ?_ ?_)) ?_;omega;omega)
    refine CH Z (CJ ?_)
    refine cI (s:=n+1) n ⟨by omega,?_⟩ X CB (SubM.refl _)
    have h3:(aC a).getD n 0=(aC b).getD n 0:=by omega
    have e1:=eU (l:=aC a) (k:=n) X
    have e2:=eU (l:=aC b) (k:=n) X
    rw [e1,e2,h3,hd]
  ·refine a6 (ax (ax (aM (aa (ae (ai (CH Z (CJ (aa ?_)))))))))
   refine aG ?_
   have h0:n=0:=by omega
   subst h0
   have h4:a=b:=rb (by simpa using hd)
   exact aQ Tryz.results44 (.tmp Z (ao (by subst h4;simp)))
theorem xk (neg:Bool) (v:Nat):Ok Tryz.prog 28 [sgT neg v] (one (.int .i64 (fm (sv neg v)))):=by
 refine Ok.enter Tryz.func28 Z Tryz.ntmps28 Z (fun w O => ?_)
 refine ae (ai ?_)
 refine bm Z Z (ltN Z) (fun b => ?_)
 refine CH Z (CJ (aa (ae (ae (ai (CF (aj Z) (CF (ak 0 Z Z Z) (CF (aW Z) (CF (cq Z Z) ?_)))))))))
 refine CJ (aa ?_)
 refine bw Z (fun hc => ?_) (fun hc => ?_) <;> simp at hc
 ·have hv:v=0:=by rw [← bN v,hc]; rfl
  refine ae (ai (CH Z (CJ (aa (aG (aK ?_))))))
  exact aQ Tryz.results28 (.tmp Z (ao (by subst hv;simp [fm,sv])))
 ·have hv:v≠0:=by intro e;subst e;exact hc Z
  refine aw (aa (ae (ae (ai (CF (aj Z) (CF (ak 0 Z Z Z) (CJ (aa ?_))))))))
  refine bw Z (fun hc2 => ?_) (fun hc2 => ?_)
  ·subst hc2
   refine ae (ai (CH Z (CJ (aa (aG (aK ?_))))))
   exact aQ Tryz.results28 (.tmp Z (ao (by congr 1;unfold fm sv;simp only [if_true]; rw [if_neg X,if_pos X])))
  ·subst hc2
   refine aw (aa (ae (ai (CH Z (CJ (aa (aG ?_)))))))
   exact aQ Tryz.results28 (.tmp Z (ao (by congr 1;unfold fm sv;simp only [Bool.false_eq_true,if_false]; rw [if_neg X,if_neg X])))
theorem kV (x y:Int):Ok Tryz.prog 18 [aP x,aP y] (one (.bool (decide (x=y)))):=by
 refine Ok.enter Tryz.func18 Z Tryz.ntmps18 Z (fun w O => ?_)
 refine ae (ai ?_)
 refine bm Z Z (ltN Z) (fun b => ?_)
 refine bm Z Z (ltN Z) (fun b => ?_)
 refine CH Z (CJ (aa (ae (ai (CF (aj Z) (CF (ak 1 Z Z Z) (CF (aj Z) (CF (ak 0 Z Z Z) (CF (wI Z Z) ?_)))))))))
 refine CG Z ?_
 refine mY (t:=10) Z (fun b hb => ?_)
 rw [hb]
 cases b
 ·refine sg0 Z Z Z Z (sg0 Z Z Z Z (sg0 Z Z Z Z (sg0 Z Z Z Z (sg0 Z Z Z Z (sg0 Z Z Z Z (CF (bK Z Z) (CG Z (sg0 Z Z Z Z (sg0 Z Z Z Z ?_)))))))))
  refine sg0 Z Z Z Z (sg0 Z Z Z Z (sg0 Z Z Z Z (sg0 Z Z Z Z (CF (bK Z Z) (CH Z (CJ (aa (aG ?_))))))))
  refine aQ Tryz.results18 (.tmp Z (ao ?_))
  congr 1
  have : ¬ (x=y):=by intro e;subst e;simp at hb
  simp [this]
 ·have hs:(x<0)↔(y<0):=by simpa using hb
  refine CI (aj Z) (CI (ak 1 Z Z Z) (CI (aj Z) (CI (ak 0 Z Z Z) ?_)))
  refine CI (am (kU _ _) Z ⟨A,A,CK⟩) ?_
  refine CI (cZ Z) (CF (bp Z Z) (CG Z ?_))
  refine mY (t:=18) Z (fun b hb2 => ?_)
  rw [hb2]
  cases b
  ·refine sg0 Z Z Z Z (sg0 Z Z Z Z (sg0 Z Z Z Z (sg0 Z Z Z Z (sg0 Z Z Z Z (sg0 Z Z Z Z (CF (bK Z Z) (CH Z (CJ (aa ?_)))))))))
   refine aG ?_
   refine aQ Tryz.results18 (.tmp Z (ao ?_))
   congr 1
   simp at hb2
   have : ¬ (x=y):=by intro e;subst e;omega
   simp [this]
  ·simp at hb2
   refine CI (aj Z) (CI (ak 0 Z Z Z) (CI (aj Z) (CI (ak 1 Z Z Z) ?_)))
   refine CI (am (kU _ _) Z ⟨A,A,CK⟩) ?_
   refine CI (cZ Z) (CF (bp Z Z) (CH Z (CJ (aa (aG ?_)))))
   refine aQ Tryz.results18 (.tmp Z (ao ?_))
   congr 1
   rw [← decide_not,decide_eq_decide]
   omega
end Tor
end
section
namespace Tor
open Go Go.RowKit Go.Proofs
variable [Tor.Co.Kc]
theorem gG (l:List Nat) (k:Nat):lv (l.take (k+1))=lv (l.take k)+4294967296^k*l.getD k 0:=by
 by_cases hk:k<l.length
 ·exact bF hk
 ·rw [List.take_of_length_le X,List.take_of_length_le X]; simp [List.getElem?_eq_none (Nat.le_of_not_lt hk)]
structure RPlus (lx ly zl:List Nat) (c:Nat):Prop where
 lim:bv zl
 c1:c≤1
 val:lv zl+4294967296^zl.length*c=lv (lx.take zl.length)+lv (ly.take zl.length)
 len:zl.length≤max lx.length ly.length+1
 big:max lx.length ly.length<zl.length→c=0
theorem RPlus.step {lx ly zl:List Nat} {c:Nat} (h:RPlus lx ly zl c) (hx:bv lx) (hy:bv ly) (hgo:zl.length<lx.length∨zl.length<ly.length∨0<c) :
  RPlus lx ly (zl ++ [(c+lx.getD zl.length 0+ly.getD zl.length 0) % 4294967296]) ((c+lx.getD zl.length 0+ly.getD zl.length 0) / 4294967296):=by
 have h1:=aY hx zl.length
 have h2:=aY hy zl.length
 have h3:=h.c1
 refine ⟨fun d hd => ?_,by omega,?_,?_,?_⟩
 ·rcases List.mem_append.1 hd with hd | hd
  ·exact h.lim d hd
  ·simp at hd;omega
 ·simp only [List.length_append,List.length_cons,List.length_nil,Nat.zero_add]
  rw [fK,gG,gG,Nat.pow_succ]
  have hv:=h.val
  generalize lx.getD zl.length 0=x at *
  generalize ly.getD zl.length 0=y at *
  generalize 4294967296^zl.length=B at *
  have e:(c+x+y)=4294967296*((c+x+y) / 4294967296)+(c+x+y) % 4294967296:=by omega
  generalize (c+x+y) / 4294967296=q at *
  generalize (c+x+y) % 4294967296=r at *
  simp only [lv,Nat.mul_zero,Nat.add_zero]
  have e2:B*(c+x+y)=B*(4294967296*q+r):=by rw [e]
  simp only [Nat.mul_add,Nat.mul_assoc] at e2 ⊢
  omega
 ·simp only [List.length_append,List.length_cons,List.length_nil,Nat.zero_add]
  have:=h.big;omega
 ·simp only [List.length_append,List.length_cons,List.length_nil,Nat.zero_add]
  intro hb
  have e1:lx.getD zl.length 0=0:=by simp [List.getElem?_eq_none (show lx.length≤zl.length by omega)]
  have e2:ly.getD zl.length 0=0:=by simp [List.getElem?_eq_none (show ly.length≤zl.length by omega)]
  rw [e1,e2]; omega
theorem rf (zl:List Nat) (v:Nat) : ∀ q,q<zl.length+1→(if q<zl.length then one (.int .u32 (zl.getD q 0:Nat)) else one (.int .u32 (v:Nat)))=one (.int .u32 ((zl ++ [v]).getD q 0:Nat)):=by
 intro q hq
 rw [jE]
 by_cases h:q<zl.length
 ·rw [if_pos h,if_neg X]
 ·have:q=zl.length:=by omega
  subst this
  rw [if_neg h,if_pos Z]
theorem jh {sv:Option Nat} {T:TypeId} {L:Lay} {cap n m:Nat} {φ ψ:Nat→VT} (h:n=m) (H : ∀ q,q<n→φ q=ψ q):Own.le (aN sv T L cap n φ) (aN sv T L cap m ψ):=by
 subst h;exact bW H
theorem mH {sv:Option Nat} {n m cap:Nat} (h:n=m):VT.le (one (slV sv n cap)) (one (slV sv m cap)):=h▸VT.le_refl _
attribute [local irreducible] J PJ aJ one slT bL bG bD exT cn eP aU aN slV VT.le Ret bS
theorem xl (a b:Nat) (ha:(aC a).length≤1099511627776) (hb:(aC b).length≤1099511627776):Ok Tryz.prog 43 [cd (aC a),cd (aC b)] (np (a+b)):=by
 refine Ok.enter Tryz.func43 Z Tryz.ntmps43 Z (fun w O => ?_)
 have hx:=aX a
 have hy:=aX b
 have hva:=bN a
 have hvb:=bN b
 generalize aC a=lx at *
 generalize aC b=ly at *
 refine ae (ai (CH Z (CJ (aa (ae (ai (mo (n:=0) Z Z Z Z Z ?_)))))))
 refine PartsK.nil (fun b => ?_)
 refine CH Z (CH Z (CJ (aa (ae (ae (ai (CH Z (CJ (aa ?_)))))))))
 refine av ?_
 refine c8 (σ:=List Nat × Nat × Option Nat × Nat) (fun s => [(0,cd lx),(1,cd ly),(5,one (slV s.2.2.1 s.1.length s.2.2.2)),(6,one (.int .u64 (s.2.1:Nat))),(7,one (.int .i64 s.1.length))])
   (fun s => [aN s.2.2.1 83 .one s.2.2.2 s.1.length (fun q=>one (.int .u32 (s.1.getD q 0:Nat)))]) (fun s=>RPlus lx ly s.1 s.2.1) (fun s=>2*(max lx.length ly.length - s.1.length)+s.2.1) ([],0,some b,0)
   ⟨(fun d hd=>by cases hd),Nat.zero_le _,by simp [lv],by simp,by simp⟩ CB (.keep (bW (fun q hq=>by omega)) .nil) (fun s hR => ?_)
 obtain ⟨zl,c,sv0,cap0⟩:=s
 simp only at hR ⊢
 have h3:=hR.c1
 have hlen:=hR.len
 refine ae (ae ?_)
 refine fb (σ:=Unit) (fun _ => [(0,cd lx),(1,cd ly),(5,one (slV sv0 zl.length cap0)),(6,one (.int .u64 (c:Nat))),(7,one (.int .i64 zl.length)),(22,one (.bool (decide (zl.length<lx.length∨zl.length<ly.length∨0<c))))])
  (fun _ => [aN sv0 83 .one cap0 zl.length (fun q=>one (.int .u32 (zl.getD q 0:Nat)))]) (fun _=>True) ?_ (fun _ _ => ?_)
 ·refine ai (CG Z (CG Z (CF (aW Z) (CF (bq Z Z) (CG Z ?_)))))
  refine mY (t:=13) Z (fun b h1 => ?_)
  rw [h1]
  cases b
  ·simp at h1
   refine CI (ab Z) (CI (ab Z) (CI (aW Z) (CI (bq Z Z) (CF (bK Z Z) (CG Z ?_)))))
   refine mY (t:=19) Z (fun b h2 => ?_)
   rw [h2]
   cases b
   ·simp at h2
    refine CI (ab Z) (CI (dh Z Z) (CF (bK Z Z) (CJ ?_)))
    exact cJ () trivial (.cons Z A (.cons Z A (.cons Z A (.cons Z A (.cons Z A (.cons Z (ao (by congr 1;rw [decide_eq_decide]; omega)) .nil)))))) (SubM.refl _)
   ·simp at h2
    refine sg0 Z Z Z Z (sg0 Z Z Z Z (CF (bp Z Z) (CJ ?_)))
    exact cJ () trivial (.cons Z A (.cons Z A (.cons Z A (.cons Z A (.cons Z A (.cons Z (ao (by simp;omega)) .nil)))))) (SubM.refl _)
  ·simp at h1
   refine sg0 Z Z Z Z (sg0 Z Z Z Z (sg0 Z Z Z Z (sg0 Z Z Z Z (CF (bp Z Z) (CG Z (sg0 Z Z Z Z (sg0 Z Z Z Z (CF (bp Z Z) (CJ ?_)))))))))
   exact cJ () trivial (.cons Z A (.cons Z A (.cons Z A (.cons Z A (.cons Z A (.cons Z (ao (by simp;omega)) .nil)))))) (SubM.refl _)
 ·refine aa ?_
  refine bw Z (fun hc => ?_) (fun hc => ?_) <;> simp only [decide_eq_true_eq,decide_eq_false_iff_not] at hc
  ·have hstep:=hR.step hx hy hc
   have g1:=aY hx zl.length
   have g2:=aY hy zl.length
   refine aw (aa (ae (av (ae (ae (ai (CG Z (CG Z (CF (aW Z) ?_)))))))))
   refine CF (bq Z Z) (CJ (aa ?_))
   refine fb (σ:=Unit) (fun _ => [(0,cd lx),(1,cd ly),(5,one (slV sv0 zl.length cap0)),(6,one (.int .u64 (c+lx.getD zl.length 0:Nat))),(7,one (.int .i64 zl.length))])
    (fun _ => [aN sv0 83 .one cap0 zl.length (fun q=>one (.int .u32 (zl.getD q 0:Nat)))]) (fun _=>True) ?_ (fun _ _ => ?_)
   ·refine bw Z (fun hc2 => ?_) (fun hc2 => ?_) <;> simp only [decide_eq_true_eq,decide_eq_false_iff_not] at hc2
    ·refine ai (CG Z (CG Z (CG Z ?_)))
     (refine CF (aE Z Z ?_) ?_;omega)
     refine CF (aV Z) ?_
     (refine CF (bH Z ?_) ?_;omega)
     (refine CF (di Z Z ?_) ?_;omega)
     refine CH Z (CJ ?_)
     exact cJ () trivial CB (SubM.refl _)
    ·have e0:lx.getD zl.length 0=0:=by simp [List.getElem?_eq_none (show lx.length≤zl.length by omega)]
     refine aw ?_
     exact cJ () trivial CB (SubM.refl _)
   ·refine aa (ae (ae (ai (CG Z (CG Z (CF (aW Z) (CF (bq Z Z) (CJ (aa ?_)))))))))
    refine fb (σ:=Unit) (fun _ => [(0,cd lx),(1,cd ly),(5,one (slV sv0 zl.length cap0)),(6,one (.int .u64 (c+lx.getD zl.length 0+ly.getD zl.length 0:Nat))),(7,one (.int .i64 zl.length))])
     (fun _ => [aN sv0 83 .one cap0 zl.length (fun q=>one (.int .u32 (zl.getD q 0:Nat)))]) (fun _=>True) ?_ (fun _ _ => ?_)
    ·refine bw Z (fun hc2 => ?_) (fun hc2 => ?_) <;> simp only [decide_eq_true_eq,decide_eq_false_iff_not] at hc2
     ·refine ai (CG Z (CG Z (CG Z ?_)))
      (refine CF (aE Z Z ?_) ?_;omega)
      refine CF (aV Z) ?_
      (refine CF (bH Z ?_) ?_;omega)
      (refine CF (di Z Z ?_) ?_;omega)
      refine CH Z (CJ ?_)
      exact cJ () trivial CB (SubM.refl _)
     ·have e0:ly.getD zl.length 0=0:=by simp [List.getElem?_eq_none (show ly.length≤zl.length by omega)]
      refine aw ?_
      exact cJ () trivial CB (SubM.refl _)
    ·refine aa (ae (ai (CG Z (CG Z (CF (cw Z) (jW Z Z Z Z ?_))))))
     (refine cX 0 Z Z Z (leN Z) ?_ ?_ Z (ltN Z) (fun sv cap => ?_);omega;omega)
     refine CH Z (CJ (aa (ai (CG Z ?_))))
     (refine CF (t6 Z ?_) ?_;omega)
     refine CH Z (CJ (aL (aa (ai (CG Z ?_)))))
     (refine CF (cG Z Z (aO ?_ ?_)) ?_;omega;omega)
     refine CH Z (CJ ?_)
     refine cI (s:=(zl,c,sv0,cap0)) (zl ++ [(c+lx.getD zl.length 0+ly.getD zl.length 0) % 4294967296],(c+lx.getD zl.length 0+ly.getD zl.length 0) / 4294967296,sv,cap) hstep ?_ (.cons Z A (.cons Z A (.cons Z (mH (by simp)) (.cons Z A (.cons Z (ao (by simp)) .nil))))) (.keep (jh (by simp) (fun q hq=>rf zl _ q (by simpa using hq))) .nil)
     have h8:=hstep.c1
     have h9:=hstep.big
     have h10:=hR.big
     simp only [List.length_append,List.length_cons,List.length_nil,Nat.zero_add] at *
     omega
  ·refine a6 (ax (ax (aM (aa (ae (ai (CG Z (CH Z (CJ ?_)))))))))
   refine aa (aG (c4 (t:=4) (i:=0) Z Z ?_))
   refine aQ Tryz.results43 (.tmp Z (gk (l:=zl) hR.lim ?_ X))
   have h4:=hR.val
   have h5:c=0:=by omega
   rw [h5,List.take_of_length_le X,List.take_of_length_le X,hva,hvb] at h4
   omega
end Tor
end
section
namespace Tor
open Go Go.RowKit Go.Proofs
variable [Tor.Co.Kc]
theorem RMinus.step {lx ly zl:List Nat} {c:Nat} (h:MinusR lx ly zl c) (hx:bv lx) (hy:bv ly) (hl:ly.length≤lx.length) (hlt:zl.length<lx.length) :
  MinusR lx ly (zl ++ [(lx.getD zl.length 0+4294967296 - c - ly.getD zl.length 0) % 4294967296]) (if lx.getD zl.length 0<c+ly.getD zl.length 0 then 1 else 0):=by
 have h1:=aY hx zl.length
 have h2:=aY hy zl.length
 have h3:=h.c1
 have:=h.step hx hy hl hlt Z
 generalize lx.getD zl.length 0=x at *
 generalize ly.getD zl.length 0=y at *
 have e1:((x+18446744073709551616 - c) % 18446744073709551616+18446744073709551616 - y) % 18446744073709551616 % 4294967296=(x+4294967296 - c - y) % 4294967296:=by omega
 have e2:((x+18446744073709551616 - c) % 18446744073709551616+18446744073709551616 - y) % 18446744073709551616 / 9223372036854775808=if x<c+y then 1 else 0:=by split <;> omega
 rw [e1,e2] at this
 exact this
theorem vq (zl:List Nat) (v:Nat) : ∀ q,q<zl.length+1→v<4294967296→(if q<zl.length then one (.int .u32 (zl.getD q 0:Nat)) else one (.int .u32 (v % 4294967296:Nat)))=one (.int .u32 ((zl ++ [v]).getD q 0:Nat)):=by
 intro q hq hv
 rw [Nat.mod_eq_of_lt hv]
 exact rf zl v q hq
attribute [local irreducible] J PJ aJ one slT bL bG bD exT cn eP aU aN slV VT.le Ret bS
theorem oK (a b:Nat) (hab:b≤a) (ha:(aC a).length≤1099511627776):Ok Tryz.prog 45 [cd (aC a),cd (aC b)] (np (a - b)):=by
 refine Ok.enter Tryz.func45 Z Tryz.ntmps45 Z (fun w O => ?_)
 have hx:=aX a
 have hy:=aX b
 have hl:=cj hab
 have hva:=bN a
 have hvb:=bN b
 generalize aC a=lx at *
 generalize aC b=ly at *
 refine ae (ai (CH Z (CJ (aa (ae (ai (mo (n:=0) Z Z Z Z Z ?_)))))))
 refine PartsK.nil (fun b => ?_)
 refine CH Z (CH Z (CJ (aa (ae (ae (ai (CH Z (CJ (aa ?_)))))))))
 refine av ?_
 refine c8 (σ:=List Nat × Nat × Option Nat × Nat) (fun s => [(0,cd lx),(1,cd ly),(5,one (slV s.2.2.1 s.1.length s.2.2.2)),(6,one (.int .i64 (s.2.1:Nat))),(7,one (.int .i64 s.1.length))])
   (fun s => [aN s.2.2.1 83 .one s.2.2.2 s.1.length (fun q=>one (.int .u32 (s.1.getD q 0:Nat)))]) (fun s=>MinusR lx ly s.1 s.2.1) (fun s=>lx.length - s.1.length) ([],0,some b,0)
   ⟨by simp,(fun d hd=>by cases hd),Nat.zero_le _,by simp [lv]⟩ CB (.keep (bW (fun q hq=>by omega)) .nil) (fun s hR => ?_)
 obtain ⟨zl,c,sv0,cap0⟩:=s
 simp only at hR ⊢
 have h3:=hR.c1
 have hlen:=hR.len
 refine ae (ae (ai (CG Z (CG Z (CF (aW Z) (CF (bq Z Z) (CJ (aa ?_))))))))
 refine bw Z (fun hc => ?_) (fun hc => ?_) <;> simp at hc
 ·have hstep:=RMinus.step hR hx hy hl hc
  have g1:=aY hx zl.length
  have g2:=aY hy zl.length
  refine aw (aa (ae (av (ae (ai (CG Z (CG Z ?_)))))))
  (refine CF (aE Z Z ?_) ?_;omega)
  refine CF (aV Z) ?_
  (refine CF (db Z ?_ ?_) ?_;omega;omega)
  refine CG Z ?_
  (refine CF (dx Z Z (aO ?_ ?_)) ?_;omega;omega)
  refine CH Z (CJ (aa (ae (ae (ai (CG Z (CG Z (CF (aW Z) (CF (bq Z Z) ?_)))))))))
  refine CJ (aa ?_)
  refine fb (σ:=Unit) (fun _ => [(0,cd lx),(1,cd ly),(5,one (slV sv0 zl.length cap0)),(8,one (.int .i64 ((lx.getD zl.length 0:Nat) - (c:Nat) - (ly.getD zl.length 0:Nat)))),(7,one (.int .i64 zl.length))])
   (fun _ => [aN sv0 83 .one cap0 zl.length (fun q=>one (.int .u32 (zl.getD q 0:Nat)))]) (fun _=>True) ?_ (fun _ _ => ?_)
  ·refine bw Z (fun hc => ?_) (fun hc => ?_) <;> simp at hc
   ·refine ai (CG Z (CG Z (CG Z ?_)))
    (refine CF (aE Z Z ?_) ?_;omega)
    refine CF (aV Z) ?_
    (refine CF (db Z ?_ ?_) ?_;omega;omega)
    (refine CF (dx Z Z (aO ?_ ?_)) ?_;omega;omega)
    refine CH Z (CJ ?_)
    exact cJ () trivial CB (SubM.refl _)
   ·have e0:ly.getD zl.length 0=0:=by simp [List.getElem?_eq_none (show ly.length≤zl.length by omega)]
    refine aw ?_
    exact cJ () trivial CB (SubM.refl _)
  ·generalize lx.getD zl.length 0=x at *
   generalize ly.getD zl.length 0=y at *
   refine aa (ae (ai (CH Z (CJ (aa (ae (ae (ai (CG Z ?_)))))))))
   refine CF (bq Z Z) (CJ (aa ?_))
   refine fb (σ:=Unit) (fun _ => [(0,cd lx),(1,cd ly),(5,one (slV sv0 zl.length cap0)),(6,one (.int .i64 ((if x<c+y then 1 else 0:Nat)))),(8,one (.int .i64 ((x+4294967296 - c - y) % 4294967296:Nat))),(7,one (.int .i64 zl.length))])
    (fun _ => [aN sv0 83 .one cap0 zl.length (fun q=>one (.int .u32 (zl.getD q 0:Nat)))]) (fun _=>True) ?_ (fun _ _ => ?_)
   ·refine bw Z (fun hc => ?_) (fun hc => ?_) <;> simp at hc
    ·refine ae (ai (CG Z ?_))
     (refine CF (cG Z Z (aO ?_ ?_)) ?_;omega;omega)
     refine CH Z (CJ (aa (ai (CH Z (CJ ?_)))))
     rw [if_pos X]
     exact cJ () trivial (.cons Z A (.cons Z A (.cons Z A (.cons Z A (.cons Z (ao (by congr 1;omega)) (.cons Z A .nil)))))) (SubM.refl _)
    ·refine aw ?_
     rw [if_neg X]
     exact cJ () trivial (.cons Z A (.cons Z A (.cons Z A (.cons Z A (.cons Z (ao (by congr 1;omega)) (.cons Z A .nil)))))) (SubM.refl _)
   ·generalize (x+4294967296 - c - y) % 4294967296=d at *
    generalize (if x<c+y then 1 else 0)=c2 at *
    refine aa (ai (CG Z (CG Z (CF (cw Z) (jW Z Z Z Z ?_)))))
    (refine cX 0 Z Z Z (leN Z) ?_ ?_ Z (ltN Z) (fun sv cap => ?_);omega;omega)
    refine CH Z (CJ (aL (aa (ai (CG Z ?_)))))
    (refine CF (cG Z Z (aO ?_ ?_)) ?_;omega;omega)
    refine CH Z (CJ ?_)
    refine cI (s:=(zl,c,sv0,cap0)) (zl ++ [d],c2,sv,cap) hstep ?_ (.cons Z A (.cons Z A (.cons Z (mH (by simp)) (.cons Z A (.cons Z (ao (by simp)) .nil))))) (.keep (jh (by simp) (fun q hq=>vq zl _ q (by simpa using hq) (hstep.lim d (by simp)))) .nil)
    simp only [List.length_append,List.length_cons,List.length_nil,Nat.zero_add] at *
    omega
 ·have hlen:zl.length=lx.length:=by have:=hR.len;omega
  refine a6 (ax (ax (aM (aa (ae (ai (CG Z (CH Z (CJ ?_)))))))))
  refine aa (aG (c4 (t:=4) (i:=0) Z Z ?_))
  refine aQ Tryz.results45 (.tmp Z (gk (l:=zl) hR.lim ?_ X))
  have h4:=hR.val
  rw [hlen,List.take_length,List.take_of_length_le X,hva,hvb] at h4
  have h5:=gE hR.lim
  rw [hlen] at h5
  have h6:=gE hx
  rcases Nat.le_one_iff_eq_zero_or_eq_one.1 hR.c1 with h7 | h7 <;> simp only [h7,Nat.mul_zero,Nat.mul_one,Nat.add_zero] at h4 <;> omega
end Tor
end
section
namespace Tor
open Go Go.RowKit Go.Proofs
variable [Tor.Co.Kc]
theorem rg (u:Nat) (h:u<18446744073709551616):VT.le (slT .one 2 (fun q => [one (.int .u32 ((u / 4294967296 % 4294967296:Nat):Int)),one (.int .u32 ((u % 4294967296:Nat):Int))].reverse.getD q bS)) (np u):=by
 refine VT.le_trans (ci (m:=2) (ψ:=fun i=>one (.int .u32 ([u % 4294967296,u / 4294967296 % 4294967296].getD i 0:Nat))) Z (fun q hq => ?_)) (gk (l := [u % 4294967296,u / 4294967296 % 4294967296]) (fun d hd => ?_) ?_ (by simp))
 ·match q,hq with
  | 0, _ => rfl
  | 1, _ => rfl
 ·simp at hd;omega
 ·simp only [lv]; omega
attribute [local irreducible] J PJ aJ one slT bL bG bD exT cn eP aU aN slV VT.le Ret bS
theorem fo (n:Int) (h1 : -9223372036854775808≤n) (h2:n≤9223372036854775807):Ok Tryz.prog 12 [one (.int .i64 n)] (aP n):=by
 refine Ok.enter Tryz.func12 Z Tryz.ntmps12 Z (fun w O => ?_)
 by_cases hn:n<0
 ·refine ae (ai ?_)
  refine aD (T:=28) Z (ltN Z) (fun b => ?_)
  refine CJ (aa (ae (ai (CG Z (CF (i6 (r:=((18446744073709551616 - n.natAbs:Nat):Int)) Z (by rw [c7]; omega)) (CH Z (CJ (aa (ae ?_)))))))))
  refine ae (ai (CG Z (CF (bq Z Z) (CJ (aa ?_)))))
  refine bw Z (fun hc => ?_) (fun hc => ?_) <;> simp at hc
  ·refine ai (CG Z (CF (AB (r:=(n.natAbs:Int)) Z (by rw [c7]; omega)) (CH Z (CJ (aa (ae (ai (CG Z (CF (cw Z) ?_)))))))))
   refine CG Z (CF (fe Z) (CF (cw Z) (stS Z Z Z Z (PartsK.cons Z (PartsK.cons Z (PartsK.nil (CG Z (CF (bq Z Z) ?_))))))))
   refine CF (am (cY (decide (n<0)) n.natAbs) Z ⟨rg _ X,A,CK⟩) ?_
   refine au 0 Z Z Z Z Z (leN Z) Z (CJ (aa (aG ?_)))
   exact aQ Tryz.results12 (.cellB 0 Z Z Z (bV (by rw [decide_eq_true hn,if_pos Z]; omega)))
  ·omega
 ·refine ae (ai ?_)
  refine aD (T:=28) Z (ltN Z) (fun b => ?_)
  refine CJ (aa (ae (ai (CG Z (CF (i6 (r:=(n.natAbs:Int)) Z (by rw [c7]; omega)) (CH Z (CJ (aa (ae ?_)))))))))
  refine ae (ai (CG Z (CF (bq Z Z) (CJ (aa ?_)))))
  refine bw Z (fun hc => ?_) (fun hc => ?_) <;> simp at hc
  ·omega
  ·refine aw (aa (ae (ai (CG Z (CF (cw Z) (CG Z (CF (fe Z) (CF (cw Z) (stS Z Z Z Z ?_)))))))))
   refine PartsK.cons Z (PartsK.cons Z (PartsK.nil (CG Z (CF (bq Z Z) ?_))))
   refine CF (am (cY (decide (n<0)) n.natAbs) Z ⟨rg _ X,A,CK⟩) ?_
   refine au 0 Z Z Z Z Z (leN Z) Z (CJ (aa (aG ?_)))
   exact aQ Tryz.results12 (.cellB 0 Z Z Z (bV (by rw [decide_eq_false hn]; simp;omega)))
theorem zg (n1 n2:Bool) (v1 v2:Nat) (h1:(aC v1).length≤1099511627776) (h2:(aC v2).length≤1099511627776):Ok Tryz.prog 15 [sgT n1 v1,sgT n2 v2] (aP (sv n1 v1+sv n2 v2)):=by
 refine Ok.enter Tryz.func15 Z Tryz.ntmps15 Z (fun w O => ?_)
 refine ae (ai ?_)
 refine bm Z Z (ltN Z) (fun b => ?_)
 refine bm Z Z (ltN Z) (fun b => ?_)
 refine aD (T:=28) Z (ltN Z) (fun b => ?_)
 refine CJ (aa (ae (ae (ai (CF (aj Z) (CF (ak 2 Z Z Z) (CF (aj Z) (CF (ak 1 Z Z Z) (CF (wI Z Z) ?_)))))))))
 refine CJ (aa ?_)
 refine bw Z (fun hc => ?_) (fun hc => ?_) <;> simp at hc
 ·subst hc
  refine ae (bh 8 a8 Y U (CF (aj Z) (CF (ak 2 Z Z Z) (CF (aj Z) (CF (ak 1 Z Z Z) ?_)))))
  refine CF (am (xl _ _ h1 h2) Z ⟨A,A,CK⟩) ?_
  refine CF (aj Z) (CF (ak 2 Z Z Z) ?_)
  refine CF (am (cY _ _) Z ⟨A,A,CK⟩) ?_
  refine CJ (au 0 Z Z Z Z Z (leN Z) Z (CJ (aa (aG (aK ?_)))))
  exact aQ Tryz.results15 (.cellB 0 Z Z Z (bV (by unfold sv;split <;> omega)))
 ·refine aw (aa (ae (ae (ai (CF (aj Z) (CF (ak 2 Z Z Z) (CF (aj Z) (CF (ak 1 Z Z Z) ?_))))))))
  refine CF (am (kU _ _) Z ⟨A,A,CK⟩) ?_
  refine CJ (aa ?_)
  refine bw Z (fun hc2 => ?_) (fun hc2 => ?_) <;> simp at hc2
  ·refine ae (bh 8 a8 Y U (CF (aj Z) (CF (ak 1 Z Z Z) (CF (aj Z) (CF (ak 2 Z Z Z) ?_)))))
   refine CF (am (oK _ _ X h2) Z ⟨A,A,CK⟩) ?_
   refine CF (aj Z) (CF (ak 1 Z Z Z) ?_)
   refine CF (am (cY _ _) Z ⟨A,A,CK⟩) ?_
   refine CJ (au 0 Z Z Z Z Z (leN Z) Z (CJ (aa (aG (aK ?_)))))
   exact aQ Tryz.results15 (.cellB 0 Z Z Z (bV (by unfold sv;cases n1 <;> cases n2 <;> simp at hc ⊢ <;> omega)))
  ·refine aw (aa (ae (bh 8 a8 Y U (CF (aj Z) (CF (ak 2 Z Z Z) (CF (aj Z) (CF (ak 1 Z Z Z) ?_)))))))
   refine CF (am (oK _ _ X h1) Z ⟨A,A,CK⟩) ?_
   refine CF (aj Z) (CF (ak 2 Z Z Z) ?_)
   refine CF (am (cY _ _) Z ⟨A,A,CK⟩) ?_
   refine CJ (au 0 Z Z Z Z Z (leN Z) Z (CJ (aa (aG ?_))))
   exact aQ Tryz.results15 (.cellB 0 Z Z Z (bV (by unfold sv;cases n1 <;> cases n2 <;> simp at hc ⊢ <;> omega)))
end Tor
end
