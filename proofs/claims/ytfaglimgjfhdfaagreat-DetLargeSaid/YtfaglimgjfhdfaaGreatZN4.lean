/-
  Theorems that the proofs of laws of this seat rest on.
  No condition.
-/
import Derived.Test.YtfaglimgjfhdfaaGreatZN3
import Derived.RangeFuncFrom
import Derived.Test.YtfaglimgjfhdfaaGreatProg
set_option maxHeartbeats 20000000
set_option linter.unusedVariables false
set_option linter.unusedSimpArgs false
set_option linter.unusedSectionVars false
section
namespace Tor
open Go Go.RowKit
variable [Tor.Co.Kc]
section
variable {P:Program} {E:Env} {D:List Deferred} {Γ:Ctx} {M:Mem} {Q:Exit→Act→World→Prop}
def dfO (b:Nat):Own where
 bl := [b]
 p g _:=g b=some (.deferred (some []))
 loc:=fun he _ H=>(he _ (by simp)).symm.trans H
abbrev oW (b:Nat):Deferred := { target := .collected b,args := #[] }
class CellO (o:Own):Prop where
 h : ∀ g k,o.p g k → ∀ b∈o.bl, ∃ c T f,g b=some (.cells c T f)
theorem qo {g:RH} {b:Nat} {c:Array Value} {T:TypeId} {f:Nat × Nat} (e:vw g b=some (c,T,f)):g b=some (.cells c T f):=by
 unfold vw at e;split at e
 ·rename_i h;cases e;exact h
 ·cases e
instance {b:Nat} {T:TypeId} {m:Nat} {cs:bW} : CellO (aT b T m cs):=⟨fun g k ⟨c,h,_⟩ b' hb=>by
 rw [show b'=b by simpa [aT] using hb]; exact ⟨_,_,_,qo h⟩⟩
instance {sv:Option Nat} {T:TypeId} {L:Lay} {cap n:Nat} {φ:Nat→VT} : CellO (aH sv T L cap n φ):=⟨fun g k ⟨_,_,_,h⟩ b hb=>by
 obtain ⟨c,hc,_⟩:=h b (by simpa [aH] using hb);exact ⟨_,_,_,qo hc⟩⟩
class CellM (M:Mem):Prop where
 h : ∀ o∈M,CellO o
instance:CellM []:=⟨fun o h=>by cases h⟩
instance {o:Own} {M:Mem} [ho:CellO o] [hM:CellM M]:CellM (o :: M):=⟨fun x h=>by
 rcases List.mem_cons.1 h with rfl | h
 ·exact ho
 ·exact hM.h x h⟩
theorem CellM.get {M:Mem} (hc:CellM M) {E:Env} {w:World} (hB:Base E M w) {b:Nat} (hb:b∈aS M) : ∃ c T f,w.heap[b]? = some (Obj.cells c T f):=by
 obtain ⟨o,ho,hbo⟩:=List.mem_flatMap.1 hb
 exact (hc.h o ho).h _ _ (hB.mem o ho) b hbo
theorem St.grown {a:Act} {W W':World} {row:Option Nat} {B:Nat} (hc:CellM M) (hS:St E D Γ M a W) (hg:W.grownBy W' row) (hB:E.w0.heap.size≤B)
  (hr : ∀ r,row=some r→B≤r ∧ ∃ o:Obj,W.heap[r]? = some o∧o.isCells=false):St E D Γ M a W':=by
 have hk : ∀ b c T f,W.heap[b]? = some (Obj.cells c T f)→W'.heap[b]? = W.heap[b]? := fun b c T f e=>grownBy_keeps_cells hg (fun r e=>(hr r e).2) e Z
 have hle:Hp.le (hv E M W) (hv E M W'):=gW fun b x e=>by
  obtain ⟨c,T,f⟩:=x
  have:=dS e
  exact fR ((hk _ _ _ _ this).trans this)
 refine ⟨⟨fun o ho=>o.loc (fun b hb => ?_) hle (hS.base.mem o ho),hS.base.nd,hS.base.dis,hS.base.lo,fun b hb=>Nat.lt_of_lt_of_le (hS.base.ex b hb) hg.size,?_⟩,hS.sz,hS.df,fun t φ h=>φ.mono hle (hS.tm t φ h)⟩
 ·obtain ⟨c,T,f,e⟩:=(hc.h o ho).h _ _ (hS.base.mem o ho) b hb
  exact (hk b c T f e).symm
 ·have hf:=hS.base.fr
  refine ⟨hg.os.trans hf.os,hg.tape.trans hf.tape,hg.output.trans hf.output,Nat.le_trans hf.size hg.size,fun k hk hn=>(hg.block k (Nat.lt_of_lt_of_le hk hf.size) fun e => ?_).trans (hf.block k hk hn)⟩
  have:=(hr k e.symm).1
  omega
theorem St.from_ {a:Act} {w W:World} {M0:Mem} {r:Option Nat} (hB:Base E M0 w) (hS:St ⟨w,E.O,aS M0,E.N,r⟩ D Γ M a W):St E D Γ M a W :=
 ⟨⟨hS.base.mem,hS.base.nd,hS.base.dis,fun b hb=>(hS.base.lo b hb).elim (fun h => .inl (Nat.le_trans hB.fr.size h)) (fun h=>hB.lo b h),hS.base.ex,
  hB.fr.trans' hS.base.fr fun x hx=>hB.lo x hx⟩,hS.sz,hS.df,hS.tm⟩
theorem St.slots {a a':Act} {W W':World} {M':Mem} {r:Option Nat} {Γ':Ctx} (hS:St E D Γ M a W) (hS':St ⟨W,E.O,aS M,E.N,r⟩ [] Γ' M' a' W'):St E D Γ M' a W':=by
 have hle:Hp.le (hv E M W) (hv E M' W'):=by
  intro b x e
  obtain ⟨h1,h2⟩:=cW e
  have hlt:=d9 h2
  have hnM:b ∉ aS M:=fun h=>h1 (List.mem_append.2 (.inr h))
  refine eA (fun h => ?_) (by rw [gJ (hS'.base.fr.block b hlt hnM)]; exact h2)
  rcases List.mem_append.1 h with h | h
  ·exact h1 (List.mem_append.2 (.inl h))
  ·rcases hS'.base.lo b h with h3 | h3
   ·have h3:W.heap.size≤b:=h3
    omega
   ·exact hnM h3
 have hB:=(hS'.from_ hS.base).base
 exact ⟨hB,hS.sz,hS.df,fun t φ h=>φ.mono hle (hS.tm t φ h)⟩
structure SameW (W0 W:World):Prop where
 os:W.os=W0.os
 tape:W.tape=W0.tape
 output:W.output=W0.output
 size:W0.heap.size≤W.heap.size
theorem SameW.refl (W:World):SameW W W:=⟨rfl,rfl,rfl,Nat.le_refl _⟩
theorem SameW.trans {a b c:World} (h:SameW a b) (k:SameW b c):SameW a c:=⟨k.os.trans h.os,k.tape.trans h.tape,k.output.trans h.output,Nat.le_trans h.size k.size⟩
theorem SameW.ofExt {a b:World} (h:Ext a b):SameW a b:=⟨h.os,h.tape,h.output,h.size⟩
theorem SameW.put {W:World} {l:Nat} {o:Obj} : SameW W (W.putObj l o):=⟨rfl,rfl,rfl,by simp⟩
def i5 {β:Type} (J:β→World→Prop):Prop := ∀ s W W',J s W→Ext W W'→J s W'
def oX {α:Type} (P:Program) (l:Nat) (enc:α→Value) (J Jx:List α→World→Prop) (Nr:Nat):Prop :=
 ∀ pre x W1,J pre W1→pre.length<Nr → ∃ fn tmps ag bd,(Instr.yield l #[enc x]).run P W1 = .ok (.round l fn tmps ag bd) W1 ∧
  Co.RoundX P l fn tmps ag bd W1 fun e W'=>(e = .returned (.bool true)∧J (pre ++ [x]) W'∧SameW W1 W')∨(e = .returned (.bool false)∧Jx (pre ++ [x]) W')
def RY {α:Type} (S Sp:List α→Prop) (J Jx:List α→World→Prop) (e:Ending) (W:World):Prop:=(∃ v,e = .returned v)∧((∃ xs,S xs∧J xs W)∨(∃ pre,Sp pre∧Jx pre W))
def OkY {α:Type} (P:Program) (gf:FuncId) (cs:List VT) (enc:α→Value) (S Sp:List α→Prop) (N:Nat):Prop :=
 ∀ (w:World) (O:List Nat) (ca:List Value),(∀ b∈O,b<w.heap.size)→fb cs ca (hid O (view w)) → ∀ (l:Nat) (J Jx:List α→World→Prop),i5 J→i5 Jx→oX P l enc J Jx N→J [] w →
  jG P gf (.func (.yield l) #[] #[] :: ca).toArray w (RY S Sp J Jx)
def wB {α σ:Type} (E:Env) (Ms:σ→Mem) (ok:List α→σ→Prop) (okx:Option Nat→List α→σ→Prop) (pre:List α):Exit→Act→World→Prop
 | .normal, a, w => ∃ s, ok pre s ∧ St E [] [] (Ms s) a w
 | .ret, a, w => ∃ s, okx none pre s ∧ St E [] [] (Ms s) a w
 | .exit id, a, w => ∃ s, okx (some id) pre s ∧ St E [] [] (Ms s) a w
 | _, _, _ => False
theorem St.mark {a:Act} {W:World} {b:Nat} (hc:CellM M) (hS:St E D Γ M a W) (hb:E.w0.heap.size≤b) (hO:b ∉ E.O) (hh:W.heap[b]? = some (.deferred (some []))) :
  St E (oW b :: D) Γ (dfO b :: M) { a with defers:=oW b :: a.defers } W:=by
 have hn:b ∉ aS M:=fun h=>by obtain ⟨c,T,f,e⟩:=hc.get hS.base h;rw [hh] at e;cases e
 have hlt:b<W.heap.size:=(Array.getElem?_eq_some_iff.1 hh).1
 have hle:Hp.le (hv E M W) (hv E (dfO b :: M) W):=by
  intro x y e
  obtain ⟨h1,h2⟩:=cW e
  refine eA (fun h => ?_) h2
  have hx:x≠b:=fun e=>by subst e;unfold view at h2;rw [hh] at h2;cases h2
  simp only [List.mem_append,blks_cons,dfO,List.mem_singleton] at h
  rcases h with h | h | h
  ·exact h1 (List.mem_append.2 (.inl h))
  ·exact hx h
  ·exact h1 (List.mem_append.2 (.inr h))
 refine ⟨⟨?_,?_,?_,?_,?_,hS.base.fr⟩,hS.sz,by simp [hS.df],fun t φ h=>φ.mono hle (hS.tm t φ h)⟩
 ·intro o ho
  rcases List.mem_cons.1 ho with rfl | ho
  ·exact hh
  ·exact o.loc (fun _ _=>rfl) hle (hS.base.mem o ho)
 ·show (b :: aS M).Nodup
  exact List.nodup_cons.2 ⟨hn,hS.base.nd⟩
 ·intro x hx
  rcases List.mem_cons.1 (show x∈b :: aS M from hx) with rfl | h
  ·exact hO
  ·exact hS.base.dis x h
 ·intro x hx
  rcases List.mem_cons.1 (show x∈b :: aS M from hx) with rfl | h
  ·exact .inl hb
  ·exact hS.base.lo x h
 ·intro x hx
  rcases List.mem_append.1 hx with h | h
  ·exact hS.base.ex x (List.mem_append.2 (.inl h))
  ·rcases List.mem_cons.1 (show x∈b :: aS M from h) with rfl | h
   ·exact hlt
   ·exact hS.base.ex x (List.mem_append.2 (.inr h))
theorem tI {α σ:Type} {g:Operand} {p q id:Nat} {T:TypeId} {pos:String} {body:Code} {gf:FuncId} {cs:List VT} {enc:α→Value} {S Sp:List α→Prop} {N:Nat} [hF:Fn P gf]
  (hit:OkY P gf cs enc S Sp N) (Ms:σ→Mem) [hc : ∀ s,CellM (Ms s)] (ok:List α→σ→Prop) (okx:Option Nat→List α→σ→Prop) (s0:σ) (hE:E.R=none) (hg:aB Γ g=some (jB gf cs)) (h0:ok [] s0) (hm:SubM M (Ms s0))
  (hp:Nat.ble (p+1) E.N=true) (hq:Nat.ble (q+1) E.N=true) (hnd:fO body=true)
  (hround : ∀ (l:Nat) (W:World) (pre:List α) (x:α) (s:σ),ok pre s→pre.length<N →
   J P ⟨W,E.O,aS (Ms s),E.N,some l⟩ [] ((q,one (enc x)) :: (p,one (enc x)) :: Γ) (Ms s) body (wB ⟨W,E.O,aS (Ms s),E.N,some l⟩ Ms ok okx (pre ++ [x])))
  (hdone : ∀ (xs:List α) (s:σ) (b:Nat),S xs→ok xs s→PJ E [oW b] Γ (dfO b :: Ms s) .normal Q)
  (hret : ∀ (pre:List α) (s:σ) (b:Nat),Sp pre→okx none pre s→PJ E [oW b] Γ (dfO b :: Ms s) .ret Q)
  (hexit : ∀ (id:Nat) (pre:List α) (s:σ) (b:Nat),Sp pre→okx (some id) pre s→PJ E [oW b] Γ (dfO b :: Ms s) (.exit id) Q) :
  J P E [] Γ M (.rangeFunc g #[p] (.region id #[⟨some q, .assign (.tmp p),T,pos, #[],none⟩] false) body) Q:=by
 intro a w hS hok
 have hpb:cU body=true:=by
  have:=hok.plain
  simp only [cU,Bool.and_eq_true] at this
  exact this.2
 rw [hE]
 obtain ⟨ca,hg0,hca⟩:=cq hS hg
 have hp:=Nat.le_of_ble_eq_true hp
 have hq:=Nat.le_of_ble_eq_true hq
 have hdf:a.defers = []:=hS.df
 refine Co.wpX_rangeFunc (fun l => ?_) fun fn w₀ h₀ => ?_
 ·show Co.Plain P (Sem.bind (Deferred.ofValue (a.eval g) _) _)
  rw [hg0]; exact hF.plain _
 replace hS:=hS.ext h₀
 replace hca:=eI (gW (Ext.view h₀)) hca
 clear h₀
 obtain ⟨rec,hrec⟩ : ∃ rec:LoopState→Option Code→Loop,rec=fun st pe => { state:=st,pending:=pe,fn,tmps:=a.tmps,params := #[p],assign := .region id #[⟨some q, .assign (.tmp p),T,pos, #[],none⟩] false,body,defers:=w₀.heap.size } := ⟨_,rfl⟩
 obtain ⟨W1,hW1⟩ : ∃ W1,(w₀.alloc (.deferred (some []))).alloc (.loop (rec .ready none))=W1:=⟨_,rfl⟩
 have hL1:W1.heap[w₀.heap.size+1]? = some (.loop (rec .ready none)):=by
  rw [← hW1]; have:=World.alloc_heap_new (w₀.alloc (.deferred (some []))) (.loop (rec .ready none));rwa [World.size_alloc] at this
 have hK1:W1.heap[w₀.heap.size]? = some (.deferred (some [])):=by
  rw [← hW1]; exact (Below.heap_alloc _ _ _ (by simp)).trans (World.alloc_heap_new w₀ _)
 have hx1:Ext w₀ W1:=by
  rw [← hW1]; exact ((Below.refl _ w₀).alloc (Nat.le_refl _) _).alloc (by simp) _
 obtain ⟨E0,hE0⟩ : ∃ E0:Env,E0=⟨w₀,E.O,aS M,E.N,none⟩:=⟨_,rfl⟩
 have hS0:St E0 [] Γ M a w₀:=by rw [hE0]; exact ⟨⟨hS.base.mem,hS.base.nd,hS.base.dis,fun b hb => .inr hb,hS.base.ex,Fr.refl _ _⟩,hS.sz,hS.df,hS.tm⟩
 have put : ∀ (s:σ) (W:World) (l:Nat) (o o':Obj),w₀.heap.size≤l→W.heap[l]? = some o→o.isCells=false→St E0 [] Γ (Ms s) a W→St E0 [] Γ (Ms s) a (W.putObj l o'):=fun s W l o o' hl ho hc' h =>
  St.grown (hc s) h (grownBy_putObj' W l o') (by rw [hE0]; exact Nat.le_refl _) fun r e=>by cases e;exact ⟨hl,o,ho,hc'⟩
 obtain ⟨Jr,hJr⟩ : ∃ Jr:List α→World→Prop,Jr=fun pre W=>(∃ s,ok pre s∧St E0 [] Γ (Ms s) a W)∧W.heap[w₀.heap.size+1]? = some (.loop (rec .ready none))∧W.heap[w₀.heap.size]? = some (.deferred (some [])):=⟨_,rfl⟩
 obtain ⟨Jx,hJx⟩ : ∃ Jx:List α→World→Prop,Jx=fun pre W => ∃ (id:Option Nat) (c:Code),c=(match id with | none => .ret | some i => .exit i)∧(∃ s,okx id pre s∧St E0 [] Γ (Ms s) a W)∧W.heap[w₀.heap.size+1]? = some (.loop (rec .done (some c)))∧W.heap[w₀.heap.size]? = some (.deferred (some [])):=⟨_,rfl⟩
 have lt : ∀ {W:World} {k:Nat} {o:Obj},W.heap[k]? = some o→k<W.heap.size:=fun h=>(Array.getElem?_eq_some_iff.1 h).1
 have key:=hit W1 E.O ca (fun b hb=>Nat.lt_of_lt_of_le (hS.base.ex b (List.mem_append.2 (.inl hb))) hx1.size)
  (by
   refine eI (fun b x e => ?_) hca
   obtain ⟨h1,h2⟩:=cW e
   exact eA (fun h=>h1 (List.mem_append.2 (.inl h))) (Ext.view hx1 _ _ h2)) (w₀.heap.size+1) Jr Jx
  (fun s W W' h k=>by
   subst hJr
   obtain ⟨⟨s,h1,h2⟩,h3,h4⟩:=h
   exact ⟨⟨s,h1,h2.ext k⟩,(k.block _ (lt h3)).trans h3,(k.block _ (lt h4)).trans h4⟩)
  (fun s W W' h k=>by
   subst hJx
   obtain ⟨id,c,hc',⟨s,h1,h2⟩,h3,h4⟩:=h
   exact ⟨id,c,hc',⟨s,h1,h2.ext k⟩,(k.block _ (lt h3)).trans h3,(k.block _ (lt h4)).trans h4⟩)
  ?_ (by subst hJr;exact ⟨⟨s0,h0,(hS0.ext hx1).sub (dO.refl _) hm⟩,hL1,hK1⟩)
 ·refine ⟨w₀.heap.size+1, [oW w₀.heap.size],W1, { target := .fn (.func gf) ca.toArray,args := #[.func (.yield (w₀.heap.size+1)) #[] #[]] },gf, #[.func (.yield (w₀.heap.size+1)) #[] #[]] ++ ca.toArray,?_,?_,?_,?_⟩
  ·rw [← hW1,hrec]; exact run_enterLoop_outer _ _ _ _ _
  ·have hg0:a.eval g = .func (.func gf) #[] ca.toArray:=hg0
   simp only [resolve,hg0]
   simp [go_sem]
  ·exact hF.run (#[.func (.yield (w₀.heap.size+1)) #[] #[]] ++ ca.toArray) W1
  ·have he:(#[Value.func (.yield (w₀.heap.size+1)) #[] #[]] ++ ca.toArray)=(Value.func (.yield (w₀.heap.size+1)) #[] #[] :: ca).toArray:=by simp
   rw [he]
   refine key.mono ?_
   rintro e W3 ⟨⟨v,rfl⟩,h⟩ W4 k4
   have fin : ∀ (s:σ) (W:World),W.heap[w₀.heap.size]? = some (.deferred (some []))→St E0 [] Γ (Ms s) a W→St E [oW w₀.heap.size] Γ (dfO w₀.heap.size :: Ms s) { a with defers := [oW w₀.heap.size] ++ a.defers } W:=fun s W hh hs =>
    St.mark (hc s) ((hE0▸hs).from_ hS.base) hS.base.fr.size (fun h=>by have:=hS.base.ex _ (List.mem_append.2 (.inl h));omega) hh
   rcases h with ⟨xs,hxs,hj⟩ | ⟨pre,hsp,hj⟩
   ·subst hJr
    obtain ⟨⟨s,h1,h2⟩,h3,h4⟩:=hj
    replace h3:=(k4.block _ (lt h3)).trans h3
    replace h4:=(k4.block _ (lt h4)).trans h4
    refine ⟨none,_,by have:=run_endLoop (P:=P) h3 (by rw [hrec]; simp);rw [hrec] at this;exact this,?_⟩
    exact hdone xs s _ hxs h1 _ _ (fin s _ ((World.putObj_heap_other X).trans h4) (put s W4 _ _ _ X h3 Z (h2.ext k4)))
   ·subst hJx
    obtain ⟨id,c,hc',⟨s,h1,h2⟩,h3,h4⟩:=hj
    replace h3:=(k4.block _ (lt h3)).trans h3
    replace h4:=(k4.block _ (lt h4)).trans h4
    refine ⟨some c,W4.putObj (w₀.heap.size+1) (.loop { rec .done (some c) with state := .exhausted }),by have:=run_endLoop (P:=P) h3 (by rw [hrec]; simp);rw [hrec] at this ⊢; exact this,?_⟩
    have hfin:=fin s (W4.putObj (w₀.heap.size+1) (.loop { rec .done (some c) with state := .exhausted })) ((World.putObj_heap_other X).trans h4) (put s W4 _ _ _ X h3 Z (h2.ext k4))
    cases id with
    | none => obtain rfl : c = .ret := hc'; exact Co.wpX_ret (hret pre s _ hsp h1 _ _ hfin)
    | some i => obtain rfl : c = .exit i := hc'; exact Co.wpX_exit (hexit i pre s _ hsp h1 _ _ hfin)
 -- a round
 rintro pre x W hj hlen
 subst hJr
 obtain ⟨⟨s,hs,hSs⟩,hl,hk⟩:=hj
 have hlt:=lt hl
 have hy:=run_yield (P:=P) (args := #[enc x]) hl (by rw [hrec]; rfl)
 rw [hrec] at hy
 refine ⟨fn,_,_,body,hy,Co.roundX_of ?_⟩
 refine Co.wpX_region (OkC.ops (R:=some (w₀.heap.size+1)) (k:=id) (d:=false) ⟨.inr (by simp [fO,mg]),by simp [cU,Co.plainK,Co.freeK]⟩) ?_
 have e1:List.range (#[(⟨some q, .assign (.tmp p),T,pos, #[],none⟩:Oper)]).size = [0]:=rfl
 rw [e1]
 intro W2 k2
 have hv':(a.tmps.setIfInBounds p (enc x)).getD p undef=enc x:=by
  have:=hS.sz
  simp [Array.getD_eq_getD_getElem?,show p<a.tmps.size by omega]
 have hstep : ∀ K:Act→World→Prop,K (Act.put { tmps:=a.tmps.setIfInBounds p (enc x),defers := [] } (some q) (enc x)) W2→Co.wpOpX P #[(⟨some q, .assign (.tmp p),T,pos, #[],none⟩:Oper)] 0 K { tmps:=a.tmps.setIfInBounds p (enc x),defers := [] } W2:=fun K hK=>by
  unfold Co.wpOpX
  simp only [List.getElem?_toArray,List.getElem?_cons_zero]
  rw [if_pos (cO Z)]
  refine ⟨fun h=>(by cases h),?_⟩
  have e2:(execOp (Act.eval { tmps:=a.tmps.setIfInBounds p (enc x),defers := [] }) ⟨some q, .assign (.tmp p),T,pos, #[],none⟩).run P W2 = .ok (.value (enc x)) W2:=by simp [execOp,Act.eval,hv']
  rw [e2]; exact hK
 have e3:(Array.foldl (fun tmps (x:Tmp × Value)=>tmps.setIfInBounds x.1 x.2) a.tmps (Array.zip #[p] #[enc x]))=a.tmps.setIfInBounds p (enc x):=by simp
 simp only [Co.wpOpsX]
 have e4 : ∀ K:Act→World→Prop,K (Act.put { tmps:=a.tmps.setIfInBounds p (enc x),defers := [] } (some q) (enc x)) W2→Co.wpOpX P #[(⟨some q, .assign (.tmp p),T,pos, #[],none⟩:Oper)] 0 K { tmps:=Array.foldl (fun tmps (x:Tmp × Value)=>tmps.setIfInBounds x.1 x.2) a.tmps (Array.zip #[p] #[enc x]),defers := [] } W2:=fun K hK=>by rw [e3]; exact hstep K hK
 refine e4 _ ?_
 show ∀ w₂,Co.Grow W2 w₂→_
 intro W3 k3
 replace k3:=k2.trans k3
 replace hl:=(k3.block _ hlt).trans hl
 replace hk:=(k3.block _ (lt hk)).trans hk
 replace hSs:=hSs.ext k3
 have hs13:=SameW.ofExt k3
 clear hlt k2 k3 hstep hy
 have hlt:=lt hl
 refine ⟨_,run_beginRound hl (by rw [hrec]),?_⟩
 have hl2:(W3.putObj (w₀.heap.size+1) (.loop { rec .ready none with state := .busy })).heap[w₀.heap.size+1]? = some (.loop { rec .ready none with state := .busy }):=World.putObj_heap_same hlt
 have hk2:(W3.putObj (w₀.heap.size+1) (.loop { rec .ready none with state := .busy })).heap[w₀.heap.size]? = some (.deferred (some [])):=(World.putObj_heap_other X).trans hk
 have hSp:=put s W3 (w₀.heap.size+1) _ (.loop { rec .ready none with state := .busy }) X hl Z hSs
 have hs14:=hs13.trans (SameW.put (W:=W3) (l:=w₀.heap.size+1) (o := .loop { rec .ready none with state := .busy }))
 generalize hW4:W3.putObj (w₀.heap.size+1) (.loop { rec .ready none with state := .busy })=W4 at hl2 hk2 hSp hs14 ⊢
 have hsz:=hSp.sz
 have hS1:St ⟨W4,E.O,aS (Ms s),E.N,some (w₀.heap.size+1)⟩ [] Γ (Ms s) { tmps:=a.tmps,defers := [] } W4:=by
  have hSp:=hE0▸hSp
  exact ⟨⟨hSp.base.mem,hSp.base.nd,hSp.base.dis,fun b hb => .inr hb,hSp.base.ex,Fr.refl _ _⟩,hSp.sz,rfl,hSp.tm⟩
 have hS2:=(hS1.put (Ext.refl W4) (d:=p) hp (ψ:=one (enc x)) (v:=enc x) Z).put (Ext.refl W4) (d:=q) hq (ψ:=one (enc x)) (v:=enc x) Z
 refine Co.wpX_mono (hround (w₀.heap.size+1) W4 pre x s hs hlen _ W4 hS2 ⟨.inr hnd,hpb⟩) ?_
 have keep : ∀ (s':σ) (a':Act) (W' W'':World) (j:Option Code),St ⟨W4,E.O,aS (Ms s),E.N,some (w₀.heap.size+1)⟩ [] [] (Ms s') a' W'→Ext W' W'' →
   (Instr.endRound (w₀.heap.size+1) j).run P W'' = .ok (.bool j.isNone) (W''.putObj (w₀.heap.size+1) (.loop (rec (if j.isNone then .ready else .done) j))) ∧
   St E0 [] Γ (Ms s') a (W''.putObj (w₀.heap.size+1) (.loop (rec (if j.isNone then .ready else .done) j)))∧SameW W (W''.putObj (w₀.heap.size+1) (.loop (rec (if j.isNone then .ready else .done) j))) ∧
   (W''.putObj (w₀.heap.size+1) (.loop (rec (if j.isNone then .ready else .done) j))).heap[w₀.heap.size+1]? = some (.loop (rec (if j.isNone then .ready else .done) j)) ∧
   (W''.putObj (w₀.heap.size+1) (.loop (rec (if j.isNone then .ready else .done) j))).heap[w₀.heap.size]? = some (.deferred (some [])):=by
  intro s' a' W' W'' j h' k'
  have nc : ∀ {k:Nat} {o:Obj},W4.heap[k]? = some o→o.isCells=false→W''.heap[k]? = some o:=fun {k o} hk ho=>by
   have h1:W'.heap[k]? = W4.heap[k]? := h'.base.fr.block k (lt hk) fun hm'=>by
    obtain ⟨c,T,f,e⟩:=(hc s).get hSp.base hm'
    rw [hk] at e;cases e;cases ho
   exact (k'.block k (lt (h1.trans hk))).trans (h1.trans hk)
  have hl3:=nc hl2 Z
  have hk3:=nc hk2 Z
  have h5:St E0 [] Γ (Ms s') a W':=by
   have:=(hE0▸hSp).slots h'
   rw [hE0]; exact this
  refine ⟨?_,put s' W'' _ _ _ X hl3 Z (h5.ext k'),?_,World.putObj_heap_same (lt hl3),(World.putObj_heap_other X).trans hk3⟩
  ·have:=run_endRound (P:=P) j hl3
   rw [hrec] at this ⊢
   exact this
  ·exact ((hs14.trans ⟨h'.base.fr.os,h'.base.fr.tape,h'.base.fr.output,h'.base.fr.size⟩).trans (SameW.ofExt k')).trans SameW.put
 rintro e a' W' hp'
 cases e with
 | normal =>
  obtain ⟨s',h1,h2⟩:=hp'
  intro W'' k'
  obtain ⟨q1,q2,q3,q4,q5⟩:=keep s' a' W' W'' none h2 k'
  exact ⟨_,_,q1, .inl ⟨rfl,⟨⟨s',h1,q2⟩,q4,q5⟩,q3⟩⟩
 | ret =>
  obtain ⟨s',h1,h2⟩:=hp'
  intro W'' k'
  obtain ⟨q1,q2,q3,q4,q5⟩:=keep s' a' W' W'' (some .ret) h2 k'
  subst hJx
  exact ⟨_,_,q1, .inr ⟨rfl,none,_,rfl,⟨s',h1,q2⟩,q4,q5⟩⟩
 | exit i =>
  obtain ⟨s',h1,h2⟩:=hp'
  intro W'' k'
  obtain ⟨q1,q2,q3,q4,q5⟩:=keep s' a' W' W'' (some (.exit i)) h2 k'
  subst hJx
  exact ⟨_,_,q1, .inr ⟨rfl,some i,_,rfl,⟨s',h1,q2⟩,q4,q5⟩⟩
 | _ => exact hp'.elim
/-! ### The end of a round -/
section
variable {α σ:Type} {Ms:σ→Mem} {ok:List α→σ→Prop} {okx:Option Nat→List α→σ→Prop} {pre:List α}
theorem qp (s:σ) (h:ok pre s) (hm:SubM M (Ms s)):PJ E [] Γ M .normal (wB E Ms ok okx pre):=fun a w hS=>⟨s,h,hS.sub .nil hm⟩
theorem tJ (s:σ) (h:okx none pre s) (hm:SubM M (Ms s)):PJ E [] Γ M .ret (wB E Ms ok okx pre):=fun a w hS=>⟨s,h,hS.sub .nil hm⟩
end
/-! ### The functions that range -/
abbrev jr (P:Program) (fn:Func) (R:Ending→World→Prop):Exit→Act→World→Prop:=Co.bodyXM P fn R
theorem l7 {b:Nat} {fn:Func} {R:Ending→World→Prop} (h:PJ E [] Γ M .ret (cG P fn R)):PJ E [oW b] Γ (dfO b :: M) .ret (jr P fn R):=by
 intro a w hS
 refine .inr ⟨b, #[],hS.df,fun w₁ k₁ => ?_⟩
 replace hS:=hS.ext k₁
 have hh:w₁.heap[b]? = some (.deferred (some [])):=hS.base.mem (dfO b) (by simp)
 have hnd:=List.nodup_cons.1 (show (b :: aS M).Nodup from hS.base.nd)
 have hbO:b ∉ E.O:=hS.base.dis b (by simp [dfO])
 have hne : ∀ k,k≠b→(w₁.putObj b (.deferred none)).heap[k]? = w₁.heap[k]? := fun k hk=>World.putObj_heap_other hk
 have hle:Hp.le (hv E (dfO b :: M) w₁) (hv E M (w₁.putObj b (.deferred none))):=by
  intro x y e
  obtain ⟨h1,h2⟩:=cW e
  have hx:x≠b:=fun e=>h1 (List.mem_append.2 (.inr (by simp [dfO,e])))
  refine eA (fun h=>h1 ?_) (by rw [gJ (hne x hx)]; exact h2)
  rcases List.mem_append.1 h with h | h
  ·exact List.mem_append.2 (.inl h)
  ·exact List.mem_append.2 (.inr (List.mem_cons_of_mem (a:=x) b h))
 have hS':St E [] Γ M { a with defers := [] } (w₁.putObj b (.deferred none)):=by
  refine ⟨⟨fun o ho=>o.loc (fun x hx => ?_) hle (hS.base.mem o (List.mem_cons_of_mem _ ho)),hnd.2,fun x hx=>hS.base.dis x (List.mem_cons_of_mem (a:=x) b hx),
   fun x hx=>hS.base.lo x (List.mem_cons_of_mem (a:=x) b hx),fun x hx => ?_,?_⟩,hS.sz,rfl,fun t φ ht=>φ.mono hle (hS.tm t φ ht)⟩
  ·exact (hne x fun e=>hnd.1 (e▸cJ ho hx)).symm
  ·rw [World.putObj_size]
   refine hS.base.ex x ?_
   rcases List.mem_append.1 hx with h | h
   ·exact List.mem_append.2 (.inl h)
   ·exact List.mem_append.2 (.inr (List.mem_cons_of_mem (a:=x) b h))
  ·have hf:=hS.base.fr
   refine ⟨hf.os,hf.tape,hf.output,by simpa using hf.size,fun k hk hn=>(hne k fun e => ?_).trans (hf.block k hk hn)⟩
   subst e
   rcases hS.base.lo k (by simp [dfO]) with h1 | h1
   ·omega
   ·exact hn h1
 obtain ⟨_,hR⟩:=h _ _ hS'
 exact ⟨_,run_takeDeferred hh,hR⟩
theorem uO {fn:Func} {R:Ending→World→Prop} (h:PJ E [] Γ M .ret (cG P fn R)):PJ E [] Γ M .ret (jr P fn R):=fun a w hS => .inl ⟨(h a w hS).2,(h a w hS).1⟩
theorem Az {f:FuncId} {fn:Func} {c:Code} {N:Nat} {w:World} {O:List Nat} {φs:List VT} {vs:List Value} {R:Ending→World→Prop}
  (hf:P.funcs[f]? = some fn) (hb:fn.body=some c) (hN:fn.ntmps=N) (hO : ∀ b∈O,b<w.heap.size) (hv':fb φs vs (hid O (view w))) (hle:φs.length≤N)
  (h:J P ⟨w,O, [],N,none⟩ [] (fK 0 φs) [] c (jr P fn R)) (hpl:cU c=true:=by kernel_rfl):jG P f vs.toArray w R:=by
 have hl:=gX hv'
 refine Co.callsXM_of hf hb (h _ w ⟨⟨by simp,by simp,by simp,by simp,?_,Fr.refl _ _⟩,?_,rfl,?_⟩ ⟨.inl Z,hpl⟩)
 ·intro b hb';exact hO b (by simpa using hb')
 ·simp [hN]; omega
 ·intro t φ e
  obtain ⟨v,_,h2,h3⟩:=eM e hv'
  have h4:hv ⟨w,O, [],N,none⟩ [] w=hid O (view w):=by simp [hv]
  rw [h4]
  rw [Nat.sub_zero] at h2
  have hlt:=(List.getElem?_eq_some_iff.1 h2).1
  rw [Array.getD_eq_getD_getElem?,Array.getElem?_append_left (by simpa using hlt)]
  simpa [h2] using h3
theorem Ok.enterR {f:FuncId} {fn:Func} {c:Code} {N:Nat} {φs:List VT} {ψ:VT} (hf:P.funcs[f]? = some fn) (hb:fn.body=some c) (hN:fn.ntmps=N) (hle:Nat.ble φs.length N=true)
  (h : ∀ (w:World) (O:List Nat),J P ⟨w,O, [],N,none⟩ [] (fK 0 φs) [] c (jr P fn (Ret O ψ w))) (hpl:cU c=true:=by kernel_rfl):Ok P f φs ψ :=
 fun w O vs hO hv=>Tor.Az hf hb hN hO hv (Nat.le_of_ble_eq_true hle) (h w O) hpl
end
end Tor
end
section
namespace Tor
open Go Go.RowKit
variable [Tor.Co.Kc]
def yO (W:World):Own where
 bl:=List.range W.heap.size
 p g _ := ∀ b,b<W.heap.size→g b=W.heap[b]?
 loc:=fun he _ H b hb=>(he b (List.mem_range.2 hb)).symm.trans (H b hb)
def jC (W:World) (N:Nat):Env:=⟨W, [],List.range W.heap.size,N,none⟩
def nR (Γ:Ctx):Prop := ∀ t φ,bt Γ t=some φ → ∃ v, φ=one v
theorem nR.nil:nR []:=fun t φ h=>by cases h
theorem nR.cons {t:Nat} {v:Value} {Γ:Ctx} (h:nR Γ):nR ((t,one v) :: Γ):=fun s φ e=>by
 rw [aW] at e
 split at e
 ·cases e;exact ⟨v,rfl⟩
 ·exact h s φ e
section
variable {P:Program} {E:Env} {D:List Deferred} {Γ:Ctx} {M:Mem} {Q:Exit→Act→World→Prop} {a:Act} {w W w1:World} {N:Nat}
theorem St.tY (hS:St E D Γ M a w) {Γk:Ctx} (hg:dO Γ Γk) (hf:nR Γk) (W0 W':World) (hs:SameW W0 W'):St (jC W0 E.N) D Γk [yO W'] a W':=by
 refine ⟨⟨fun o ho => ?_,by simpa [yO] using List.nodup_range,fun b _=>by simp [jC],fun b _ => ?_,fun b hb => ?_,?_⟩,hS.sz,hS.df,fun t φ ht => ?_⟩
 ·rw [List.mem_singleton.1 ho]; exact fun b _=>rfl
 ·rcases Nat.lt_or_ge b W0.heap.size with h | h
  ·exact .inr (List.mem_range.2 h)
  ·exact .inl h
 ·simpa [jC,yO] using hb
 ·exact ⟨hs.os,hs.tape,hs.output,hs.size,fun k hk hn=>absurd (List.mem_range.2 hk) hn⟩
 ·obtain ⟨φ',h1,h2⟩:=hg t φ ht
  obtain ⟨v,rfl⟩:=hf t φ ht
  have:=h2 _ _ (hS.tm t φ' h1)
  exact this
theorem St.extY (hS:St (jC w1 N) D Γ [yO W] a w) (hs:SameW w1 W):Ext W w:=by
 have hf:=hS.base.fr
 have hm : ∀ b,b<W.heap.size→w.heap[b]? = W.heap[b]? := hS.base.mem (yO W) (by simp)
 refine ⟨hf.os.trans hs.os.symm,hf.tape.trans hs.tape.symm,hf.output.trans hs.output.symm,?_,fun k hk=>hm k hk⟩
 rcases Nat.eq_zero_or_pos W.heap.size with h | h
 ·omega
 ·have:=hS.base.ex (W.heap.size - 1) (by simp [jC,yO]; omega)
  omega
theorem qr {β:Type} {J:β→World→Prop} (hJ:i5 J) {s:β} (h:J s W) (k:Ext W w):J s w:=hJ s W w h k
variable {ops:Array Oper}
section
variable {α:Type} {l:Nat} {enc:α→Value} {J Jx:List α→World→Prop} {Nr:Nat} {S Sp:List α→Prop}
theorem wC {P:Program} (l:Nat) (args:Array Value):Co.Plain P (Instr.yield l args):=by
 unfold Instr.yield
 refine (Co.pl_getLoop l).bind fun r => ?_
 split
 ·exact (Co.pl_stk _).bind fun _=>Co.pl_ret _
 ·exact Co.pl_ret _
theorem wD {id m d:Nat} {t x:Operand} {ats:Array TypeId} {ty:TypeId} {pos:String} {af:Array Edge} {pre:List α} (v:α) (Γk:Ctx) (hY:oX P l enc J Jx Nr) (hA:i5 J) (hs:SameW w1 W) (hJ:J pre W) (hlen:pre.length<Nr)
  (hm:ops[m]? = some ⟨some d, .call ⟨.value t, #[x],ats⟩,ty,pos,af,none⟩) (hd:Nat.ble (d+1) N=true) (hf:nR Γk)
  (h:Run P (jC w1 N) ops false 0 [] Γ [yO W] (ops.toList.take m) (fun D' Γ' M'=>D' = []∧M' = [yO W]∧aB Γ' t=some (one (.func (.yield l) #[] #[]))∧aB Γ' x=some (one (enc v))∧dO Γ' Γk))
  (h1 : ∀ W',J (pre ++ [v]) W'→SameW w1 W'→Run P (jC w1 N) ops false (m+1) [] ((d,one (.bool true)) :: Γk) [yO W'] (ops.toList.drop (m+1)) (fun D' Γ' M'=>PJ (jC w1 N) D' Γ' M' .normal Q))
  (h2 : ∀ W',Jx (pre ++ [v]) W'→Run P (jC W' N) ops false (m+1) [] ((d,one (.bool false)) :: Γk) [yO W'] (ops.toList.drop (m+1)) (fun D' Γ' M'=>PJ (jC W' N) D' Γ' M' .normal Q)) :
  Tor.J P (jC w1 N) [] Γ [yO W] (.region id ops false) Q:=by
 intro a w hS hok
 have hlt:m<ops.size:=(Array.getElem?_eq_some_iff.1 hm).1
 have hd:=Nat.le_of_ble_eq_true hd
 refine Co.wpX_region hok.ops ?_
 have e:List.range ops.size=List.range' 0 (ops.toList.take m).length ++ (m :: List.range' (m+1) (ops.size - (m+1))):=by
  rw [List.range_eq_range',show (ops.toList.take m).length=m by simp;omega, ← List.range'_succ,show ops.size - (m+1)+1=ops.size - m by omega]
  have := @List.range'_append 0 m (ops.size - m) 1
  simp only [Nat.one_mul,Nat.zero_add] at this
  rw [this]; congr 1;omega
 rw [e]
 refine h.seq (Q .normal) _ (fun j hj => ?_) (fun D' Γ' M' a w hK hS => ?_) a w hS
 ·have hj':j<m:=by simp at hj;omega
  simp [List.getElem?_take,hj']
 ·obtain ⟨rfl,rfl,ht,hx,hg⟩:=hK
  intro w' k'
  replace hS:=hS.ext k'
  have e1:=cq hS ht
  have e2:=cq hS hx
  have e1:a.eval t = .func (.yield l) #[] #[]:=e1
  have e2:a.eval x=enc v:=e2
  obtain ⟨fn,tmps,assign,body,hy,hR⟩:=hY pre v w' (qr hA hJ (hS.extY hs)) hlen
  have tail : ∀ (E':Env) (b:Bool) (a':Act) (W':World),St E' [] ((d,one (.bool b)) :: Γk) [yO W'] a' W' →
    Run P E' ops false (m+1) [] ((d,one (.bool b)) :: Γk) [yO W'] (ops.toList.drop (m+1)) (fun D' Γ' M'=>PJ E' D' Γ' M' .normal Q) →
    Co.wpOpsX P ops (Q .normal) (List.range' (m+1) (ops.size - (m+1))) a' W':=by
   intro E' b a' W' hS' hr
   have:=hr.seq (Q .normal) [] (fun j _=>by simp [List.getElem?_drop]) (fun D' Γ' M' a w hK hS=>hK a w hS) a' W' hS'
   simpa using this
  unfold Co.wpOpX
  simp only [hm]
  rw [if_pos (cO Z)]
  refine ⟨fun _ => ?_,?_⟩
  ·show Co.Plain P (Sem.bind (Deferred.ofValue (a.eval t) _) _)
   rw [e1]; exact wC _ _
  have hr:(execOp a.eval ⟨some d, .call ⟨.value t, #[x],ats⟩,ty,pos,af,none⟩).run P w' = .ok (.round l fn tmps assign body) w':=by
   simpa [execOp,resolve,Deferred.ofValue,invoke,e1,e2] using hy
  rw [hr]
  refine fun c m cs Stop hc=>hR c m cs Stop fun v' W' hq=>hc v' W' ?_
  rcases hq with ⟨he,hJ',hk⟩ | ⟨he,hJx'⟩
  ·cases he
   have hw:SameW w1 W':=⟨hk.os.trans hS.base.fr.os,hk.tape.trans hS.base.fr.tape,hk.output.trans hS.base.fr.output,Nat.le_trans hS.base.fr.size hk.size⟩
   exact tail (jC w1 N) true _ W' ((hS.tY hg hf w1 W' hw).put (Ext.refl _) (d:=d) (show d<N from hd) (ψ:=one (.bool true)) Z) (h1 W' hJ' hw)
  ·cases he
   exact tail (jC W' N) false _ W' ((hS.tY hg hf W' W' (SameW.refl _)).put (Ext.refl _) (d:=d) (show d<N from hd) (ψ:=one (.bool false)) Z) (h2 W' hJx')
theorem qs {fn:Func} (hr:fn.results = #[]) (hA:i5 J) {xs:List α} (hJ:J xs W) (hS:S xs) (hs:SameW w1 W):PJ (jC w1 N) [] Γ [yO W] .normal (cG P fn (RY S Sp J Jx)):=by
 intro a w hSt
 exact ⟨hSt.df,fun w₁ k₁=>⟨.tuple #[],by simp [results,hr],⟨_,rfl⟩, .inl ⟨xs,hS,qr hA hJ ((hSt.extY hs).trans k₁)⟩⟩⟩
theorem qu {fn:Func} (hr:fn.results = #[]) (hA:i5 Jx) {pre:List α} (hJ:Jx pre W) (hS:Sp pre) (hs:SameW w1 W):PJ (jC w1 N) [] Γ [yO W] .ret (cG P fn (RY S Sp J Jx)):=by
 intro a w hSt
 exact ⟨hSt.df,fun w₁ k₁=>⟨.tuple #[],by simp [results,hr],⟨_,rfl⟩, .inr ⟨pre,hS,qr hA hJ ((hSt.extY hs).trans k₁)⟩⟩⟩
theorem Ad {c:Code} (Γk:Ctx) {w0:World} (hg:dO Γ Γk) (hf:nR Γk) (h : ∀ w,Ext w0 w→Tor.J P (jC w N) [] Γk [yO w] c Q):Tor.J P ⟨w0, [], [],N,none⟩ [] Γ M c Q :=
 fun a w hS=>h w hS.base.fr.toExt a w (hS.tY hg hf w w (SameW.refl _))
theorem OkY.enter {f:FuncId} {fn:Func} {c:Code} {N:Nat} {cs:List VT} (hf:P.funcs[f]? = some fn) (hb:fn.body=some c) (hN:fn.ntmps=N) (hle:Nat.ble (cs.length+1) N=true)
  (h : ∀ (w0:World) (l:Nat) (J Jx:List α→World→Prop) (B:Nat),i5 J→i5 Jx→oX P l enc J Jx Nr→J [] w0 →
   Tor.J P ⟨w0, [], [],N,none⟩ [] ((0,one (.func (.yield l) #[] #[])) :: fK 1 cs) [] c (cG P fn (RY S Sp J Jx))) (hpl:cU c=true:=by kernel_rfl):OkY P f cs enc S Sp Nr:=by
 intro w O ca hO hca l J Jx hA hAx hY h0
 have hv':fb (one (.func (.yield l) #[] #[]) :: cs) (.func (.yield l) #[] #[] :: ca) (hid [] (view w)):=by
  refine ⟨rfl,eI (fun b x e => ?_) hca⟩
  obtain ⟨h1,h2⟩:=cW e
  exact eA (by simp) h2
 exact Tor.enter (R:=RY S Sp J Jx) hf hb hN (O := []) (by simp) hv' (Nat.le_of_ble_eq_true hle) (h w l J Jx 0 hA hAx hY h0) hpl
end
end
end Tor
end
section
set_option maxRecDepth 100000
namespace Tor
open Go Go.Proofs
variable [Tor.Co.Kc]
instance:LayOf Tryz.prog 2 (.one):=⟨by kernel_rfl,by kernel_rfl⟩
instance:LayOf Tryz.prog 3 (.one):=⟨by kernel_rfl,by kernel_rfl⟩
instance:LayOf Tryz.prog 4 (.one):=⟨by kernel_rfl,by kernel_rfl⟩
instance:LayOf Tryz.prog 5 (.one):=⟨by kernel_rfl,by kernel_rfl⟩
instance:LayOf Tryz.prog 22 (.one):=⟨by kernel_rfl,by kernel_rfl⟩
instance:LayOf Tryz.prog 24 (.agg 3):=⟨by kernel_rfl,by kernel_rfl⟩
instance:LayOf Tryz.prog 26 (.one):=⟨by kernel_rfl,by kernel_rfl⟩
instance:LayOf Tryz.prog 28 (.agg 2):=⟨by kernel_rfl,by kernel_rfl⟩
instance:LayOf Tryz.prog 33 (.one):=⟨by kernel_rfl,by kernel_rfl⟩
instance:LayOf Tryz.prog 35 (.agg 3):=⟨by kernel_rfl,by kernel_rfl⟩
instance:LayOf Tryz.prog 39 (.one):=⟨by kernel_rfl,by kernel_rfl⟩
instance:LayOf Tryz.prog 46 (.one):=⟨by kernel_rfl,by kernel_rfl⟩
instance:LayOf Tryz.prog 47 (.one):=⟨by kernel_rfl,by kernel_rfl⟩
instance:LayOf Tryz.prog 50 (.agg 2):=⟨by kernel_rfl,by kernel_rfl⟩
instance:LayOf Tryz.prog 58 (.one):=⟨by kernel_rfl,by kernel_rfl⟩
instance:LayOf Tryz.prog 65 (.one):=⟨by kernel_rfl,by kernel_rfl⟩
instance:LayOf Tryz.prog 83 (.one):=⟨by kernel_rfl,by kernel_rfl⟩
instance:LayOf Tryz.prog 93 (.one):=⟨by kernel_rfl,by kernel_rfl⟩
instance:LayOf Tryz.prog 95 (.agg 3):=⟨by kernel_rfl,by kernel_rfl⟩
instance:IntOf Tryz.prog 2 .i64:=⟨by kernel_rfl⟩
instance:IntOf Tryz.prog 3 .i64:=⟨by kernel_rfl⟩
instance:BoolOf Tryz.prog 4:=⟨by kernel_rfl⟩
instance:IntOf Tryz.prog 5 .u8:=⟨by kernel_rfl⟩
instance:SliceOf Tryz.prog 22 65:=⟨by kernel_rfl⟩
instance:FieldOf Tryz.prog 24 0 0 (.one):=FieldOf.by_info (ft:=5) inferInstance Y U
instance:FieldOf Tryz.prog 24 2 2 (.one):=FieldOf.by_info (ft:=22) inferInstance Y U
instance:SliceOf Tryz.prog 26 83:=⟨by kernel_rfl⟩
instance:FieldOf Tryz.prog 28 0 0 (.one):=FieldOf.by_info (ft:=4) inferInstance Y U
instance:FieldOf Tryz.prog 28 1 1 (.one):=FieldOf.by_info (ft:=26) inferInstance Y U
instance:SliceOf Tryz.prog 33 39:=⟨by kernel_rfl⟩
instance:FieldOf Tryz.prog 35 0 0 (.one):=FieldOf.by_info (ft:=3) inferInstance Y U
instance:FieldOf Tryz.prog 35 1 1 (.one):=FieldOf.by_info (ft:=3) inferInstance Y U
instance:FieldOf Tryz.prog 35 2 2 (.one):=FieldOf.by_info (ft:=33) inferInstance Y U
instance:SliceOf Tryz.prog 39 28:=⟨by kernel_rfl⟩
instance:SliceOf Tryz.prog 46 50:=⟨by kernel_rfl⟩
instance:IntOf Tryz.prog 47 .u64:=⟨by kernel_rfl⟩
instance:FieldOf Tryz.prog 50 0 0 (.one):=FieldOf.by_info (ft:=47) inferInstance Y U
instance:FieldOf Tryz.prog 50 1 1 (.one):=FieldOf.by_info (ft:=47) inferInstance Y U
instance:SliceOf Tryz.prog 58 47:=⟨by kernel_rfl⟩
instance:ArrayOf Tryz.prog 64 2 5:=⟨by kernel_rfl⟩
instance:IntOf Tryz.prog 65 .i8:=⟨by kernel_rfl⟩
instance:SliceOf Tryz.prog 68 28:=⟨by kernel_rfl⟩
instance:SliceOf Tryz.prog 81 2:=⟨by kernel_rfl⟩
instance:IntOf Tryz.prog 83 .u32:=⟨by kernel_rfl⟩
instance:IntOf Tryz.prog 84 .u64:=⟨by kernel_rfl⟩
instance:SliceOf Tryz.prog 93 58:=⟨by kernel_rfl⟩
instance:FieldOf Tryz.prog 95 0 0 (.one):=FieldOf.by_info (ft:=47) inferInstance Y U
instance:FieldOf Tryz.prog 95 1 1 (.one):=FieldOf.by_info (ft:=3) inferInstance Y U
instance:FieldOf Tryz.prog 95 2 2 (.one):=FieldOf.by_info (ft:=93) inferInstance Y U
instance:ArrayOf Tryz.prog 114 4 47:=⟨by kernel_rfl⟩
instance:SliceOf Tryz.prog 128 50:=⟨by kernel_rfl⟩
instance:SliceOf Tryz.prog 148 3:=⟨by kernel_rfl⟩
instance:ZeroOf Tryz.prog 2 (.int .i64 0) 8:=⟨by kernel_rfl⟩
instance:ZeroOf Tryz.prog 3 (.int .i64 0) 8:=⟨by kernel_rfl⟩
instance:ZeroOf Tryz.prog 4 (.bool false) 1:=⟨by kernel_rfl⟩
instance zf27:Flat (one (.agg #[.bool false, .slice none 0 0])) (.agg 2):=kd U Y
instance:ZeroOf Tryz.prog 28 (.agg #[.bool false, .slice none 0 0]) 32:=⟨by kernel_rfl⟩
instance zf34:Flat (one (.agg #[.int .i64 0, .int .i64 0, .slice none 0 0])) (.agg 3):=kd U Y
instance:ZeroOf Tryz.prog 35 (.agg #[.int .i64 0, .int .i64 0, .slice none 0 0]) 40:=⟨by kernel_rfl⟩
instance:ZeroOf Tryz.prog 39 (.slice none 0 0) 24:=⟨by kernel_rfl⟩
instance:ZeroOf Tryz.prog 46 (.slice none 0 0) 24:=⟨by kernel_rfl⟩
instance:ZeroOf Tryz.prog 47 (.int .u64 0) 8:=⟨by kernel_rfl⟩
instance zf49:Flat (one (.agg #[.int .u64 0, .int .u64 0])) (.agg 2):=kd U Y
instance:ZeroOf Tryz.prog 50 (.agg #[.int .u64 0, .int .u64 0]) 16:=⟨by kernel_rfl⟩
instance:ZeroOf Tryz.prog 58 (.slice none 0 0) 24:=⟨by kernel_rfl⟩
instance:ZeroOf Tryz.prog 83 (.int .u32 0) 4:=⟨by kernel_rfl⟩
instance zf94:Flat (one (.agg #[.int .u64 0, .int .i64 0, .slice none 0 0])) (.agg 3):=kd U Y
instance:ZeroOf Tryz.prog 95 (.agg #[.int .u64 0, .int .i64 0, .slice none 0 0]) 40:=⟨by kernel_rfl⟩
instance:ZeroOf Tryz.prog 114 (.agg #[.int .u64 0, .int .u64 0, .int .u64 0, .int .u64 0]) 32:=⟨by kernel_rfl⟩
instance:BuildOf Tryz.prog 28 2 #[.bool false, .slice none 0 0] [(0, .one),(1, .one)]:=BuildOf.by_struct (by':=32) inferInstance Z Y Y
instance:BuildOf Tryz.prog 35 3 #[.int .i64 0, .int .i64 0, .slice none 0 0] [(0, .one),(1, .one),(2, .one)]:=BuildOf.by_struct (by':=40) inferInstance Z Y Y
instance:BuildOf Tryz.prog 50 2 #[.int .u64 0, .int .u64 0] [(0, .one),(1, .one)]:=BuildOf.by_struct (by':=16) inferInstance Z Y Y
instance:BuildOf Tryz.prog 95 3 #[.int .u64 0, .int .i64 0, .slice none 0 0] [(0, .one),(1, .one),(2, .one)]:=BuildOf.by_struct (by':=40) inferInstance Z Y Y
instance:BuildOf Tryz.prog 114 4 #[.int .u64 0, .int .u64 0, .int .u64 0, .int .u64 0] [(0, .one),(1, .one),(2, .one),(3, .one)]:=BuildOf.by_array (by':=32) (n:=4) (e:=47) (L := .one) inferInstance inferInstance inferInstance Z Y Z U
instance:Fn Tryz.prog 10:=Fn.of Tryz.func10 V Z
instance:Fn Tryz.prog 11:=Fn.of Tryz.func11 V Z
instance:Fn Tryz.prog 12:=Fn.of Tryz.func12 V Z
instance:Fn Tryz.prog 13:=Fn.of Tryz.func13 V Z
instance:Fn Tryz.prog 14:=Fn.of Tryz.func14 V Z
instance:Fn Tryz.prog 15:=Fn.of Tryz.func15 V Z
instance:Fn Tryz.prog 16:=Fn.of Tryz.func16 V Z
instance:Fn Tryz.prog 17:=Fn.of Tryz.func17 V Z
instance:Fn Tryz.prog 18:=Fn.of Tryz.func18 V Z
instance:Fn Tryz.prog 19:=Fn.of Tryz.func19 V Z
instance:Fn Tryz.prog 21:=Fn.of Tryz.func21 V Z
instance:Fn Tryz.prog 25:=Fn.of Tryz.func25 V Z
instance:Fn Tryz.prog 31:=Fn.of Tryz.func31 V Z
instance:Fn Tryz.prog 33:=Fn.of Tryz.func33 V Z
instance:Fn Tryz.prog 35:=Fn.of Tryz.func35 V Z
instance:Fn Tryz.prog 39:=Fn.of Tryz.func39 V Z
instance:Fn Tryz.prog 40:=Fn.of Tryz.func40 V Z
instance:Fn Tryz.prog 41:=Fn.of Tryz.func41 V Z
instance:Fn Tryz.prog 42:=Fn.of Tryz.func42 V Z
instance:Fn Tryz.prog 43:=Fn.of Tryz.func43 V Z
instance:Fn Tryz.prog 44:=Fn.of Tryz.func44 V Z
instance:Fn Tryz.prog 45:=Fn.of Tryz.func45 V Z
instance:Fn Tryz.prog 46:=Fn.of Tryz.func46 V Z
instance:Fn Tryz.prog 47:=Fn.of Tryz.func47 V Z
instance:Fn Tryz.prog 49:=Fn.of Tryz.func49 V Z
instance:Fn Tryz.prog 50:=Fn.of Tryz.func50 V Z
instance:Fn Tryz.prog 51:=Fn.of Tryz.func51 V Z
instance:Fn Tryz.prog 57:=Fn.of Tryz.func57 V Z
instance:Fn Tryz.prog 58:=Fn.of Tryz.func58 V Z
instance:Fn Tryz.prog 59:=Fn.of Tryz.func59 V Z
instance:Fn Tryz.prog 63:=Fn.of Tryz.func63 V Z
instance:Fn Tryz.prog 68:=Fn.of Tryz.func68 V Z
instance:Fn Tryz.prog 69:=Fn.of Tryz.func69 V Z
instance:Fn Tryz.prog 70:=Fn.of Tryz.func70 V Z
instance:Fn Tryz.prog 71:=Fn.of Tryz.func71 V Z
instance:Fn Tryz.prog 72:=Fn.of Tryz.func72 V Z
instance:Fn Tryz.prog 73:=Fn.of Tryz.func73 V Z
instance:Fn Tryz.prog 74:=Fn.of Tryz.func74 V Z
instance:Fn Tryz.prog 75:=Fn.of Tryz.func75 V Z
instance:Fn Tryz.prog 76:=Fn.of Tryz.func76 V Z
instance:Fn Tryz.prog 77:=Fn.of Tryz.func77 V Z
instance:Fn Tryz.prog 80:=Fn.of Tryz.func80 V Z
instance:Fn Tryz.prog 81:=Fn.of Tryz.func81 V Z
instance:Fn Tryz.prog 82:=Fn.of Tryz.func82 V Z
instance:Fn Tryz.prog 83:=Fn.of Tryz.func83 V Z
instance:Fn Tryz.prog 84:=Fn.of Tryz.func84 V Z
instance:Fn Tryz.prog 85:=Fn.of Tryz.func85 V Z
instance:Fn Tryz.prog 86:=Fn.of Tryz.func86 V Z
instance:Fn Tryz.prog 87:=Fn.of Tryz.func87 V Z
instance:Fn Tryz.prog 88:=Fn.of Tryz.func88 V Z
instance:Fn Tryz.prog 89:=Fn.of Tryz.func89 V Z
instance:Fn Tryz.prog 90:=Fn.of Tryz.func90 V Z
instance:Fn Tryz.prog 91:=Fn.of Tryz.func91 V Z
instance:Fn Tryz.prog 92:=Fn.of Tryz.func92 V Z
instance:Fn Tryz.prog 111:=Fn.of Tryz.func111 V Z
instance:Fn Tryz.prog 112:=Fn.of Tryz.func112 V Z
instance:Fn Tryz.prog 113:=Fn.of Tryz.func113 V Z
instance:Fn Tryz.prog 114:=Fn.of Tryz.func114 V Z
instance:Fn Tryz.prog 115:=Fn.of Tryz.func115 V Z
instance:Fn Tryz.prog 116:=Fn.of Tryz.func116 V Z
instance:Fn Tryz.prog 120:=Fn.of Tryz.func120 V Z
instance:Fn Tryz.prog 121:=Fn.of Tryz.func121 V Z
instance:Fn Tryz.prog 122:=Fn.of Tryz.func122 V Z
instance:Fn Tryz.prog 123:=Fn.of Tryz.func123 V Z
instance:Fn Tryz.prog 124:=Fn.of Tryz.func124 V Z
instance:Fn Tryz.prog 125:=Fn.of Tryz.func125 V Z
instance:Fn Tryz.prog 126:=Fn.of Tryz.func126 V Z
instance:Fn Tryz.prog 127:=Fn.of Tryz.func127 V Z
instance:Fn Tryz.prog 128:=Fn.of Tryz.func128 V Z
instance:Fn Tryz.prog 129:=Fn.of Tryz.func129 V Z
instance:Fn Tryz.prog 130:=Fn.of Tryz.func130 V Z
instance:Fn Tryz.prog 131:=Fn.of Tryz.func131 V Z
instance:Fn Tryz.prog 132:=Fn.of Tryz.func132 V Z
instance:Fn Tryz.prog 133:=Fn.of Tryz.func133 V Z
instance:Fn Tryz.prog 134:=Fn.of Tryz.func134 V Z
instance:Fn Tryz.prog 135:=Fn.of Tryz.func135 V Z
instance:Fn Tryz.prog 141:=Fn.of Tryz.func141 V Z
instance:Fn Tryz.prog 142:=Fn.of Tryz.func142 V Z
instance:Fn Tryz.prog 143:=Fn.of Tryz.func143 V Z
instance:Fn Tryz.prog 144:=Fn.of Tryz.func144 V Z
instance:Fn Tryz.prog 145:=Fn.of Tryz.func145 V Z
instance:Fn Tryz.prog 146:=Fn.of Tryz.func146 V Z
instance:Fn Tryz.prog 147:=Fn.of Tryz.func147 V Z
instance:Fn Tryz.prog 148:=Fn.of Tryz.func148 V Z
instance:Fn Tryz.prog 149:=Fn.of Tryz.func149 V Z
instance:Fn Tryz.prog 150:=Fn.of Tryz.func150 V Z
instance:Fn Tryz.prog 151:=Fn.of Tryz.func151 V Z
instance:Fn Tryz.prog 152:=Fn.of Tryz.func152 V Z
instance:Fn Tryz.prog 153:=Fn.of Tryz.func153 V Z
instance:Fn Tryz.prog 154:=Fn.of Tryz.func154 V Z
instance:Fn Tryz.prog 155:=Fn.of Tryz.func155 V Z
instance:Fn Tryz.prog 156:=Fn.of Tryz.func156 V Z
instance:Fn Tryz.prog 164:=Fn.of Tryz.func164 V Z
instance:Fn Tryz.prog 165:=Fn.of Tryz.func165 V Z
instance:Fn Tryz.prog 166:=Fn.of Tryz.func166 V Z
instance:Fn Tryz.prog 167:=Fn.of Tryz.func167 V Z
instance:Fn Tryz.prog 168:=Fn.of Tryz.func168 V Z
instance:Fn Tryz.prog 169:=Fn.of Tryz.func169 V Z
instance:Fn Tryz.prog 170:=Fn.of Tryz.func170 V Z
instance:Fn Tryz.prog 171:=Fn.of Tryz.func171 V Z
instance:Fn Tryz.prog 172:=Fn.of Tryz.func172 V Z
theorem bH:Tryz.prog.follows .mixedOrders=true:=by kernel_rfl
end Tor
end
section
namespace Tor
variable [Tor.Co.Kc]
def lv:List Nat→Nat
 | [] => 0
 | d :: l => d + 4294967296 * lv l
def bq (l:List Nat):Prop := ∀ d∈l,d<4294967296
def fY:List Nat→Prop
 | [] => True
 | [d] => d ≠ 0
 | _ :: d :: l => fY (d :: l)
def lO:Nat→Nat→List Nat
 | 0, _ => []
 | f + 1, n => if n = 0 then [] else n % 4294967296 :: lO f (n / 4294967296)
def aQ (n:Nat):List Nat:=lO n n
theorem qv : ∀ (f n:Nat),n≤f → ∀ g,n≤g→lO f n=lO g n
 | 0, n, h, g, hg => by
  have:n=0:=by omega
  subst this;cases g <;> simp [lO]
 | f + 1, n, h, 0, hg => by
  have:n=0:=by omega
  subst this;simp [lO]
 | f + 1, n, h, g + 1, hg => by
  simp only [lO]
  split
  ·rfl
  ·rw [qv f (n / 4294967296) X g X]
theorem g8:aQ 0 = []:=rfl
theorem gr {n:Nat} (h:n≠0):aQ n=n % 4294967296 :: aQ (n / 4294967296):=by
 unfold aQ
 obtain ⟨m,rfl⟩ : ∃ m,n=m+1:=⟨n - 1,by omega⟩
 rw [lO,if_neg h,qv m _ X ((m+1) / 4294967296) (Nat.le_refl _)]
theorem bR (n:Nat):lv (aQ n)=n:=by
 induction n using Nat.strongRecOn with
 | _ n ih =>
  by_cases h:n=0
  ·subst h;rfl
  ·rw [gr h,lv,ih _ X]; omega
theorem a7 (n:Nat):bq (aQ n):=by
 induction n using Nat.strongRecOn with
 | _ n ih =>
  by_cases h:n=0
  ·subst h;intro d hd;cases hd
  ·rw [gr h]; intro d hd
   rcases List.mem_cons.1 hd with rfl | hd
   ·omega
   ·exact ih _ X d hd
theorem bq.tail {d:Nat} {l:List Nat} (h:bq (d :: l)):bq l:=fun x hx=>h x (List.mem_cons_of_mem _ hx)
theorem bq.head {d:Nat} {l:List Nat} (h:bq (d :: l)):d<4294967296:=h d List.mem_cons_self
theorem wE : ∀ {l:List Nat},l ≠ []→fY l→0<lv l
 | [], h, _ => absurd Z h
 | [d], _, h => by have h : d ≠ 0 := h; simp only [lv]; omega
 | d :: e :: l, _, h => by have := wE (l := e :: l) (by simp) h; simp only [lv] at *; omega
theorem fY.tail {d:Nat} : ∀ {l:List Nat},fY (d :: l)→fY l
 | [], _ => trivial
 | _ :: _, h => h
theorem tK : ∀ {l:List Nat},bq l→fY l→aQ (lv l)=l
 | [], _, _ => rfl
 | d :: l, hl, ht => by
  have h0:lv (d :: l)≠0:=by have:=wE (l:=d :: l) (by simp) ht;omega
  have hd:=hl.head
  rw [gr h0]
  simp only [lv]
  rw [show (d+4294967296*lv l) % 4294967296=d by omega,show (d+4294967296*lv l) / 4294967296=lv l by omega,tK hl.tail ht.tail]
theorem kA (n:Nat):fY (aQ n):=by
 induction n using Nat.strongRecOn with
 | _ n ih =>
  by_cases h:n=0
  ·subst h;trivial
  ·rw [gr h]
   have:=ih (n / 4294967296) X
   by_cases h2:n / 4294967296=0
   ·rw [h2,g8]; show n % 4294967296≠0;omega
   ·rw [gr h2] at this ⊢; exact this
theorem gh (l m:List Nat):lv (l ++ m)=lv l+4294967296^l.length*lv m:=by
 induction l with
 | nil => simp [lv]
 | cons d l ih =>
  simp only [List.cons_append,lv,ih,List.length_cons,Nat.pow_succ,Nat.mul_add]
  have:4294967296*(4294967296^l.length*lv m)=4294967296^l.length*4294967296*lv m:=by
   rw [← Nat.mul_assoc,Nat.mul_comm 4294967296]
  omega
theorem gu : ∀ {l:List Nat},bq l→lv l<4294967296^l.length
 | [], _ => by simp [lv]
 | d :: l, h => by
  have:=gu h.tail
  have hd:=h.head
  simp only [lv,List.length_cons,Nat.pow_succ]
  have h2:lv l+1≤4294967296^l.length:=this
  have:=Nat.mul_le_mul_right 4294967296 h2
  omega
theorem mH {l:List Nat} {k:Nat} (h:k<l.length):l.take (k+1)=l.take k ++ [l.getD k 0]:=by
 rw [List.take_add_one]; simp [List.getD,h]
theorem bF {l:List Nat} {k:Nat} (h:k<l.length):lv (l.take (k+1))=lv (l.take k)+4294967296^k*l.getD k 0:=by
 rw [mH h,gh,List.length_take_of_le X]; simp [lv]
theorem a6 {l:List Nat} (h:bq l) (k:Nat):l.getD k 0<4294967296:=by
 by_cases hk:k<l.length
 ·have:l.getD k 0=l[k]:=by simp [List.getD,hk]
  rw [this]; exact h _ (List.getElem_mem hk)
 ·have:l.getD k 0=0:=by simp [List.getD,List.getElem?_eq_none (Nat.le_of_not_lt hk)]
  omega
theorem js (l:List Nat) (x q:Nat):(l ++ [x]).getD q 0=if q=l.length then x else l.getD q 0:=by
 simp only [List.getD,List.getElem?_append]
 by_cases h:q<l.length
 ·rw [if_pos h,if_neg X]
 ·rw [if_neg h]
  by_cases h2:q=l.length
  ·subst h2;simp
  ·rw [if_neg h2,List.getElem?_eq_none (by simp;omega),List.getElem?_eq_none X]
theorem bq.take {l:List Nat} (h:bq l) (k:Nat):bq (l.take k):=fun d hd=>h d (List.mem_of_mem_take hd)
def gv (l:List Nat):Nat→Nat
 | 0 => 0
 | n + 1 => if l.getD n 0 = 0 then gv l n else n + 1
theorem oY {l:List Nat} : ∀ {n:Nat},n<l.length→l.getD n 0≠0→fY (l.take (n+1)):=by
  induction l with
  | nil => intro n h; simp at h
  | cons d l ih =>
    intro n h h0
    cases n with
    | zero => simp at h0 ⊢; exact h0
    | succ n =>
      have:=ih (n:=n) (by simpa using h) (by simpa using h0)
      rw [List.take_succ_cons]
      cases hl:l.take (n+1) with
      | nil => rw [List.take_eq_nil_iff] at hl; rcases hl with hl | hl
               · omega
               · subst hl;simp at h
      | cons e r => rw [hl] at this; exact this
theorem nS {l:List Nat} (hl:bq l) : ∀ {n:Nat},n≤l.length→lv l=lv (l.take n)→l.take (gv l n)=aQ (lv l)
 | 0, _, h => by rw [gv, h]; simp [lv, g8]
 | n + 1, hn, h => by
  rw [gv]
  split
  ·rename_i h0
   refine nS hl X ?_
   rw [h,bF X,h0]; simp
  ·rename_i h0
   rw [h]
   exact (tK (hl.take _) (oY X h0)).symm
theorem mI {l:List Nat} (hl:bq l):l.take (gv l l.length)=aQ (lv l):=nS hl (Nat.le_refl _) (by rw [List.take_length])
theorem dm : ∀ {k n:Nat},n<4294967296^k→(aQ n).length≤k
  | 0, n, h => by have : n = 0 := by simpa using h
                  subst this;simp [g8]
  | k + 1, n, h => by
    by_cases h0:n=0
    · subst h0;simp [g8]
    · rw [gr h0,List.length_cons]
      have:n / 4294967296<4294967296^k:=by
        rw [Nat.pow_succ] at h
        exact Nat.div_lt_of_lt_mul (by rw [Nat.mul_comm]; exact h)
      have:=dm this
      omega
theorem d6 (n:Nat):n<4294967296^(aQ n).length:=by
 have:=gu (a7 n);rwa [bR] at this
theorem qw {a b:Nat} (h:aQ a=aQ b):a=b:=by rw [← bR a, ← bR b,h]
theorem fG (l:List Nat) (k:Nat) (hk:k≤l.length):lv l=lv (l.take k)+4294967296^k*lv (l.drop k):=by
 have h:=gh (l.take k) (l.drop k)
 rwa [List.take_append_drop,List.length_take_of_le hk] at h
theorem fj {l:List Nat} {k:Nat} (h:k<l.length):l.drop k=l.getD k 0 :: l.drop (k+1):=by
 rw [List.drop_eq_getElem_cons h]; simp [List.getD,h]
theorem oZ {l m:List Nat} (hl:bq l) (hm:bq m) (hn:l.length=m.length) {i:Nat} (hi:i<l.length) (hd:l.drop (i+1)=m.drop (i+1)) (hlt:l.getD i 0<m.getD i 0):lv l<lv m:=by
 have e1:=fj hi
 have e2:=fj (hn▸hi:i<m.length)
 rw [fG l i X,fG m i X,e1,e2,hd]
 simp only [lv]
 have h1:=gu (hl.take i)
 rw [List.length_take_of_le X] at h1
 generalize 4294967296^i=B at *
 generalize lv (m.drop (i+1))=t
 have h2:B*(l.getD i 0+4294967296*t)+B≤B*(m.getD i 0+4294967296*t):=by
  rw [← Nat.mul_succ]; exact Nat.mul_le_mul_left B X
 omega
theorem gR {a b:Nat} (h:(aQ a).length<(aQ b).length):a<b:=by
 rcases Nat.lt_or_ge a b with h' | h'
 ·exact h'
 ·have h1:b<4294967296^(aQ a).length:=Nat.lt_of_le_of_lt h' (d6 a)
  have:=dm h1;omega
theorem eZ {a b:Nat} (h:a≤b):(aQ a).length≤(aQ b).length:=dm (Nat.lt_of_le_of_lt h (d6 b))
def c4 (a b:Int):Int:=if a<b then -1 else if b<a then 1 else 0
def lm (a b:Nat):Int:=if a<b then -1 else if b<a then 1 else 0
theorem dC {l:List Nat} {k v q:Nat} (h:k<l.length):(l.set k v).getD q 0=if q=k then v else l.getD q 0:=by
 simp only [List.getD,List.getElem?_set]
 by_cases e:k=q
 ·subst e;simp [h]
 ·rw [if_neg e,if_neg (fun h=>e h.symm)]
theorem fk {l:List Nat} : ∀ {k v:Nat},k<l.length→lv (l.set k v)+4294967296^k*l.getD k 0=lv l+4294967296^k*v:=by
 induction l with
 | nil => intro k v h; simp at h
 | cons d l ih =>
  intro k v h
  cases k with
  | zero => simp [lv]; omega
  | succ k =>
   have:=ih (k:=k) (v:=v) (by simpa using h)
   simp only [List.set_cons_succ,lv,List.getD_cons_succ,Nat.pow_succ]
   have e1:4294967296^k*4294967296*l.getD k 0=4294967296*(4294967296^k*l.getD k 0):=by rw [Nat.mul_comm (4294967296^k),Nat.mul_assoc]
   have e2:4294967296^k*4294967296*v=4294967296*(4294967296^k*v):=by rw [Nat.mul_comm (4294967296^k),Nat.mul_assoc]
   rw [e1,e2]; omega
theorem bq.set {l:List Nat} (h:bq l) {k v:Nat} (hv:v<4294967296):bq (l.set k v):=fun d hd=>by
 rcases List.mem_or_eq_of_mem_set hd with h' | h'
 ·exact h d h'
 ·omega
theorem kB {a b c d:Nat} (ha:a<4294967296) (hb:b<4294967296) (hc:c<4294967296) (hd:d<4294967296):d+(a*b+c)<18446744073709551616∧a*b<18446744073709551616∧a*b+c<18446744073709551616:=by
 have:a*b≤4294967295*4294967295:=Nat.mul_le_mul X X
 omega
end Tor
end
section
namespace Tor
open Go Go.RowKit Go.Proofs
variable [Tor.Co.Kc]
abbrev ch (l:List Nat):VT:=slT .one l.length (fun i=>one (.int .u32 (l.getD i 0)))
def kC (v:Nat):VT:=exT fun l:List Nat=>cj (bq l∧lv l=v) (ch l)
def uP (v:Nat):VT:=exT fun l:List Nat=>cj (bq l∧lv l=v∧l.length≤4398046511104) (ch l)
def aU (x:Int):VT:=bE 2 [(0, .one,one (.bool (decide (x<0)))),(1, .one,ch (aQ x.natAbs))]
instance {x:Int} : Flat (aU x) (.agg 2):=by unfold aU;infer_instance
theorem kD {l:List Nat} {v:Nat} (h:bq l) (hv:lv l=v) (hl:l.length≤4398046511104):VT.le (ch l) (uP v):=vZ l (tp ⟨h,hv,hl⟩ A)
theorem e7 {l:List Nat} {v:Nat} (h:bq l) (hv:lv l=v):VT.le (ch l) (kC v):=vZ l (tp ⟨h,hv⟩ A)
theorem cB (n:Nat):VT.le (ch (aQ n)) (kC n):=e7 (a7 n) (bR n)
theorem kE {l l':List Nat} (h:l=l'):VT.le (ch l) (ch l'):=h▸VT.le_refl _
theorem yI {neg:Bool} {v:Nat} (h:v≠0):VT.le (bE 2 [(0, .one,one (.bool neg)),(1, .one,ch (aQ v))]) (aU (if neg then -(v:Int) else v)):=by
 refine fV (fun q hq => ?_)
 simp only [List.mem_cons,List.not_mem_nil,or_false] at hq
 rcases hq with rfl | rfl
 ·have e:decide ((if neg then -(v:Int) else v)<0)=neg:=by cases neg <;> simp <;> omega
  exact ⟨_,List.mem_cons_self,jI (by rw [e])⟩
 ·refine ⟨_,List.mem_cons_of_mem _ List.mem_cons_self,kE ?_⟩
  cases neg <;> simp
theorem ln:VT.le (bE 2 [(0, .one,one (.bool false)),(1, .one,one (.slice none 0 0))]) (aU 0):=by
 refine fV (fun q hq => ?_)
 simp only [List.mem_cons,List.not_mem_nil,or_false] at hq
 rcases hq with rfl | rfl
 ·exact ⟨_,List.mem_cons_self,jI (by simp)⟩
 ·exact ⟨_,List.mem_cons_of_mem _ List.mem_cons_self,gL⟩
theorem cL {x y:Int} (h:x=y):VT.le (aU x) (aU y):=h▸VT.le_refl _
attribute [local irreducible] J PJ aC one slT bL bE bw exT cj eP aT aH slV VT.le Ret bQ
theorem cT (v:Nat):Ok Tryz.prog 127 [kC v] (ch (aQ v)):=by
 refine Ok.enter Tryz.func127 Z Tryz.ntmps127 Z (fun w O => ?_)
 refine yv (t:=0) Z (fun l=>tn (t:=0) Z (fun ⟨hL,hv⟩=>iR (t:=0) Z (fun _ _=>fd) (fun hb => ?_)))
 subst hv
 refine ae (ai (Cd Z (Cf (aa (ii (ae (ai (Cc Z (Cb (a9 Z) ?_)))))))))
 refine Cd Z (Cf (aa (ae (lY (aa (ae (aw ?_)))))))
 refine c6 (σ:=Nat) (fun n => [(0,ch l),(3,one (.int .i64 n))]) (fun _ => []) (fun n=>n≤l.length∧gv l n=gv l l.length) (fun n=>n) l.length ⟨Nat.le_refl _,rfl⟩ BY (SubM.refl _) (fun n ⟨hn,ht⟩ => ?_)
 have hd:=mI hL
 refine ae (ae (ai (Cc Z (Cb (dx Z Z) (Cf (aa ?_))))))
 refine bv Z (fun hc => ?_) (fun hc => ?_) <;> simp at hc
 ·obtain ⟨n,rfl⟩ : ∃ m,n=m+1:=⟨n - 1,by omega⟩
  refine ay (aa (aw (ae (ai (Cc Z (Cc Z ?_))))))
  (refine Cb (ef Z Z (aR ?_ ?_)) ?_;omega;omega)
  (refine Cb (ej Z Z ?_ ?_) ?_;omega;omega)
  refine Cb (aY Z) (Cf (aa (aw (ae (ai (Cb (cQ Z Z) (Cd Z (Cf (aa ?_)))))))))
  refine bv Z (fun hc => ?_) (fun hc => ?_) <;> simp at hc
  ·refine ai (Cc Z ?_)
   (refine Cb (ef Z Z (aR ?_ ?_)) ?_;omega;omega)
   refine Cd Z (Cf (aK (aK ?_)))
   have h0:l.getD n 0=0:=by simpa using hc
   refine cD n ⟨by omega,by rw [← ht,gv,if_pos h0]⟩ X BY (SubM.refl _)
  ·refine a8 (dG Z (dG Z (ax (aL (aa (ae (ai (Cc Z (Cc Z ?_)))))))))
   refine Cc Z ?_
   (refine Cb (fT Z Z Z Z (fun _=>rfl) ?_ ?_ ?_ ?_) ?_;omega;omega;omega;omega)
   refine Cd Z (Cf (aa (aG (el ?_))))
   have h0 : ¬ l.getD n 0=0:=by simpa using hc
   rw [← ht,gv,if_neg h0] at hd
   refine aV Tryz.results127 (.tmp Z (VT.le_trans (cH ?_ ?_) (kE hd)))
   ·simp;omega
   ·intro i hi;simp at hi ⊢; rw [List.getElem?_take_of_lt X]
 ·subst hc
  refine a8 (ax (ax (aL (aa (ae (ai (Cc Z (Cc Z (Cc Z ?_)))))))))
  (refine Cb (fT Z Z Z Z (fun _=>rfl) ?_ ?_ ?_ ?_) ?_;omega;omega;omega;omega)
  refine Cd Z (Cf (aa (aG (el ?_))))
  rw [← ht,gv] at hd
  refine aV Tryz.results127 (.tmp Z (VT.le_trans (cH ?_ ?_) (kE hd)))
  ·simp
  ·intro i hi;simp at hi
end Tor
end
section
namespace Tor
open Go Go.RowKit Go.Proofs
variable [Tor.Co.Kc]
attribute [local irreducible] J PJ aC one slT bL bE bw exT cj eP aT aH slV VT.le Ret bQ
theorem d7 (neg:Bool) (v:Nat):Ok Tryz.prog 125 [one (.bool neg),kC v] (aU (if neg then -(v:Int) else v)):=by
 refine Ok.enter Tryz.func125 Z Tryz.ntmps125 Z (fun w O => ?_)
 refine ae (ai ?_)
 refine aN (T:=28) Z (ltN Z) (fun b => ?_)
 refine Cf (aa (ae (ai (Cc Z ?_))))
 refine Cb (ao (cT _) Z ⟨A,Cg⟩) ?_
 refine Cd Z (Cf (aa (ae (ae (ai (Cc Z (Cb (a9 Z) (Cb (cQ Z Z) (Cf ?_)))))))))
 refine aa ?_
 refine bv Z (fun hc => ?_) (fun hc => ?_) <;> simp at hc
 ·have hv:v=0:=by rw [← bR v,hc]; rfl
  subst hv
  refine ae (ai (stB Z Z Z (BuildK.nil (az 0 Z Z Z Z Z (leN Z) Z (Cf (aa (aG (aJ ?_))))))))
  exact aV Tryz.results125 (.cellB 0 Z Z Z (VT.le_trans ln (cL (by simp))))
 ·have hv:v≠0:=by intro e;subst e;exact hc Z
  refine ay (aa (ae (ai (Cc Z (Cc Z (stB Z Z Z (BuildK.cons Z Z Z (BuildK.cons Z Z Z (BuildK.nil ?_)))))))))
  refine az 0 Z Z Z Z Z (leN Z) Z (Cf (aa (aG ?_)))
  exact aV Tryz.results125 (.cellB 0 Z Z Z (yI hv))
structure PlusR (lx ly:List Nat) (zl:List Nat) (c:Nat):Prop where
 len:zl.length≤lx.length
 lim:bq zl
 c1:c≤1
 val:lv zl+4294967296^zl.length*c=lv (lx.take zl.length)+lv (ly.take zl.length)
theorem PlusR.step {lx ly zl:List Nat} {c:Nat} (h:PlusR lx ly zl c) (hx:bq lx) (hy:bq ly) (hl:ly.length≤lx.length) (hlt:zl.length<lx.length) :
  PlusR lx ly (zl ++ [(c+lx.getD zl.length 0+ly.getD zl.length 0) % 4294967296]) ((c+lx.getD zl.length 0+ly.getD zl.length 0) / 4294967296):=by
 have h1:=a6 hx zl.length
 have h2:=a6 hy zl.length
 have h3:=h.c1
 refine ⟨by simp;omega,fun d hd => ?_,by omega,?_⟩
 ·rcases List.mem_append.1 hd with hd | hd
  ·exact h.lim d hd
  ·simp at hd;omega
 ·have hy2:lv (ly.take (zl.length+1))=lv (ly.take zl.length)+4294967296^zl.length*ly.getD zl.length 0:=by
   by_cases hk:zl.length<ly.length
   ·exact bF hk
   ·rw [List.take_of_length_le X,List.take_of_length_le X]; simp [List.getElem?_eq_none (Nat.le_of_not_lt hk)]
  simp only [List.length_append,List.length_cons,List.length_nil,Nat.zero_add]
  rw [gh,bF hlt,hy2,Nat.pow_succ]
  have hv:=h.val
  generalize lx.getD zl.length 0=x at *
  generalize ly.getD zl.length 0=y at *
  generalize 4294967296^zl.length=B at *
  have e:(c+x+y)=4294967296*((c+x+y) / 4294967296)+(c+x+y) % 4294967296:=by omega
  generalize (c+x+y) / 4294967296=q at *
  generalize (c+x+y) % 4294967296=r at *
  simp only [lv,Nat.mul_zero,Nat.add_zero]
  have e2:B*(c+x+y)=B*(4294967296*q+r):=by rw [e]
  simp only [Nat.mul_add,Nat.mul_assoc] at e2 ⊢
  omega
theorem tL (a b:Nat) (ha:(aQ a).length≤1099511627776) (hb:(aQ b).length≤1099511627776):Ok Tryz.prog 128 [ch (aQ a),ch (aQ b)] (kC (a+b)):=by
 refine Ok.enter Tryz.func128 Z Tryz.ntmps128 Z (fun w O => ?_)
 refine ae (ai (Cd Z (Cf (aa (ae (ae (ai (Cc Z (Cb (a9 Z) ?_)))))))))
 refine Cc Z (Cb (a9 Z) (Cb (bD Z Z) (Cf (aa ?_))))
 refine eW (σ:=List Nat × List Nat) (fun s => [(0,ch s.1),(1,ch s.2)]) (fun _ => []) (fun s=>bq s.1∧bq s.2∧s.2.length≤s.1.length∧s.1.length≤1099511627776∧lv s.1+lv s.2=a+b) ?_ (fun s ⟨hx,hy,hl,hs,hv⟩ => ?_)
 ·refine bv Z (fun hc => ?_) (fun hc => ?_) <;> simp at hc
  ·refine ai (Cc Z (Cc Z (Cd Z (Cd Z (Cf ?_)))))
   exact cE (aQ b,aQ a) ⟨a7 _,a7 _,Nat.le_of_lt hc,hb,by simp only [bR]; omega⟩ BY (SubM.refl _)
  ·refine ay ?_
   exact cE (aQ a,aQ b) ⟨a7 _,a7 _,hc,ha,by simp only [bR]⟩ BY (SubM.refl _)
 ·obtain ⟨lx,ly⟩:=s
  simp only at hx hy hl hs hv ⊢
  refine aa (ae (ai (Cc Z (Cb (a9 Z) ?_))))
  (refine Cb (cz Z Z (aR ?_ ?_)) ?_;omega;omega)
  refine cA (lx.length+1) (lx.length+1) Z Z (by simp) (by simp) (Nat.le_refl _) Z Z X Z Z (fun bz => ?_)
  refine Cd Z (Cf (aa (ae (ai (Cd Z (Cf (aa (ae (ae ?_)))))))))
  refine ai (Cc Z (Cb (a9 Z) (Cc Z (Cf (aa (aw ?_))))))
  refine c6 (σ:=List Nat × Nat) (fun s => [(0,ch lx),(1,ch ly),(5,one (slV (some bz) (lx.length+1) (lx.length+1))),(6,one (.int .u64 (s.2:Nat))),(20,one (.int .i64 lx.length)),(21,one (.int .i64 s.1.length))])
   (fun s => [aH (some bz) 83 .one (lx.length+1) (lx.length+1) (fun q=>one (.int .u32 (s.1.getD q 0:Nat)))]) (fun s=>PlusR lx ly s.1 s.2) (fun s=>lx.length - s.1.length) ([],0)
   ⟨by simp,(fun d hd=>by cases hd),by decide,by simp [lv]⟩ BY (.keep (bV (by simp)) .nil) (fun s hR => ?_)
  obtain ⟨zl,c⟩:=s
  simp only at hR ⊢
  refine ae (ai (Cb (bD Z Z) (Cf (aa (ae ?_)))))
  refine bv Z (fun hc => ?_) (fun hc => ?_) <;> simp at hc
  ·have h1:=a6 hx zl.length
   have h2:=a6 hy zl.length
   have h3:=hR.c1
   refine ay (aa (ae (aw (ae (ai (Cc Z (Cd Z (Cf (aa ?_)))))))))
   refine ae (ai (Cc Z (Cc Z (Cc Z ?_))))
   (refine Cb (aI Z Z ?_) ?_;omega)
   refine Cb (aY Z) ?_
   (refine Cb (cd Z ?_) ?_;omega)
   (refine Cb (d5 Z Z ?_) ?_;omega)
   refine Cd Z (Cf (aa (ae (ae (ai (Cc Z (Cc Z (Cb (a9 Z) (Cb (bD Z Z) ?_)))))))))
   refine Cf (aa ?_)
   refine eW (σ:=Unit) (fun _ => [(0,ch lx),(1,ch ly),(5,one (slV (some bz) (lx.length+1) (lx.length+1))),(6,one (.int .u64 ((c+lx.getD zl.length 0+ly.getD zl.length 0:Nat):Int))),(7,one (.int .i64 zl.length)),(20,one (.int .i64 lx.length)),(21,one (.int .i64 zl.length))])
    (fun _ => [aH (some bz) 83 .one (lx.length+1) (lx.length+1) (fun q=>one (.int .u32 (zl.getD q 0:Nat)))]) (fun _=>True) ?_ (fun _ _ => ?_)
   ·refine bv Z (fun hc => ?_) (fun hc => ?_) <;> simp at hc
    ·refine ai (Cc Z (Cc Z (Cc Z ?_)))
     (refine Cb (aI Z Z ?_) ?_;omega)
     refine Cb (aY Z) ?_
     (refine Cb (cd Z ?_) ?_;omega)
     (refine Cb (d5 Z Z ?_) ?_;omega)
     refine Cd Z (Cf ?_)
     exact cE () trivial BY (SubM.refl _)
    ·have e0:ly.getD zl.length 0=0:=by simp [List.getElem?_eq_none hc]
     refine ay ?_
     exact cE () trivial BY (SubM.refl _)
   ·refine aa (ae (ai (Cc Z (Cc Z (Cc Z (Cb (cF Z) ?_))))))
    (refine Cb (ar Z Z ?_) ?_;omega)
    (refine au 0 Z Z Z ?_ Z ?_;omega)
    refine Cf (aa (ai (Cc Z (Cb (fw Z) (Cd Z (Cf (aK (aa (ai ?_)))))))))
    (refine Cb (cz Z Z (aR ?_ ?_)) ?_;omega;omega)
    refine Cc Z (Cf ?_)
    have hstep:=hR.step hx hy hl hc
    refine cD (s:=(zl,c)) (zl ++ [(c+lx.getD zl.length 0+ly.getD zl.length 0) % 4294967296],(c+lx.getD zl.length 0+ly.getD zl.length 0) / 4294967296) hstep (by simp;omega) BY (.keep (bV (fun q hq => ?_)) .nil)
    unfold upd;rw [js]; split <;> rfl
  ·have hlen:zl.length=lx.length:=by have:=hR.len;omega
   refine a8 (ax (ax (aL (aa (ae (ai (Cc Z (Cc Z (Cb (a9 Z) ?_)))))))))
   refine Cc Z (Cb (cF Z) ?_)
   (refine Cb (ar Z Z ?_) ?_;omega)
   (refine au 0 Z Z Z ?_ Z ?_;omega)
   refine Cf (aa (ae (ai (Cc Z (Cd Z (Cf (aa (aG (dh (t:=4) (i:=0) Z Z ?_)))))))))
   refine aV Tryz.results128 (.tmp Z (VT.le_trans (cH (m:=(zl ++ [c]).length) (ψ:=fun i=>one (.int .u32 ((zl ++ [c]).getD i 0:Nat))) (by simp [hlen]) (fun q hq => ?_)) (e7 (l:=zl ++ [c]) ?_ ?_)))
   ·have h3:=hR.c1
    unfold upd;rw [js,hlen]
    split
    ·rw [Nat.mod_eq_of_lt X]
    ·rfl
   ·intro d hd
    have h3:=hR.c1
    rcases List.mem_append.1 hd with hd | hd
    ·exact hR.lim d hd
    ·simp at hd;omega
   ·have h4:=hR.val
    rw [hlen,List.take_length,List.take_of_length_le X] at h4
    rw [gh,hlen]; simp only [lv,Nat.mul_zero,Nat.add_zero]; omega
end Tor
end
section
namespace Tor
open Go Go.RowKit Go.Proofs
variable [Tor.Co.Kc]
attribute [local irreducible] J PJ aC one slT bL bE bw exT cj eP aT aH slV VT.le Ret bQ
theorem nT (a:Int):Ok Tryz.prog 150 [one (.int .i64 a)] (one (.bool false)):=by
 refine Ok.enter Tryz.func150 Z Tryz.ntmps150 Z (fun w O => ?_)
 refine ae (ai (Cd Z (Cf (aa (ae (ai (Cc Z (Cc Z (Cb (ek Z Z) ?_)))))))))
 refine Cd Z (Cf (aa (aG ?_)))
 exact aV Tryz.results150 (.tmp Z (av (by simp)))
theorem nU (a:Int):Ok Tryz.prog 165 [one (.int .u32 a)] (one (.bool false)):=by
 refine Ok.enter Tryz.func165 Z Tryz.ntmps165 Z (fun w O => ?_)
 refine ae (ai (Cd Z (Cf (aa (ae (ai (Cc Z (Cc Z (Cb (ek Z Z) ?_)))))))))
 refine Cd Z (Cf (aa (aG ?_)))
 exact aV Tryz.results165 (.tmp Z (av (by simp)))
theorem i6 (a b:Int):Ok Tryz.prog 133 [one (.int .i64 a),one (.int .i64 b)] (one (.int .i64 (c4 a b))):=by
 refine Ok.enter Tryz.func133 Z Tryz.ntmps133 Z (fun w O => ?_)
 refine ae (ai (Cd Z (Cf (aa (ae (ai (Cc Z ?_)))))))
 refine Cb (ao (nT _) Z ⟨A,Cg⟩) ?_
 refine Cd Z (Cf (aa (ae (ai (Cc Z ?_)))))
 refine Cb (ao (nT _) Z ⟨A,Cg⟩) ?_
 refine Cd Z (Cf (aa (ae (ae (ai (Cc Z (Cf (aa ?_))))))))
 refine bv Z (fun hc=>by cases hc) (fun hc => ?_)
 refine ay (aa (ae (ae (ai (Cc Z (Cf (aa ?_)))))))
 refine bv Z (fun hc=>by cases hc) (fun hc => ?_)
 refine ay (aa (ae (ae (ai (Cc Z (Cc Z (Cb (bD Z Z) (Cf (aa ?_)))))))))
 refine bv Z (fun hc => ?_) (fun hc => ?_) <;> simp at hc
 ·refine ae (ai (Cd Z (Cf (aa (aG (aJ ?_))))))
  exact aV Tryz.results133 (.tmp Z (av (by rw [c4,if_pos hc])))
 ·refine ay (aa (ae (ae (ai (Cc Z (Cc Z (Cb (dx Z Z) (Cf (aa ?_)))))))))
  refine bv Z (fun hc2 => ?_) (fun hc2 => ?_) <;> simp at hc2
  ·refine ae (ai (Cd Z (Cf (aa (aG (aJ ?_))))))
   exact aV Tryz.results133 (.tmp Z (av (by rw [c4,if_neg X,if_pos hc2])))
  ·refine ay (aa (ae (ai (Cd Z (Cf (aa (aG ?_)))))))
   exact aV Tryz.results133 (.tmp Z (av (by rw [c4,if_neg X,if_neg X])))
theorem mJ (a b:Int):Ok Tryz.prog 149 [one (.int .u32 a),one (.int .u32 b)] (one (.int .i64 (c4 a b))):=by
 refine Ok.enter Tryz.func149 Z Tryz.ntmps149 Z (fun w O => ?_)
 refine ae (ai (Cd Z (Cf (aa (ae (ai (Cc Z ?_)))))))
 refine Cb (ao (nU _) Z ⟨A,Cg⟩) ?_
 refine Cd Z (Cf (aa (ae (ai (Cc Z ?_)))))
 refine Cb (ao (nU _) Z ⟨A,Cg⟩) ?_
 refine Cd Z (Cf (aa (ae (ae (ai (Cc Z (Cf (aa ?_))))))))
 refine bv Z (fun hc=>by cases hc) (fun hc => ?_)
 refine ay (aa (ae (ae (ai (Cc Z (Cf (aa ?_)))))))
 refine bv Z (fun hc=>by cases hc) (fun hc => ?_)
 refine ay (aa (ae (ae (ai (Cc Z (Cc Z (Cb (bD Z Z) (Cf (aa ?_)))))))))
 refine bv Z (fun hc => ?_) (fun hc => ?_) <;> simp at hc
 ·refine ae (ai (Cd Z (Cf (aa (aG (aJ ?_))))))
  exact aV Tryz.results149 (.tmp Z (av (by rw [c4,if_pos hc])))
 ·refine ay (aa (ae (ae (ai (Cc Z (Cc Z (Cb (dx Z Z) (Cf (aa ?_)))))))))
  refine bv Z (fun hc2 => ?_) (fun hc2 => ?_) <;> simp at hc2
  ·refine ae (ai (Cd Z (Cf (aa (aG (aJ ?_))))))
   exact aV Tryz.results149 (.tmp Z (av (by rw [c4,if_neg X,if_pos hc2])))
  ·refine ay (aa (ae (ai (Cd Z (Cf (aa (aG ?_)))))))
   exact aV Tryz.results149 (.tmp Z (av (by rw [c4,if_neg X,if_neg X])))
theorem jV (a b:Nat):Ok Tryz.prog 129 [ch (aQ a),ch (aQ b)] (one (.int .i64 (lm a b))):=by
 refine Ok.enter Tryz.func129 Z Tryz.ntmps129 Z (fun w O => ?_)
 refine iR (t:=0) Z (fun _ _=>fd) (fun hb => ?_)
 refine ae (ai (Cd Z (Cf (aa (ae (ae (ai (Cc Z (Cb (a9 Z) ?_)))))))))
 refine Cc Z (Cb (a9 Z) ?_)
 refine Cb (ao (i6 _ _) Z ⟨A,A,Cg⟩) ?_
 refine Cd Z (Cf (aa (ae (ai (Cc Z (Cb (ek Z Z) (Cf (aa ?_))))))))
 refine bv Z (fun hc => ?_) (fun hc => ?_) <;> simp at hc
 ·refine ae (ai (Cc Z (Cd Z (Cf (aa (aG (aJ ?_)))))))
  refine aV Tryz.results129 (.tmp Z (av ?_))
  unfold c4 at hc ⊢
  unfold lm
  congr 1
  by_cases h1:(aQ a).length<(aQ b).length
  ·have:=gR h1
   rw [if_pos X,if_pos this]
  ·by_cases h2:(aQ b).length<(aQ a).length
   ·have:=gR h2
    rw [if_neg X,if_pos X,if_neg X,if_pos this]
   ·rw [if_neg X,if_neg X] at hc;exact absurd Z hc
 ·have hlen:(aQ a).length=(aQ b).length:=by
   unfold c4 at hc
   split at hc
   ·cases hc
   ·split at hc
    ·cases hc
    ·omega
  refine ay (aa (ae (ae (ai (Cc Z (Cb (a9 Z) ?_))))))
  (refine Cb (ef Z Z (aR ?_ ?_)) ?_;omega;omega)
  refine Cd Z (Cf (aa (aw ?_)))
  refine c6 (σ:=Nat) (fun n => [(0,ch (aQ a)),(1,ch (aQ b)),(6,one (.int .i64 ((n:Int) - 1)))]) (fun _ => []) (fun n=>n≤(aQ a).length∧(aQ a).drop n=(aQ b).drop n) (fun n=>n) (aQ a).length
   ⟨Nat.le_refl _,by rw [List.drop_length,hlen,List.drop_length]⟩ BY (SubM.refl _) (fun n ⟨hn,hd⟩ => ?_)
  refine ae (ae (ai (Cc Z (Cb (eR Z Z) (Cf (aa ?_))))))
  refine bv Z (fun hc2 => ?_) (fun hc2 => ?_) <;> simp at hc2
  ·obtain ⟨n,rfl⟩ : ∃ m,n=m+1:=⟨n - 1,by omega⟩
   have e:((n+1:Nat):Int) - 1=n:=by omega
   rw [e]
   refine ay (aa (ae (aw (ae (bG 10 bH Y U (Cc Z (Cc Z ?_)))))))
   (refine Cb (aI Z Z ?_) ?_;omega)
   refine Cb (aY Z) (Cc Z (Cc Z ?_))
   (refine Cb (aI Z Z ?_) ?_;omega)
   refine Cb (aY Z) ?_
   refine Cb (ao (mJ _ _) Z ⟨A,A,Cg⟩) ?_
   refine Cd Z (Cf (Cf (aa (ae (ai (Cc Z (Cb (ek Z Z) (Cf (aa ?_)))))))))
   refine bv Z (fun hc3 => ?_) (fun hc3 => ?_) <;> simp only [decide_eq_true_eq,decide_eq_false_iff_not,ne_eq,Decidable.not_not] at hc3
   ·refine ae (ai (Cc Z (Cd Z (Cf (aa (aG (bp (aJ (aJ ?_)))))))))
    refine bp (aJ ?_)
    refine aV Tryz.results129 (.tmp Z (av ?_))
    congr 1
    unfold c4 at hc3 ⊢
    unfold lm
    by_cases h1:(aQ a).getD n 0<(aQ b).getD n 0
    ·have:=oZ (a7 a) (a7 b) hlen (i:=n) X hd h1
     rw [bR,bR] at this
     rw [if_pos X,if_pos this]
    ·by_cases h2:(aQ b).getD n 0<(aQ a).getD n 0
     ·have:=oZ (a7 b) (a7 a) hlen.symm (i:=n) X hd.symm h2
      rw [bR,bR] at this
      rw [if_neg X,if_pos X,if_neg X,if_pos this]
     ·rw [if_neg X,if_neg X] at hc3;exact absurd Z hc3
   ·refine ay (aK (aa (ai (Cc Z ?_))))
    (refine Cb (ef Z Z (aR ?_ ?_)) ?_;omega;omega)
    refine Cd Z (Cf ?_)
    refine cD (s:=n+1) n ⟨by omega,?_⟩ X BY (SubM.refl _)
    have h3:(aQ a).getD n 0=(aQ b).getD n 0:=by
     unfold c4 at hc3
     split at hc3
     ·cases hc3
     ·split at hc3
      ·cases hc3
      ·omega
    have e1:=fj (l:=aQ a) (k:=n) X
    have e2:=fj (l:=aQ b) (k:=n) X
    rw [e1,e2,h3,hd]
  ·refine a8 (ax (ax (aL (aa (ae (ai (Cd Z (Cf (aa ?_)))))))))
   refine aG ?_
   have h0:n=0:=by omega
   subst h0
   have h4:a=b:=qw (by simpa using hd)
   exact aV Tryz.results129 (.tmp Z (av (by subst h4;simp [lm])))
end Tor
end
section
namespace Tor
open Go Go.RowKit Go.Proofs
variable [Tor.Co.Kc]
attribute [local irreducible] J PJ aC one slT bL bE bw exT cj eP aT aH slV VT.le Ret bQ
structure MinusR (lx ly:List Nat) (zl:List Nat) (c:Nat):Prop where
 len:zl.length≤lx.length
 lim:bq zl
 c1:c≤1
 val:lv zl+lv (ly.take zl.length)=lv (lx.take zl.length)+4294967296^zl.length*c
theorem qx {x y c d:Nat} (hx:x<4294967296) (hy:y<4294967296) (hc:c≤1) (hd:d=((x+18446744073709551616 - c) % 18446744073709551616+18446744073709551616 - y) % 18446744073709551616) :
  d % 4294967296+y+c=x+4294967296*(d / 9223372036854775808)∧d / 9223372036854775808≤1:=by
 rcases Nat.lt_or_ge x (y+c) with h | h
 ·have h1:d=x+18446744073709551616 - (y+c):=by omega
  omega
 ·have h1:d=x - (y+c):=by omega
  omega
theorem MinusR.step {lx ly zl:List Nat} {c d:Nat} (h:MinusR lx ly zl c) (hx:bq lx) (hy:bq ly) (hl:ly.length≤lx.length) (hlt:zl.length<lx.length)
  (hd:d=((lx.getD zl.length 0+18446744073709551616 - c) % 18446744073709551616+18446744073709551616 - ly.getD zl.length 0) % 18446744073709551616) :
  MinusR lx ly (zl ++ [d % 4294967296]) (d / 9223372036854775808):=by
 obtain ⟨h1,h2⟩:=qx (a6 hx zl.length) (a6 hy zl.length) h.c1 hd
 refine ⟨by simp;omega,fun e he => ?_,h2,?_⟩
 ·rcases List.mem_append.1 he with he | he
  ·exact h.lim e he
  ·simp at he;omega
 ·have hy2:lv (ly.take (zl.length+1))=lv (ly.take zl.length)+4294967296^zl.length*ly.getD zl.length 0:=by
   by_cases hk:zl.length<ly.length
   ·exact bF hk
   ·rw [List.take_of_length_le X,List.take_of_length_le X]; simp [List.getElem?_eq_none (Nat.le_of_not_lt hk)]
  simp only [List.length_append,List.length_cons,List.length_nil,Nat.zero_add]
  rw [gh,bF hlt,hy2,Nat.pow_succ]
  have hv:=h.val
  clear hd
  generalize lx.getD zl.length 0=x at *
  generalize ly.getD zl.length 0=y at *
  generalize 4294967296^zl.length=B at *
  generalize d % 4294967296=r at *
  generalize d / 9223372036854775808=q at *
  simp only [lv,Nat.mul_zero,Nat.add_zero]
  have e2:B*(r+y+c)=B*(x+4294967296*q):=by rw [h1]
  simp only [Nat.mul_add,Nat.mul_assoc] at e2 ⊢
  omega
theorem mK (a b:Nat) (hab:b≤a) (ha:(aQ a).length≤1099511627776):Ok Tryz.prog 130 [ch (aQ a),ch (aQ b)] (kC (a - b)):=by
 refine Ok.enter Tryz.func130 Z Tryz.ntmps130 Z (fun w O => ?_)
 have hx:=a7 a
 have hy:=a7 b
 have hl:=eZ hab
 have hva:=bR a
 have hvb:=bR b
 generalize aQ a=lx at *
 generalize aQ b=ly at *
 refine ae (ai (Cd Z (Cf (aa (ae (ai (Cc Z (Cb (a9 Z) ?_))))))))
 refine cA lx.length lx.length Z Z Z Z (Nat.le_refl _) Z Z X Z Z (fun bz => ?_)
 refine Cd Z (Cf (aa (ae (ai (Cd Z (Cf (aa (ae (ae ?_)))))))))
 refine ai (Cc Z (Cb (a9 Z) (Cc Z (Cf (aa (aw ?_))))))
 refine c6 (σ:=List Nat × Nat) (fun s => [(0,ch lx),(1,ch ly),(5,one (slV (some bz) lx.length lx.length)),(6,one (.int .u64 (s.2:Nat))),(13,one (.int .i64 lx.length)),(14,one (.int .i64 s.1.length))])
   (fun s => [aH (some bz) 83 .one lx.length lx.length (fun q=>one (.int .u32 (s.1.getD q 0:Nat)))]) (fun s=>MinusR lx ly s.1 s.2) (fun s=>lx.length - s.1.length) ([],0)
   ⟨by simp,(fun d hd=>by cases hd),by decide,by simp [lv]⟩ BY (.keep (bV (by simp)) .nil) (fun s hR => ?_)
 obtain ⟨zl,c⟩:=s
 simp only at hR ⊢
 refine ae (ai (Cb (bD Z Z) (Cf (aa (ae ?_)))))
 refine bv Z (fun hc => ?_) (fun hc => ?_) <;> simp at hc
 ·have h1:=a6 hx zl.length
  have h2:=a6 hy zl.length
  have h3:=hR.c1
  refine ay (aa (ae (aw (ae (ai (Cc Z (Cd Z (Cf (aa ?_)))))))))
  refine ae (ai (Cc Z (Cc Z ?_)))
  (refine Cb (aI Z Z ?_) ?_;omega)
  refine Cb (aY Z) ?_
  (refine Cb (cd Z ?_) ?_;omega)
  refine Cc Z ?_
  (refine Cb (eX Z Z ?_ ?_) ?_;omega;omega)
  refine Cd Z (Cf (aa (ae (ae (ai (Cc Z (Cc Z (Cb (a9 Z) (Cb (bD Z Z) ?_)))))))))
  refine Cf (aa ?_)
  generalize hD:((lx.getD zl.length 0+18446744073709551616 - c) % 18446744073709551616+18446744073709551616 - ly.getD zl.length 0) % 18446744073709551616=d
  refine eW (σ:=Unit) (fun _ => [(0,ch lx),(1,ch ly),(5,one (slV (some bz) lx.length lx.length)),(8,one (.int .u64 (d:Nat))),(7,one (.int .i64 zl.length)),(13,one (.int .i64 lx.length)),(14,one (.int .i64 zl.length))])
    (fun _ => [aH (some bz) 83 .one lx.length lx.length (fun q=>one (.int .u32 (zl.getD q 0:Nat)))]) (fun _=>True) ?_ (fun _ _ => ?_)
  ·refine bv Z (fun hc => ?_) (fun hc => ?_) <;> simp at hc
   ·refine ai (Cc Z (Cc Z (Cc Z ?_)))
    (refine Cb (aI Z Z ?_) ?_;omega)
    refine Cb (aY Z) ?_
    (refine Cb (cd Z ?_) ?_;omega)
    (refine Cb (eX Z Z ?_ ?_) ?_;omega;omega)
    refine Cd Z (Cf ?_)
    exact cE () trivial BY (SubM.refl _)
   ·have e0:ly.getD zl.length 0=0:=by simp [List.getElem?_eq_none hc]
    refine ay ?_
    exact cE () trivial BY (SubM.refl _)
  ·refine aa (ae (ai (Cc Z (Cc Z (Cc Z (Cb (cF Z) ?_))))))
   (refine Cb (ar Z Z ?_) ?_;omega)
   (refine au 0 Z Z Z ?_ Z ?_;omega)
   refine Cf (aa (ai (Cc Z (Cb (oI Z) (Cd Z (Cf (aK (aa (ai ?_)))))))))
   (refine Cb (cz Z Z (aR ?_ ?_)) ?_;omega;omega)
   refine Cc Z (Cf ?_)
   have hstep:=hR.step hx hy hl hc hD.symm
   refine cD (s:=(zl,c)) (zl ++ [d % 4294967296],d / 9223372036854775808) hstep (by simp;omega) BY (.keep (bV (fun q hq => ?_)) .nil)
   unfold upd;rw [js]; split <;> rfl
 ·have hlen:zl.length=lx.length:=by have:=hR.len;omega
  refine a8 (ax (ax (aL (aa (ae (ai (Cc Z (Cd Z (Cf ?_)))))))))
  refine aa (aG (dh (t:=4) (i:=0) Z Z ?_))
  refine aV Tryz.results130 (.tmp Z (VT.le_trans (cH (m:=zl.length) (ψ:=fun i=>one (.int .u32 (zl.getD i 0:Nat))) hlen.symm (fun q hq=>rfl)) (e7 (l:=zl) hR.lim ?_)))
  have h4:=hR.val
  rw [hlen,List.take_length,List.take_of_length_le X,hva,hvb] at h4
  have h5:=gu hR.lim
  rw [hlen] at h5
  have h3:=hR.c1
  have:c=0:=by
   rcases Nat.eq_zero_or_pos c with h | h
   ·exact h
   ·have:c=1:=by omega
    subst this;omega
  subst this;omega
end Tor
end
section
namespace Tor
open Go Go.RowKit Go.Proofs
variable [Tor.Co.Kc]
attribute [local irreducible] J PJ aC one slT bL bE bw exT cj eP aT aH slV VT.le Ret bQ
structure TimesR (lx ly zz:List Nat) (i:Nat):Prop where
 le:i≤lx.length
 len:zz.length=lx.length+ly.length
 lim:bq zz
 zero : ∀ k,i+ly.length≤k→zz.getD k 0=0
 val:lv zz=lv (lx.take i)*lv ly
structure TimesI (lx ly z0 zz:List Nat) (i j c:Nat):Prop where
 le:j≤ly.length
 len:zz.length=lx.length+ly.length
 lim:bq zz
 zero : ∀ k,i+ly.length≤k→zz.getD k 0=0
 c1:c<4294967296
 val:lv zz+4294967296^(i+j)*c=lv z0+4294967296^i*(lx.getD i 0*lv (ly.take j))
theorem TimesI.step {lx ly z0 zz:List Nat} {i j c:Nat} (h:TimesI lx ly z0 zz i j c) (hx:bq lx) (hy:bq ly) (hi:i<lx.length) (hj:j<ly.length) :
  TimesI lx ly z0 (zz.set (i+j) ((c+(lx.getD i 0*ly.getD j 0+zz.getD (i+j) 0)) % 4294967296)) i (j+1) ((c+(lx.getD i 0*ly.getD j 0+zz.getD (i+j) 0)) / 4294967296):=by
 have hlim:=kB (a6 hx i) (a6 hy j) (a6 h.lim (i+j)) h.c1
 have hlt:i+j<zz.length:=by rw [h.len]; omega
 refine ⟨hj,by rw [List.length_set]; exact h.len,h.lim.set X,fun k hk => ?_,by omega,?_⟩
 ·rw [dC hlt,if_neg X]; exact h.zero k hk
 ·have hs:=fk (l:=zz) (k:=i+j) (v:=(c+(lx.getD i 0*ly.getD j 0+zz.getD (i+j) 0)) % 4294967296) hlt
  have hv:=h.val
  rw [bF hj]
  generalize lx.getD i 0=x at *
  generalize ly.getD j 0=y at *
  generalize zz.getD (i+j) 0=z at *
  have e:c+(x*y+z)=4294967296*((c+(x*y+z)) / 4294967296)+(c+(x*y+z)) % 4294967296:=by omega
  generalize (c+(x*y+z)) / 4294967296=q at *
  generalize (c+(x*y+z)) % 4294967296=r at *
  rw [show i+(j+1)=(i+j)+1 by omega,Nat.pow_succ]
  have eB:4294967296^i*4294967296^j=4294967296^(i+j):=(Nat.pow_add _ _ _).symm
  have e3:4294967296^i*(x*(lv (ly.take j)+4294967296^j*y))=4294967296^i*(x*lv (ly.take j))+4294967296^(i+j)*(x*y):=by
   rw [Nat.mul_add,Nat.mul_add, ← eB]
   congr 1
   rw [Nat.mul_assoc]; congr 1
   rw [Nat.mul_left_comm]
  rw [e3]
  generalize 4294967296^(i+j)=B at *
  have e2:B*(c+(x*y+z))=B*(4294967296*q+r):=by rw [e]
  simp only [Nat.mul_add, ← Nat.mul_assoc] at e2 ⊢ hs hv
  omega
theorem TimesR.start {lx ly z0:List Nat} {i:Nat} (h:TimesR lx ly z0 i):TimesI lx ly z0 z0 i 0 0:=⟨Nat.zero_le _,h.len,h.lim,h.zero,by decide,by simp [lv]⟩
theorem TimesI.finish {lx ly z0 zz:List Nat} {i c:Nat} (h0:TimesR lx ly z0 i) (h:TimesI lx ly z0 zz i ly.length c) (hi:i<lx.length):TimesR lx ly (zz.set (i+ly.length) (c % 4294967296)) (i+1):=by
 have hlt:i+ly.length<zz.length:=by rw [h.len]; omega
 have hc:=h.c1
 refine ⟨hi,by rw [List.length_set]; exact h.len,h.lim.set X,fun k hk => ?_,?_⟩
 ·rw [dC hlt,if_neg X]; exact h.zero k X
 ·have hs:=fk (l:=zz) (k:=i+ly.length) (v:=c % 4294967296) hlt
  rw [h.zero _ (Nat.le_refl _),Nat.mul_zero,Nat.add_zero,Nat.mod_eq_of_lt hc] at hs
  rw [Nat.mod_eq_of_lt hc,hs,h.val,List.take_length,h0.val,bF hi,Nat.add_mul,Nat.mul_assoc]
theorem bq.replicate (n:Nat):bq (List.replicate n 0):=fun d hd=>by
 have:=(List.mem_replicate.1 hd).2;omega
theorem dP : ∀ n,lv (List.replicate n 0)=0
 | 0 => rfl
 | n + 1 => by rw [List.replicate_succ, lv, dP n]
theorem co (n q:Nat):(List.replicate n 0).getD q 0=0:=by
 simp only [List.getD,List.getElem?_replicate]; split <;> rfl
theorem wF (a b:Nat) (ha:(aQ a).length≤1099511627776) (hb:(aQ b).length≤1099511627776):Ok Tryz.prog 131 [ch (aQ a),ch (aQ b)] (kC (a*b)):=by
 refine Ok.enter Tryz.func131 Z Tryz.ntmps131 Z (fun w O => ?_)
 have hx:=a7 a
 have hy:=a7 b
 have hva:=bR a
 have hvb:=bR b
 generalize aQ a=lx at *
 generalize aQ b=ly at *
 refine ae (ai (Cd Z (Cf (aa (ae (ai (Cc Z (Cb (a9 Z) (Cc Z ?_)))))))))
 refine Cb (a9 Z) ?_
 (refine Cb (cz Z Z (aR ?_ ?_)) ?_;omega;omega)
 refine cA (lx.length+ly.length) (lx.length+ly.length) Z Z (by simp) (by simp) (Nat.le_refl _) Z Z X Z Z (fun bz => ?_)
 refine Cd Z (Cf (aa (ae (ae (ai (Cc Z (Cb (a9 Z) (Cc Z (Cf ?_)))))))))
 refine aa (aw ?_)
 refine c6 (σ:=List Nat × Nat) (fun s => [(1,ch ly),(5,one (slV (some bz) (lx.length+ly.length) (lx.length+ly.length))),(17,ch lx),(18,one (.int .i64 lx.length)),(19,one (.int .i64 (s.2:Nat)))])
   (fun s => [aH (some bz) 83 .one (lx.length+ly.length) (lx.length+ly.length) (fun q=>one (.int .u32 (s.1.getD q 0:Nat)))]) (fun s=>TimesR lx ly s.1 s.2) (fun s=>lx.length - s.2) (List.replicate (lx.length+ly.length) 0,0)
   ⟨by simp,by simp,bq.replicate _,fun k _=>co _ _,by simp [dP,lv]⟩ BY (.keep (bV (fun q _=>by rw [co]; rfl)) .nil) (fun s hR => ?_)
 obtain ⟨z0,i⟩:=s
 simp only at hR ⊢
 refine ae (ai (Cb (bD Z Z) (Cf (aa (ae ?_)))))
 refine bv Z (fun hc => ?_) (fun hc => ?_) <;> simp at hc
 ·have h1:=a6 hx i
  refine ay (aa (ae (aw (ae (ai (Cc Z ?_))))))
  (refine Cb (aI Z Z ?_) ?_;omega)
  refine Cb (aY Z) (Cd Z (Cd Z (Cf (aa (ae (ai (Cd Z (Cf (aa ?_)))))))))
  refine ae (ae (ai (Cc Z (Cb (a9 Z) (Cc Z (Cf (aa (aw ?_))))))))
  refine c6 (σ:=List Nat × Nat × Nat) (fun s => [(1,ch ly),(5,one (slV (some bz) (lx.length+ly.length) (lx.length+ly.length))),(6,one (.int .i64 i)),(7,one (.int .u32 (lx.getD i 0:Nat))),(8,one (.int .u64 (s.2.2:Nat))),(24,ch ly),(25,one (.int .i64 ly.length)),(26,one (.int .i64 (s.2.1:Nat))),(17,ch lx),(18,one (.int .i64 lx.length)),(19,one (.int .i64 i))])
   (fun s => [aH (some bz) 83 .one (lx.length+ly.length) (lx.length+ly.length) (fun q=>one (.int .u32 (s.1.getD q 0:Nat)))]) (fun s=>TimesI lx ly z0 s.1 i s.2.1 s.2.2) (fun s=>ly.length - s.2.1) (z0,0,0)
   hR.start BY (SubM.refl _) (fun s hI => ?_)
  obtain ⟨zz,j,c⟩:=s
  simp only at hI ⊢
  refine ae (ai (Cb (bD Z Z) (Cf (aa (ae ?_)))))
  refine bv Z (fun hc2 => ?_) (fun hc2 => ?_) <;> simp at hc2
  ·have h2:=a6 hy j
   have h3:=a6 hI.lim (i+j)
   have h4:=kB h1 h2 h3 hI.c1
   have h5:=hI.c1
   refine ay (aa (ae (aw (ae (ai (Cc Z ?_))))))
   (refine Cb (aI Z Z ?_) ?_;omega)
   refine Cb (aY Z) (Cd Z (Cd Z (Cf (aa (ae (ai (Cc Z (Cc Z ?_))))))))
   (refine Cb (cd Z ?_) ?_;omega)
   refine Cc Z ?_
   (refine Cb (cd Z ?_) ?_;omega)
   (refine Cb (jM Z Z ?_) ?_;omega)
   refine Cc Z (Cc Z (Cc Z ?_))
   (refine Cb (cz Z Z (aR ?_ ?_)) ?_;omega;omega)
   (refine Cb (ar Z Z ?_) ?_;omega)
   (refine Cb (bM 0 Z Z ?_) ?_;omega)
   (refine Cb (cd Z ?_) ?_;omega)
   (refine Cb (d5 Z Z ?_) ?_;omega)
   (refine Cb (d5 Z Z ?_) ?_;omega)
   refine Cd Z (Cf (aa (ae (ai (Cc Z (Cc Z (Cc Z ?_)))))))
   (refine Cb (cz Z Z (aR ?_ ?_)) ?_;omega;omega)
   refine Cc Z (Cb (cF Z) ?_)
   (refine Cb (ar Z Z ?_) ?_;omega)
   (refine au 0 Z Z Z ?_ Z ?_;omega)
   refine Cf (aa (ai (Cc Z (Cb (fw Z) (Cd Z (Cf (aK (aa (ai ?_)))))))))
   (refine Cb (cz Z Z (aR ?_ ?_)) ?_;omega;omega)
   refine Cc Z (Cf ?_)
   have hstep:=hI.step hx hy hc hc2
   have hlt:i+j<zz.length:=by rw [hI.len]; omega
   refine cD (s:=(zz,j,c)) (zz.set (i+j) ((c+(lx.getD i 0*ly.getD j 0+zz.getD (i+j) 0)) % 4294967296),j+1,(c+(lx.getD i 0*ly.getD j 0+zz.getD (i+j) 0)) / 4294967296) hstep (by simp;omega) BY (.keep (bV (fun q hq => ?_)) .nil)
   unfold upd;rw [dC hlt]; split <;> rfl
  ·have hj:j=ly.length:=by have:=hI.le;omega
   subst hj
   refine a8 (ax (ax (aL (aa (ai (Cc Z (Cc Z (Cc Z (Cb (a9 Z) ?_)))))))))
   (refine Cb (cz Z Z (aR ?_ ?_)) ?_;omega;omega)
   refine Cc Z (Cb (cF Z) ?_)
   (refine Cb (ar Z Z ?_) ?_;omega)
   (refine au 0 Z Z Z ?_ Z ?_;omega)
   refine Cf (aK (aa (ai ?_)))
   (refine Cb (cz Z Z (aR ?_ ?_)) ?_;omega;omega)
   refine Cc Z (Cf ?_)
   have hfin:=hI.finish hR hc
   have hlt:i+ly.length<zz.length:=by rw [hI.len]; omega
   refine cD (s:=(z0,i)) (zz.set (i+ly.length) (c % 4294967296),i+1) hfin (by simp;omega) BY (.keep (bV (fun q hq => ?_)) .nil)
   unfold upd;rw [dC hlt]; split <;> rfl
 ·have hi:i=lx.length:=by have:=hR.le;omega
  refine a8 (ax (ax (aL (aa (ae (ai (Cc Z (Cd Z (Cf ?_)))))))))
  refine aa (aG (dh (t:=4) (i:=0) Z Z ?_))
  refine aV Tryz.results131 (.tmp Z (VT.le_trans (cH (m:=z0.length) (ψ:=fun i=>one (.int .u32 (z0.getD i 0:Nat))) hR.len.symm (fun q hq=>rfl)) (e7 (l:=z0) hR.lim ?_)))
  rw [hR.val,hi,List.take_length,hva,hvb]
end Tor
end
section
namespace Tor
open Go Go.RowKit Go.Proofs
variable [Tor.Co.Kc]
def sgT (neg:Bool) (v:Nat):VT:=bE 2 [(0, .one,one (.bool neg)),(1, .one,ch (aQ v))]
def sv (neg:Bool) (v:Nat):Int:=if neg then -(v:Int) else v
theorem ee (x:Int):VT.le (aU x) (sgT (decide (x<0)) x.natAbs):=VT.le_refl _
theorem fl (x:Int):sv (decide (x<0)) x.natAbs=x:=by
 unfold sv;by_cases h:x<0
 ·rw [decide_eq_true h,if_pos Z]; omega
 ·rw [decide_eq_false h]; simp only [Bool.false_eq_true,if_false]; omega
attribute [local irreducible] J PJ aC one slT bL bE bw exT cj eP aT aH slV VT.le Ret bQ
attribute [local irreducible] aU
theorem kF (u:Nat) (hu:u<18446744073709551616):Ok Tryz.prog 126 [one (.int .u64 u)] (kC u):=by
 refine Ok.enter Tryz.func126 Z Tryz.ntmps126 Z (fun w O => ?_)
 refine ae (ai (Cd Z (Cf (aa (ae (ai (Cc Z (Cb (cF Z) (Cc Z ?_)))))))))
 refine Cb (fw Z) (Cb (cF Z) (stS Z Z Z Z (PartsK.cons Z (PartsK.cons Z (PartsK.nil (Cd Z (Cf (aa (aG ?_)))))))))
 refine aV Tryz.results126 (.tmp Z (VT.le_trans (cH (m := [u % 4294967296,u / 4294967296 % 4294967296].length) (ψ:=fun i=>one (.int .u32 ([u % 4294967296,u / 4294967296 % 4294967296].getD i 0:Nat))) Z (fun q hq => ?_)) (e7 (l := [u % 4294967296,u / 4294967296 % 4294967296]) ?_ ?_)))
 ·match q,hq with
  | 0, _ => rfl
  | 1, _ => rfl
 ·intro d hd;simp at hd;omega
 ·simp only [lv]; omega
theorem iH (n:Int) (h1 : -9223372036854775808≤n) (h2:n≤9223372036854775807):Ok Tryz.prog 84 [one (.int .i64 n)] (aU n):=by
 refine Ok.enter Tryz.func84 Z Tryz.ntmps84 Z (fun w O => ?_)
 by_cases hn:n<0
 ·refine ae (ai ?_)
  refine aN (T:=28) Z (ltN Z) (fun b => ?_)
  refine Cf (aa (ae (ai (Cc Z (Cb (iQ (r:=((18446744073709551616 - n.natAbs:Nat):Int)) Z (by rw [cY]; omega)) (Cd Z (Cf (aa (ae ?_)))))))))
  refine ae (ai (Cc Z (Cb (bD Z Z) (Cf (aa ?_)))))
  refine bv Z (fun hc => ?_) (fun hc => ?_) <;> simp at hc
  ·refine ai (Cc Z (Cb (z8 (r:=(n.natAbs:Int)) Z (by rw [cY]; omega)) (Cd Z (Cf (aa (ae (ai (Cc Z (Cb (bD Z Z) ?_)))))))))
   refine Cc Z ?_
   refine Cb (ao (kF _ X) Z ⟨A,Cg⟩) ?_
   refine Cb (ao (d7 _ _) Z ⟨A,A,Cg⟩) ?_
   refine az 0 Z Z Z Z Z (leN Z) Z (Cf (aa (aG ?_)))
   exact aV Tryz.results84 (.cellB 0 Z Z Z (cL (by rw [decide_eq_true hn,if_pos Z]; omega)))
  ·omega
 ·refine ae (ai ?_)
  refine aN (T:=28) Z (ltN Z) (fun b => ?_)
  refine Cf (aa (ae (ai (Cc Z (Cb (iQ (r:=(n.natAbs:Int)) Z (by rw [cY]; omega)) (Cd Z (Cf (aa (ae ?_)))))))))
  refine ae (ai (Cc Z (Cb (bD Z Z) (Cf (aa ?_)))))
  refine bv Z (fun hc => ?_) (fun hc => ?_) <;> simp at hc
  ·omega
  ·refine ay (aa (ae (ai (Cc Z (Cb (bD Z Z) (Cc Z ?_))))))
   refine Cb (ao (kF _ X) Z ⟨A,Cg⟩) ?_
   refine Cb (ao (d7 _ _) Z ⟨A,A,Cg⟩) ?_
   refine az 0 Z Z Z Z Z (leN Z) Z (Cf (aa (aG ?_)))
   exact aV Tryz.results84 (.cellB 0 Z Z Z (cL (by rw [decide_eq_false hn]; simp;omega)))
def kG (x:Int):Int:=if x=0 then 0 else if x<0 then -1 else 1
theorem o4 (neg:Bool) (v:Nat):Ok Tryz.prog 132 [sgT neg v] (one (.int .i64 (kG (sv neg v)))):=by
 refine Ok.enter Tryz.func132 Z Tryz.ntmps132 Z (fun w O => ?_)
 refine ae (ai ?_)
 refine bJ Z Z (ltN Z) (fun b => ?_)
 refine Cd Z (Cf (aa (ae (aw (ae (ai (Cb (aj Z) (Cb (am 0 Z Z Z) ?_))))))))
 refine Cb (ao (cT _) Z ⟨cB _,Cg⟩) ?_
 refine Cb (a9 Z) (Cb (cQ Z Z) (Cd Z (Cf (aa ?_))))
 refine bv Z (fun hc => ?_) (fun hc => ?_) <;> simp at hc
 ·have hv:v=0:=by rw [← bR v,hc]; rfl
  refine ae (ai (Cd Z (Cf (aa (aG (bp (aJ ?_)))))))
  exact aV Tryz.results132 (.tmp Z (av (by subst hv;simp [kG,sv])))
 ·have hv:v≠0:=by intro e;subst e;exact hc Z
  refine ae (ai (Cb (aj Z) (Cb (am 0 Z Z Z) (Cd Z (Cf (aa ?_))))))
  refine bv Z (fun hc2 => ?_) (fun hc2 => ?_)
  ·subst hc2
   refine ae (ai (Cd Z (Cf (aa (aG (bp (aJ ?_)))))))
   exact aV Tryz.results132 (.tmp Z (av (by congr 1;unfold kG sv;simp only [if_true]; rw [if_neg X,if_pos X])))
  ·subst hc2
   refine ay (aK (aa (ae (ai (Cd Z (Cf (aa (aG ?_))))))))
   exact aV Tryz.results132 (.tmp Z (av (by congr 1;unfold kG sv;simp only [Bool.false_eq_true,if_false]; rw [if_neg X,if_neg X])))
theorem wG (n1 n2:Bool) (v1 v2:Nat) (h1:(aQ v1).length≤1099511627776) (h2:(aQ v2).length≤1099511627776):Ok Tryz.prog 86 [sgT n1 v1,sgT n2 v2] (aU (sv n1 v1+sv n2 v2)):=by
 refine Ok.enter Tryz.func86 Z Tryz.ntmps86 Z (fun w O => ?_)
 refine ae (ai ?_)
 refine bJ Z Z (ltN Z) (fun b => ?_)
 refine bJ Z Z (ltN Z) (fun b => ?_)
 refine aN (T:=28) Z (ltN Z) (fun b => ?_)
 refine Cf (aa (ae (bG 8 bH Y U (Cb (aj Z) (Cb (am 2 Z Z Z) ?_)))))
 refine Cb (ao (cT _) Z ⟨cB _,Cg⟩) ?_
 refine Cb (aj Z) (Cb (am 1 Z Z Z) ?_)
 refine Cb (ao (cT _) Z ⟨cB _,Cg⟩) ?_
 refine Cd Z (Cd Z (Cf (Cf (aa (ae (aw (ae (ai (Cb (aj Z) ?_)))))))))
 refine Cb (am 2 Z Z Z) (Cb (aj Z) (Cb (am 1 Z Z Z) (Cb (vU Z Z) (Cd Z (Cf (aa ?_))))))
 refine bv Z (fun hc => ?_) (fun hc => ?_) <;> simp at hc
 ·subst hc
  refine ae (bG 6 bH Y U (Cb (aj Z) (Cb (am 2 Z Z Z) (Cc Z (Cc Z ?_)))))
  refine Cb (ao (tL _ _ h1 h2) Z ⟨A,A,Cg⟩) ?_
  refine Cb (ao (d7 _ _) Z ⟨A,A,Cg⟩) ?_
  refine Cf (az 0 Z Z Z Z Z (leN Z) Z (Cf (aa (aG (bp (aJ ?_))))))
  exact aV Tryz.results86 (.cellB 0 Z Z Z (cL (by unfold sv;split <;> omega)))
 ·refine ae (ai (Cc Z (Cc Z ?_)))
  refine Cb (ao (jV _ _) Z ⟨A,A,Cg⟩) ?_
  refine Cb (bD Z Z) (Cd Z (Cf (aa ?_)))
  refine bv Z (fun hc2 => ?_) (fun hc2 => ?_) <;> simp at hc2
  ·have hlt:v1<v2:=by
    unfold lm at hc2;split at hc2
    ·assumption
    ·split at hc2 <;> omega
   refine ae (bG 6 bH Y U (Cb (aj Z) (Cb (am 1 Z Z Z) (Cc Z (Cc Z ?_)))))
   refine Cb (ao (mK _ _ X h2) Z ⟨A,A,Cg⟩) ?_
   refine Cb (ao (d7 _ _) Z ⟨A,A,Cg⟩) ?_
   refine Cf (az 0 Z Z Z Z Z (leN Z) Z (Cf (aa (aG (bp (aJ ?_))))))
   exact aV Tryz.results86 (.cellB 0 Z Z Z (cL (by unfold sv;cases n1 <;> cases n2 <;> simp at hc ⊢ <;> omega)))
  ·have hge:v2≤v1:=by
    unfold lm at hc2;split at hc2 <;> omega
   refine ay (aK (aa (ae (bG 6 bH Y U (Cb (aj Z) (Cb (am 2 Z Z Z) (Cc Z (Cc Z ?_))))))))
   refine Cb (ao (mK _ _ X h1) Z ⟨A,A,Cg⟩) ?_
   refine Cb (ao (d7 _ _) Z ⟨A,A,Cg⟩) ?_
   refine Cf (az 0 Z Z Z Z Z (leN Z) Z (Cf (aa (aG ?_))))
   exact aV Tryz.results86 (.cellB 0 Z Z Z (cL (by unfold sv;cases n1 <;> cases n2 <;> simp at hc ⊢ <;> omega)))
theorem AA (n1 n2:Bool) (v1 v2:Nat) (h1:(aQ v1).length≤1099511627776) (h2:(aQ v2).length≤1099511627776):Ok Tryz.prog 90 [sgT n1 v1,sgT n2 v2] (aU (sv n1 v1 - sv n2 v2)):=by
 refine Ok.enter Tryz.func90 Z Tryz.ntmps90 Z (fun w O => ?_)
 refine ae (ai ?_)
 refine bJ Z Z (ltN Z) (fun b => ?_)
 refine bJ Z Z (ltN Z) (fun b => ?_)
 refine aN (T:=28) Z (ltN Z) (fun b => ?_)
 refine Cf (aa (ae (ai (Cb (bI 2 Z Z) (Cb (aj Z) (Cb (am 1 Z Z Z) (Cb (c8 Z) (Cb (aj Z) (Cb (am 1 Z Z Z) ?_)))))))))
 refine stB Z Z Z (BuildK.cons Z Z Z (BuildK.cons Z Z Z (BuildK.nil ?_)))
 refine Cb (ao (wG n1 (!n2) v1 v2 h1 h2) Z ⟨A,A,Cg⟩) ?_
 refine az 0 Z Z Z Z Z (leN Z) Z (Cf (aa (aG ?_)))
 exact aV Tryz.results90 (.cellB 0 Z Z Z (cL (by unfold sv;cases n2 <;> simp <;> omega)))
theorem AB (n1 n2:Bool) (v1 v2:Nat) (h1:(aQ v1).length≤1099511627776) (h2:(aQ v2).length≤1099511627776):Ok Tryz.prog 87 [sgT n1 v1,sgT n2 v2] (aU (sv n1 v1*sv n2 v2)):=by
 refine Ok.enter Tryz.func87 Z Tryz.ntmps87 Z (fun w O => ?_)
 refine ae (ai ?_)
 refine bJ Z Z (ltN Z) (fun b => ?_)
 refine bJ Z Z (ltN Z) (fun b => ?_)
 refine aN (T:=28) Z (ltN Z) (fun b => ?_)
 refine Cf (aa (ae (bG 13 bH Y U (Cb (aj Z) (Cb (am 2 Z Z Z) (Cb (aj Z) (Cb (am 1 Z Z Z) (Cb (pU Z Z) (Cb (aj Z) ?_)))))))))
 refine Cb (am 2 Z Z Z) ?_
 refine Cb (ao (cT _) Z ⟨cB _,Cg⟩) ?_
 refine Cb (aj Z) (Cb (am 1 Z Z Z) ?_)
 refine Cb (ao (cT _) Z ⟨cB _,Cg⟩) ?_
 skip
 refine Cb (ao (wF _ _ h1 h2) Z ⟨A,A,Cg⟩) ?_
 refine Cb (ao (d7 _ _) Z ⟨A,A,Cg⟩) ?_
 refine Cf (az 0 Z Z Z Z Z (leN Z) Z (Cf (aa (aG ?_))))
 exact aV Tryz.results87 (.cellB 0 Z Z Z (cL (by unfold sv;cases n1 <;> cases n2 <;> simp [Int.neg_mul,Int.mul_neg])))
theorem yJ {n1 n2:Bool} {v1 v2:Nat} (h:kG (sv n1 v1)=kG (sv n2 v2)):IntKind.i64.wrap (kG (sv n1 v1)*lm v1 v2)=c4 (sv n1 v1) (sv n2 v2):=by
 have key:kG (sv n1 v1)*lm v1 v2=c4 (sv n1 v1) (sv n2 v2):=by
  unfold kG sv lm c4 at *
  cases n1 <;> cases n2 <;> simp only [if_true,if_false,Bool.false_eq_true] at * <;> (repeat' split at h) <;> (try omega) <;> (repeat' split) <;> omega
 rw [key]
 unfold c4;split
 ·decide
 ·split <;> decide
theorem AC (n1 n2:Bool) (v1 v2:Nat):Ok Tryz.prog 89 [sgT n1 v1,sgT n2 v2] (one (.int .i64 (c4 (sv n1 v1) (sv n2 v2)))):=by
 refine Ok.enter Tryz.func89 Z Tryz.ntmps89 Z (fun w O => ?_)
 refine ae (ai ?_)
 refine bJ Z Z (ltN Z) (fun b => ?_)
 refine bJ Z Z (ltN Z) (fun b => ?_)
 refine Cd Z (Cf (aa (ae (bG 6 bH Y U (Cb (bI 1 Z Z) ?_)))))
 refine Cb (ao (o4 n1 v1) Z ⟨A,Cg⟩) ?_
 refine Cb (bI 0 Z Z) ?_
 refine Cb (ao (o4 n2 v2) Z ⟨A,Cg⟩) ?_
 refine Cd Z (Cd Z (Cf (Cf (aa (ae (ae (ai (Cc Z (Cc Z ?_)))))))))
 refine Cb (ek Z Z) (Cf (aa ?_))
 refine bv Z (fun hc => ?_) (fun hc => ?_) <;> simp only [decide_eq_true_eq,decide_eq_false_iff_not,ne_eq,Decidable.not_not] at hc
 ·refine ae (ai (Cc Z (Cc Z ?_)))
  refine Cb (ao (i6 _ _) Z ⟨A,A,Cg⟩) ?_
  refine Cd Z (Cf (aa (aG (aJ ?_))))
  exact aV Tryz.results89 (.tmp Z (av (by congr 1;unfold kG at *; unfold c4;split at hc <;> split at hc <;> (try split at hc) <;> (try split at hc) <;> simp at * <;> (repeat' split) <;> omega)))
 ·refine ay (aa (ae (bG 10 bH Y U (Cc Z (Cb (aj Z) (Cb (am 1 Z Z Z) ?_))))))
  refine Cb (ao (cT _) Z ⟨cB _,Cg⟩) ?_
  refine Cb (aj Z) (Cb (am 0 Z Z Z) ?_)
  refine Cb (ao (cT _) Z ⟨cB _,Cg⟩) ?_
  skip
  refine Cb (ao (jV _ _) Z ⟨A,A,Cg⟩) ?_
  refine Cb (mj (r:=c4 (sv n1 v1) (sv n2 v2)) Z Z (yJ hc)) (Cd Z (Cf (Cf (aa (aG ?_)))))
  exact aV Tryz.results89 (.tmp Z A)
end Tor
end
section
namespace Tor
open Go Go.RowKit Go.Proofs
variable [Tor.Co.Kc]
theorem nV {nb neg:Bool} {v:Nat} (h:nb=(neg && decide (v≠0))):VT.le (bE 2 [(0, .one,one (.bool nb)),(1, .one,ch (aQ v))]) (aU (if neg then -(v:Int) else v)):=by
 refine fV (fun q hq => ?_)
 simp only [List.mem_cons,List.not_mem_nil,or_false] at hq
 rcases hq with rfl | rfl
 ·have e:decide ((if neg then -(v:Int) else v)<0)=nb:=by rw [h]; cases neg <;> simp <;> (try omega) <;> (rw [Bool.eq_iff_iff]; simp;omega)
  exact ⟨_,List.mem_cons_self,jI (by rw [e])⟩
 ·refine ⟨_,List.mem_cons_of_mem _ List.mem_cons_self,kE ?_⟩
  cases neg <;> simp
theorem tM {b:Bool} {φ ψ:VT} (h:VT.le φ ψ):VT.le (bE 2 [(0, .one,one (.bool b)),(1, .one, φ)]) (bE 2 [(0, .one,one (.bool b)),(1, .one, ψ)]):=by
 refine fV (fun q hq => ?_)
 simp only [List.mem_cons,List.not_mem_nil,or_false] at hq
 rcases hq with rfl | rfl
 ·exact ⟨_,List.mem_cons_self,A⟩
 ·exact ⟨_,List.mem_cons_of_mem _ List.mem_cons_self,h⟩
attribute [local irreducible] J PJ aC one slT bL bE bw exT cj eP aT aH slV VT.le Ret bQ
attribute [local irreducible] aU
theorem gw (neg:Bool) (v:Nat):Ok Tryz.prog 41 [uP v,one (.bool neg)] (aU (if neg then -(v:Int) else v)):=by
 refine Ok.enter Tryz.func41 Z Tryz.ntmps41 Z (fun w O => ?_)
 refine yv (t:=0) Z (fun l=>tn (t:=0) Z (fun ⟨hL,hv,hb⟩ => ?_))
 subst hv
 refine ae (ai ?_)
 refine aN (T:=28) Z (ltN Z) (fun b => ?_)
 refine Cf (aa (ae (ai (Cc Z (Cb (a9 Z) (Cd Z (Cf (aa (ae ?_)))))))))
 refine aw ?_
 refine c6 (σ:=Nat) (fun n => [(0,ch l),(1,one (.bool neg)),(4,one (.pointer (some ⟨b,0,none⟩))),(5,one (.int .i64 n))]) (fun _ => [aT b 28 2 [(0, .agg 2,one (.agg #[.bool false, .slice none 0 0]))]]) (fun n=>n≤l.length∧gv l n=gv l l.length) (fun n=>n) l.length ⟨Nat.le_refl _,rfl⟩ BY (SubM.refl _) (fun n ⟨hn,ht⟩ => ?_)
 have hd:=mI hL
 refine ae (ae ?_)
 refine eW (σ:=Unit) (fun _ => [(0,ch l),(1,one (.bool neg)),(4,one (.pointer (some ⟨b,0,none⟩))),(5,one (.int .i64 n)),(17,one (.bool (decide (0<n∧l.getD (n - 1) 0=0))))]) (fun _ => [aT b 28 2 [(0, .agg 2,one (.agg #[.bool false, .slice none 0 0]))]]) (fun _=>True) ?_ (fun _ _ => ?_)
 ·by_cases h0:0<n
  ·obtain ⟨n,rfl⟩ : ∃ m,n=m+1:=⟨n - 1,by omega⟩
   refine ai (Cc Z (Cb (dx Z Z) (Cc Z ?_)))
   refine mq (t:=10) Z (fun b hb => ?_)
   rw [hb]
   have:b=true:=by rw [← hb]; simp
   subst this
   refine Ce (ab Z) (Ce (ab Z) ?_)
   (refine Ce (ef Z Z (aR ?_ ?_)) ?_;omega;omega)
   (refine Ce (ej Z Z ?_ ?_) ?_;omega;omega)
   refine Ce (aY Z) (Ce (cQ Z Z) (Cb (bh Z Z) (Cf ?_)))
   exact cE () trivial (.cons Z A (.cons Z A (.cons Z A (.cons Z A (.cons Z (av (by simp)) .nil))))) (SubM.refl _)
  ·refine ai (Cc Z (Cb (dx Z Z) (Cc Z ?_)))
   refine mq (t:=10) Z (fun b hb => ?_)
   rw [hb]
   have:b=false:=by rw [← hb]; simp;omega
   subst this
   refine sg0 Z Z Z Z (sg0 Z Z Z Z (sg0 Z Z Z Z (sg0 Z Z Z Z (sg0 Z Z Z Z (sg0 Z Z Z Z (Cb (bT Z Z) (Cf ?_)))))))
   exact cE () trivial (.cons Z A (.cons Z A (.cons Z A (.cons Z A (.cons Z (av (by simp;omega)) .nil))))) (SubM.refl _)
 ·refine aa ?_
  refine bv Z (fun hc => ?_) (fun hc => ?_) <;> simp only [decide_eq_true_eq,decide_eq_false_iff_not] at hc
  ·obtain ⟨n,rfl⟩ : ∃ m,n=m+1:=⟨n - 1,by omega⟩
   refine ay (aa (aw (ai (Cc Z ?_))))
   (refine Cb (ef Z Z (aR ?_ ?_)) ?_;omega;omega)
   refine Cd Z (Cf (aK ?_))
   refine cD (s:=n+1) n ⟨by omega,by have h2:l.getD n 0=0:=hc.2;rw [← ht,gv,if_pos h2]⟩ X BY (SubM.refl _)
  ·have hz:gv l n=n:=by
    cases n with
    | zero => rfl
    | succ n =>
     have h2 : ¬ l.getD n 0=0:=fun h=>hc ⟨by omega,h⟩
     rw [gv,if_neg h2]
   rw [ht] at hz
   rw [hz] at hd
   have hlen:(aQ (lv l)).length=n:=by rw [← hd,List.length_take_of_le hn]
   have hnz:(0<n)↔lv l≠0:=by
    constructor
    ·intro h e;rw [e] at hlen;simp [g8] at hlen;omega
    ·intro h;rw [← hlen]; exact Nat.pos_of_ne_zero (fun e=>h (by rw [← bR (lv l),List.eq_nil_of_length_eq_zero e]; rfl))
   have hmag:VT.le (slT .one (0+((n:Int) - 0).toNat) fun q=>if q<0 then [].reverse.getD q bQ else one (.int .u32 (l.getD (Int.toNat 0+(q - 0)) 0:Nat))) (ch (aQ (lv l))) :=
    VT.le_trans (cH (m:=(l.take n).length) (ψ:=fun q=>one (.int .u32 ((l.take n).getD q 0:Nat))) (by rw [List.length_take_of_le hn]; omega) (fun q hq=>by
     simp only [Nat.not_lt_zero,if_false]
     rw [show Int.toNat 0+(q - 0)=q from by simp]
     simp [List.getElem?_take_of_lt (show q<n by omega)])) (kE hd)
   cases neg
   ·refine a8 (ax (ax (aL (aa (ae (ai (Cc Z (Cc Z (sg0 Z Z Z Z ?_)))))))))
    refine sg0 Z Z Z Z (Cb (bT Z Z) (oJ (n:=0) Z Z Z Z Z ?_))
    refine PartsK.nil (fun b => ?_)
    refine Cc Z (Cc Z ?_)
    (refine Cb (fT Z Z Z Z (fun _=>rfl) ?_ ?_ ?_ ?_) ?_;omega;omega;omega;omega)
    (refine dB 0 Z Z Z (leN Z) ?_ ?_ Z (ltN Z) (fun sv cap => ?_);omega;omega)
    refine ij (t:=29) (j:=0) Z Z (stB Z Z Z (BuildK.cons Z Z Z (BuildK.cons Z Z Z (BuildK.nil (az 0 Z Z Z Z Z (leN Z) Z (Cf (aa (aG ?_))))))))
    exact aV Tryz.results41 (.cellB 0 Z Z Z (VT.le_trans (tM hmag) (nV (by simp))))
   ·refine a8 (ax (ax (aL (aa (ae (ai (Cc Z (Cc Z (Ce (ab Z) ?_)))))))))
    refine Ce (dx Z Z) (Cb (bh Z Z) (oJ (n:=0) Z Z Z Z Z ?_))
    refine PartsK.nil (fun b => ?_)
    refine Cc Z (Cc Z ?_)
    (refine Cb (fT Z Z Z Z (fun _=>rfl) ?_ ?_ ?_ ?_) ?_;omega;omega;omega;omega)
    (refine dB 0 Z Z Z (leN Z) ?_ ?_ Z (ltN Z) (fun sv cap => ?_);omega;omega)
    refine ij (t:=29) (j:=0) Z Z (stB Z Z Z (BuildK.cons Z Z Z (BuildK.cons Z Z Z (BuildK.nil (az 0 Z Z Z Z Z (leN Z) Z (Cf (aa (aG ?_))))))))
    exact aV Tryz.results41 (.cellB 0 Z Z Z (VT.le_trans (tM hmag) (nV (by rw [Bool.true_and]; exact decide_eq_decide.2 (by rw [← hnz]; omega)))))
end Tor
end
section
namespace Tor
open Go Go.RowKit Go.Proofs
variable [Tor.Co.Kc]
attribute [local irreducible] J PJ aC one slT bL bE bw exT cj eP aT aH slV VT.le Ret bQ
theorem mL (a b:Nat):Ok Tryz.prog 44 [ch (aQ a),ch (aQ b)] (one (.bool (decide (a<b)))):=by
 refine Ok.enter Tryz.func44 Z Tryz.ntmps44 Z (fun w O => ?_)
 refine iR (t:=0) Z (fun _ _=>fd) (fun hb => ?_)
 refine ae (ai (Cd Z (Cf (aa (ae (ae (ai (Cc Z (Cb (a9 Z) ?_)))))))))
 refine Cc Z (Cb (a9 Z) (Cb (ek Z Z) (Cf (aa ?_))))
 refine bv Z (fun hc => ?_) (fun hc => ?_) <;> simp only [decide_eq_true_eq,decide_eq_false_iff_not,ne_eq,Decidable.not_not] at hc
 ·refine ae (ai (Cc Z (Cb (a9 Z) (Cc Z (Cb (a9 Z) (Cb (bD Z Z) (Cd Z (Cf (aa ?_)))))))))
  refine aG (aJ ?_)
  refine aV Tryz.results44 (.tmp Z (av ?_))
  congr 1
  rw [decide_eq_decide]
  constructor
  ·intro h;exact gR X
  ·intro h;have:=eZ (Nat.le_of_lt h);omega
 ·have hlen:(aQ a).length=(aQ b).length:=by omega
  refine ay (aa (ae (ae (ai (Cc Z (Cb (a9 Z) ?_))))))
  (refine Cb (ef Z Z (aR ?_ ?_)) ?_;omega;omega)
  refine Cd Z (Cf (aa (aw ?_)))
  refine c6 (σ:=Nat) (fun n => [(0,ch (aQ a)),(1,ch (aQ b)),(5,one (.int .i64 ((n:Int) - 1)))]) (fun _ => []) (fun n=>n≤(aQ a).length∧(aQ a).drop n=(aQ b).drop n) (fun n=>n) (aQ a).length
   ⟨Nat.le_refl _,by rw [List.drop_length,hlen,List.drop_length]⟩ BY (SubM.refl _) (fun n ⟨hn,hd⟩ => ?_)
  refine ae (ae (ai (Cc Z (Cb (eR Z Z) (Cf (aa ?_))))))
  refine bv Z (fun hc2 => ?_) (fun hc2 => ?_) <;> simp only [decide_eq_true_eq,decide_eq_false_iff_not] at hc2
  ·obtain ⟨n,rfl⟩ : ∃ m,n=m+1:=⟨n - 1,by omega⟩
   have e:((n+1:Nat):Int) - 1=n:=by omega
   rw [e]
   refine ay (aa (ae (aw (ae (bG 9 bH Y U (Cc Z (Cc Z ?_)))))))
   (refine Cb (aI Z Z ?_) ?_;omega)
   refine Cb (aY Z) (Cc Z (Cc Z ?_))
   (refine Cb (aI Z Z ?_) ?_;omega)
   refine Cb (aY Z) (Cb (ek Z Z) (Cf (Cf (aa ?_))))
   refine bv Z (fun hc3 => ?_) (fun hc3 => ?_) <;> simp only [decide_eq_true_eq,decide_eq_false_iff_not,ne_eq,Decidable.not_not] at hc3
   ·refine ae (bG 10 bH Y U (Cc Z (Cc Z ?_)))
    (refine Cb (aI Z Z ?_) ?_;omega)
    refine Cb (aY Z) (Cc Z (Cc Z ?_))
    (refine Cb (aI Z Z ?_) ?_;omega)
    refine Cb (aY Z) (Cb (bD Z Z) (Cd Z (Cf (Cf (aa (aG (bp (aJ (aJ ?_)))))))))
    refine bp (aJ ?_)
    refine aV Tryz.results44 (.tmp Z (av ?_))
    congr 1
    rw [decide_eq_decide]
    by_cases h1:(aQ a).getD n 0<(aQ b).getD n 0
    ·have:=oZ (a7 a) (a7 b) hlen (i:=n) X hd h1
     rw [bR,bR] at this
     exact ⟨fun _=>this,fun _=>by omega⟩
    ·have:=oZ (a7 b) (a7 a) hlen.symm (i:=n) X hd.symm X
     rw [bR,bR] at this
     exact ⟨fun h=>by omega,fun h=>by omega⟩
   ·refine ay (aK (aa (ai (Cc Z ?_))))
    (refine Cb (ef Z Z (aR ?_ ?_)) ?_;omega;omega)
    refine Cd Z (Cf ?_)
    refine cD (s:=n+1) n ⟨by omega,?_⟩ X BY (SubM.refl _)
    have h3:(aQ a).getD n 0=(aQ b).getD n 0:=by omega
    have e1:=fj (l:=aQ a) (k:=n) X
    have e2:=fj (l:=aQ b) (k:=n) X
    rw [e1,e2,h3,hd]
  ·refine a8 (ax (ax (aL (aa (ae (ai (Cd Z (Cf (aa ?_)))))))))
   refine aG ?_
   have h0:n=0:=by omega
   subst h0
   have h4:a=b:=qw (by simpa using hd)
   exact aV Tryz.results44 (.tmp Z (av (by subst h4;simp)))
theorem kH (x y:Int):Ok Tryz.prog 18 [aU x,aU y] (one (.bool (decide (x=y)))):=by
 refine Ok.enter Tryz.func18 Z Tryz.ntmps18 Z (fun w O => ?_)
 refine ae (ai ?_)
 refine bJ Z Z (ltN Z) (fun b => ?_)
 refine bJ Z Z (ltN Z) (fun b => ?_)
 refine Cd Z (Cf (aa (ae (ai (Cb (aj Z) (Cb (am 1 Z Z Z) (Cb (aj Z) (Cb (am 0 Z Z Z) (Cb (vU Z Z) ?_)))))))))
 refine Cc Z ?_
 refine mq (t:=10) Z (fun b hb => ?_)
 rw [hb]
 cases b
 ·refine sg0 Z Z Z Z (sg0 Z Z Z Z (sg0 Z Z Z Z (sg0 Z Z Z Z (sg0 Z Z Z Z (sg0 Z Z Z Z (Cb (bT Z Z) (Cc Z (sg0 Z Z Z Z (sg0 Z Z Z Z ?_)))))))))
  refine sg0 Z Z Z Z (sg0 Z Z Z Z (sg0 Z Z Z Z (sg0 Z Z Z Z (Cb (bT Z Z) (Cd Z (Cf (aa (aG ?_))))))))
  refine aV Tryz.results18 (.tmp Z (av ?_))
  congr 1
  have : ¬ (x=y):=by intro e;subst e;simp at hb
  simp [this]
 ·have hs:(x<0)↔(y<0):=by simpa using hb
  refine Ce (aj Z) (Ce (am 1 Z Z Z) (Ce (aj Z) (Ce (am 0 Z Z Z) ?_)))
  refine Ce (ao (mL _ _) Z ⟨A,A,Cg⟩) ?_
  refine Ce (c8 Z) (Cb (bh Z Z) (Cc Z ?_))
  refine mq (t:=18) Z (fun b hb2 => ?_)
  rw [hb2]
  cases b
  ·refine sg0 Z Z Z Z (sg0 Z Z Z Z (sg0 Z Z Z Z (sg0 Z Z Z Z (sg0 Z Z Z Z (sg0 Z Z Z Z (Cb (bT Z Z) (Cd Z (Cf (aa ?_)))))))))
   refine aG ?_
   refine aV Tryz.results18 (.tmp Z (av ?_))
   congr 1
   simp at hb2
   have : ¬ (x=y):=by intro e;subst e;omega
   simp [this]
  ·simp at hb2
   refine Ce (aj Z) (Ce (am 0 Z Z Z) (Ce (aj Z) (Ce (am 1 Z Z Z) ?_)))
   refine Ce (ao (mL _ _) Z ⟨A,A,Cg⟩) ?_
   refine Ce (c8 Z) (Cb (bh Z Z) (Cd Z (Cf (aa (aG ?_)))))
   refine aV Tryz.results18 (.tmp Z (av ?_))
   congr 1
   rw [← decide_not,decide_eq_decide]
   omega
end Tor
end
section
namespace Tor
open Go Go.RowKit Go.Proofs
variable [Tor.Co.Kc]
theorem gy (l:List Nat) (k:Nat):lv (l.take (k+1))=lv (l.take k)+4294967296^k*l.getD k 0:=by
 by_cases hk:k<l.length
 ·exact bF hk
 ·rw [List.take_of_length_le X,List.take_of_length_le X]; simp [List.getElem?_eq_none (Nat.le_of_not_lt hk)]
structure RPlus (lx ly zl:List Nat) (c:Nat):Prop where
 lim:bq zl
 c1:c≤1
 val:lv zl+4294967296^zl.length*c=lv (lx.take zl.length)+lv (ly.take zl.length)
 len:zl.length≤max lx.length ly.length+1
 big:max lx.length ly.length<zl.length→c=0
theorem RPlus.step {lx ly zl:List Nat} {c:Nat} (h:RPlus lx ly zl c) (hx:bq lx) (hy:bq ly) (hgo:zl.length<lx.length∨zl.length<ly.length∨0<c) :
  RPlus lx ly (zl ++ [(c+lx.getD zl.length 0+ly.getD zl.length 0) % 4294967296]) ((c+lx.getD zl.length 0+ly.getD zl.length 0) / 4294967296):=by
 have h1:=a6 hx zl.length
 have h2:=a6 hy zl.length
 have h3:=h.c1
 refine ⟨fun d hd => ?_,by omega,?_,?_,?_⟩
 ·rcases List.mem_append.1 hd with hd | hd
  ·exact h.lim d hd
  ·simp at hd;omega
 ·simp only [List.length_append,List.length_cons,List.length_nil,Nat.zero_add]
  rw [gh,gy,gy,Nat.pow_succ]
  have hv:=h.val
  generalize lx.getD zl.length 0=x at *
  generalize ly.getD zl.length 0=y at *
  generalize 4294967296^zl.length=B at *
  have e:(c+x+y)=4294967296*((c+x+y) / 4294967296)+(c+x+y) % 4294967296:=by omega
  generalize (c+x+y) / 4294967296=q at *
  generalize (c+x+y) % 4294967296=r at *
  simp only [lv,Nat.mul_zero,Nat.add_zero]
  have e2:B*(c+x+y)=B*(4294967296*q+r):=by rw [e]
  simp only [Nat.mul_add,Nat.mul_assoc] at e2 ⊢
  omega
 ·simp only [List.length_append,List.length_cons,List.length_nil,Nat.zero_add]
  have:=h.big;omega
 ·simp only [List.length_append,List.length_cons,List.length_nil,Nat.zero_add]
  intro hb
  have e1:lx.getD zl.length 0=0:=by simp [List.getElem?_eq_none (show lx.length≤zl.length by omega)]
  have e2:ly.getD zl.length 0=0:=by simp [List.getElem?_eq_none (show ly.length≤zl.length by omega)]
  rw [e1,e2]; omega
theorem qy (zl:List Nat) (v:Nat) : ∀ q,q<zl.length+1→(if q<zl.length then one (.int .u32 (zl.getD q 0:Nat)) else one (.int .u32 (v:Nat)))=one (.int .u32 ((zl ++ [v]).getD q 0:Nat)):=by
 intro q hq
 rw [js]
 by_cases h:q<zl.length
 ·rw [if_pos h,if_neg X]
 ·have:q=zl.length:=by omega
  subst this
  rw [if_neg h,if_pos Z]
theorem i7 {sv:Option Nat} {T:TypeId} {L:Lay} {cap n m:Nat} {φ ψ:Nat→VT} (h:n=m) (H : ∀ q,q<n→φ q=ψ q):Own.le (aH sv T L cap n φ) (aH sv T L cap m ψ):=by
 subst h;exact bV H
theorem l8 {sv:Option Nat} {n m cap:Nat} (h:n=m):VT.le (one (slV sv n cap)) (one (slV sv m cap)):=h▸VT.le_refl _
attribute [local irreducible] J PJ aC one slT bL bE bw exT cj eP aT aH slV VT.le Ret bQ
theorem wH (a b:Nat) (ha:(aQ a).length≤1099511627776) (hb:(aQ b).length≤1099511627776):Ok Tryz.prog 43 [ch (aQ a),ch (aQ b)] (uP (a+b)):=by
 refine Ok.enter Tryz.func43 Z Tryz.ntmps43 Z (fun w O => ?_)
 have hx:=a7 a
 have hy:=a7 b
 have hva:=bR a
 have hvb:=bR b
 generalize aQ a=lx at *
 generalize aQ b=ly at *
 refine ae (ai (Cd Z (Cf (aa (ae (ai (oJ (n:=0) Z Z Z Z Z ?_)))))))
 refine PartsK.nil (fun b => ?_)
 refine Cd Z (Cd Z (Cf (aa (ae (ae (ai (Cd Z (Cf (aa ?_)))))))))
 refine aw ?_
 refine c6 (σ:=List Nat × Nat × Option Nat × Nat) (fun s => [(0,ch lx),(1,ch ly),(5,one (slV s.2.2.1 s.1.length s.2.2.2)),(6,one (.int .u64 (s.2.1:Nat))),(7,one (.int .i64 s.1.length))])
   (fun s => [aH s.2.2.1 83 .one s.2.2.2 s.1.length (fun q=>one (.int .u32 (s.1.getD q 0:Nat)))]) (fun s=>RPlus lx ly s.1 s.2.1) (fun s=>2*(max lx.length ly.length - s.1.length)+s.2.1) ([],0,some b,0)
   ⟨(fun d hd=>by cases hd),Nat.zero_le _,by simp [lv],by simp,by simp⟩ BY (.keep (bV (fun q hq=>by omega)) .nil) (fun s hR => ?_)
 obtain ⟨zl,c,sv0,cap0⟩:=s
 simp only at hR ⊢
 have h3:=hR.c1
 have hlen:=hR.len
 refine ae (ae ?_)
 refine eW (σ:=Unit) (fun _ => [(0,ch lx),(1,ch ly),(5,one (slV sv0 zl.length cap0)),(6,one (.int .u64 (c:Nat))),(7,one (.int .i64 zl.length)),(22,one (.bool (decide (zl.length<lx.length∨zl.length<ly.length∨0<c))))])
  (fun _ => [aH sv0 83 .one cap0 zl.length (fun q=>one (.int .u32 (zl.getD q 0:Nat)))]) (fun _=>True) ?_ (fun _ _ => ?_)
 ·refine ai (Cc Z (Cc Z (Cb (a9 Z) (Cb (bD Z Z) (Cc Z ?_)))))
  refine mq (t:=13) Z (fun b h1 => ?_)
  rw [h1]
  cases b
  ·simp at h1
   refine Ce (ab Z) (Ce (ab Z) (Ce (a9 Z) (Ce (bD Z Z) (Cb (bT Z Z) (Cc Z ?_)))))
   refine mq (t:=19) Z (fun b h2 => ?_)
   rw [h2]
   cases b
   ·simp at h2
    refine Ce (ab Z) (Ce (dx Z Z) (Cb (bT Z Z) (Cf ?_)))
    exact cE () trivial (.cons Z A (.cons Z A (.cons Z A (.cons Z A (.cons Z A (.cons Z (av (by congr 1;rw [decide_eq_decide]; omega)) .nil)))))) (SubM.refl _)
   ·simp at h2
    refine sg0 Z Z Z Z (sg0 Z Z Z Z (Cb (bh Z Z) (Cf ?_)))
    exact cE () trivial (.cons Z A (.cons Z A (.cons Z A (.cons Z A (.cons Z A (.cons Z (av (by simp;omega)) .nil)))))) (SubM.refl _)
  ·simp at h1
   refine sg0 Z Z Z Z (sg0 Z Z Z Z (sg0 Z Z Z Z (sg0 Z Z Z Z (Cb (bh Z Z) (Cc Z (sg0 Z Z Z Z (sg0 Z Z Z Z (Cb (bh Z Z) (Cf ?_)))))))))
   exact cE () trivial (.cons Z A (.cons Z A (.cons Z A (.cons Z A (.cons Z A (.cons Z (av (by simp;omega)) .nil)))))) (SubM.refl _)
 ·refine aa ?_
  refine bv Z (fun hc => ?_) (fun hc => ?_) <;> simp only [decide_eq_true_eq,decide_eq_false_iff_not] at hc
  ·have hstep:=hR.step hx hy hc
   have g1:=a6 hx zl.length
   have g2:=a6 hy zl.length
   refine ay (aa (ae (aw (ae (ae (ai (Cc Z (Cc Z (Cb (a9 Z) ?_)))))))))
   refine Cb (bD Z Z) (Cf (aa ?_))
   refine eW (σ:=Unit) (fun _ => [(0,ch lx),(1,ch ly),(5,one (slV sv0 zl.length cap0)),(6,one (.int .u64 (c+lx.getD zl.length 0:Nat))),(7,one (.int .i64 zl.length))])
    (fun _ => [aH sv0 83 .one cap0 zl.length (fun q=>one (.int .u32 (zl.getD q 0:Nat)))]) (fun _=>True) ?_ (fun _ _ => ?_)
   ·refine bv Z (fun hc2 => ?_) (fun hc2 => ?_) <;> simp only [decide_eq_true_eq,decide_eq_false_iff_not] at hc2
    ·refine ai (Cc Z (Cc Z (Cc Z ?_)))
     (refine Cb (aI Z Z ?_) ?_;omega)
     refine Cb (aY Z) ?_
     (refine Cb (cd Z ?_) ?_;omega)
     (refine Cb (d5 Z Z ?_) ?_;omega)
     refine Cd Z (Cf ?_)
     exact cE () trivial BY (SubM.refl _)
    ·have e0:lx.getD zl.length 0=0:=by simp [List.getElem?_eq_none (show lx.length≤zl.length by omega)]
     refine ay ?_
     exact cE () trivial BY (SubM.refl _)
   ·refine aa (ae (ae (ai (Cc Z (Cc Z (Cb (a9 Z) (Cb (bD Z Z) (Cf (aa ?_)))))))))
    refine eW (σ:=Unit) (fun _ => [(0,ch lx),(1,ch ly),(5,one (slV sv0 zl.length cap0)),(6,one (.int .u64 (c+lx.getD zl.length 0+ly.getD zl.length 0:Nat))),(7,one (.int .i64 zl.length))])
     (fun _ => [aH sv0 83 .one cap0 zl.length (fun q=>one (.int .u32 (zl.getD q 0:Nat)))]) (fun _=>True) ?_ (fun _ _ => ?_)
    ·refine bv Z (fun hc2 => ?_) (fun hc2 => ?_) <;> simp only [decide_eq_true_eq,decide_eq_false_iff_not] at hc2
     ·refine ai (Cc Z (Cc Z (Cc Z ?_)))
      (refine Cb (aI Z Z ?_) ?_;omega)
      refine Cb (aY Z) ?_
      (refine Cb (cd Z ?_) ?_;omega)
      (refine Cb (d5 Z Z ?_) ?_;omega)
      refine Cd Z (Cf ?_)
      exact cE () trivial BY (SubM.refl _)
     ·have e0:ly.getD zl.length 0=0:=by simp [List.getElem?_eq_none (show ly.length≤zl.length by omega)]
      refine ay ?_
      exact cE () trivial BY (SubM.refl _)
    ·refine aa (ae (ai (Cc Z (Cc Z (Cb (cF Z) (my Z Z Z Z ?_))))))
     (refine dB 0 Z Z Z (leN Z) ?_ ?_ Z (ltN Z) (fun sv cap => ?_);omega;omega)
     refine Cd Z (Cf (aa (ai (Cc Z ?_))))
     (refine Cb (tq Z ?_) ?_;omega)
     refine Cd Z (Cf (aK (aa (ai (Cc Z ?_)))))
     (refine Cb (cz Z Z (aR ?_ ?_)) ?_;omega;omega)
     refine Cd Z (Cf ?_)
     refine cD (s:=(zl,c,sv0,cap0)) (zl ++ [(c+lx.getD zl.length 0+ly.getD zl.length 0) % 4294967296],(c+lx.getD zl.length 0+ly.getD zl.length 0) / 4294967296,sv,cap) hstep ?_ (.cons Z A (.cons Z A (.cons Z (l8 (by simp)) (.cons Z A (.cons Z (av (by simp)) .nil))))) (.keep (i7 (by simp) (fun q hq=>qy zl _ q (by simpa using hq))) .nil)
     have h8:=hstep.c1
     have h9:=hstep.big
     have h10:=hR.big
     simp only [List.length_append,List.length_cons,List.length_nil,Nat.zero_add] at *
     omega
  ·refine a8 (ax (ax (aL (aa (ae (ai (Cc Z (Cd Z (Cf ?_)))))))))
   refine aa (aG (dh (t:=4) (i:=0) Z Z ?_))
   refine aV Tryz.results43 (.tmp Z (kD (l:=zl) hR.lim ?_ X))
   have h4:=hR.val
   have h5:c=0:=by omega
   rw [h5,List.take_of_length_le X,List.take_of_length_le X,hva,hvb] at h4
   omega
end Tor
end
section
namespace Tor
open Go Go.RowKit Go.Proofs
variable [Tor.Co.Kc]
theorem RMinus.step {lx ly zl:List Nat} {c:Nat} (h:MinusR lx ly zl c) (hx:bq lx) (hy:bq ly) (hl:ly.length≤lx.length) (hlt:zl.length<lx.length) :
  MinusR lx ly (zl ++ [(lx.getD zl.length 0+4294967296 - c - ly.getD zl.length 0) % 4294967296]) (if lx.getD zl.length 0<c+ly.getD zl.length 0 then 1 else 0):=by
 have h1:=a6 hx zl.length
 have h2:=a6 hy zl.length
 have h3:=h.c1
 have:=h.step hx hy hl hlt Z
 generalize lx.getD zl.length 0=x at *
 generalize ly.getD zl.length 0=y at *
 have e1:((x+18446744073709551616 - c) % 18446744073709551616+18446744073709551616 - y) % 18446744073709551616 % 4294967296=(x+4294967296 - c - y) % 4294967296:=by omega
 have e2:((x+18446744073709551616 - c) % 18446744073709551616+18446744073709551616 - y) % 18446744073709551616 / 9223372036854775808=if x<c+y then 1 else 0:=by split <;> omega
 rw [e1,e2] at this
 exact this
theorem uQ (zl:List Nat) (v:Nat) : ∀ q,q<zl.length+1→v<4294967296→(if q<zl.length then one (.int .u32 (zl.getD q 0:Nat)) else one (.int .u32 (v % 4294967296:Nat)))=one (.int .u32 ((zl ++ [v]).getD q 0:Nat)):=by
 intro q hq hv
 rw [Nat.mod_eq_of_lt hv]
 exact qy zl v q hq
attribute [local irreducible] J PJ aC one slT bL bE bw exT cj eP aT aH slV VT.le Ret bQ
theorem nW (a b:Nat) (hab:b≤a) (ha:(aQ a).length≤1099511627776):Ok Tryz.prog 45 [ch (aQ a),ch (aQ b)] (uP (a - b)):=by
 refine Ok.enter Tryz.func45 Z Tryz.ntmps45 Z (fun w O => ?_)
 have hx:=a7 a
 have hy:=a7 b
 have hl:=eZ hab
 have hva:=bR a
 have hvb:=bR b
 generalize aQ a=lx at *
 generalize aQ b=ly at *
 refine ae (ai (Cd Z (Cf (aa (ae (ai (oJ (n:=0) Z Z Z Z Z ?_)))))))
 refine PartsK.nil (fun b => ?_)
 refine Cd Z (Cd Z (Cf (aa (ae (ae (ai (Cd Z (Cf (aa ?_)))))))))
 refine aw ?_
 refine c6 (σ:=List Nat × Nat × Option Nat × Nat) (fun s => [(0,ch lx),(1,ch ly),(5,one (slV s.2.2.1 s.1.length s.2.2.2)),(6,one (.int .i64 (s.2.1:Nat))),(7,one (.int .i64 s.1.length))])
   (fun s => [aH s.2.2.1 83 .one s.2.2.2 s.1.length (fun q=>one (.int .u32 (s.1.getD q 0:Nat)))]) (fun s=>MinusR lx ly s.1 s.2.1) (fun s=>lx.length - s.1.length) ([],0,some b,0)
   ⟨by simp,(fun d hd=>by cases hd),Nat.zero_le _,by simp [lv]⟩ BY (.keep (bV (fun q hq=>by omega)) .nil) (fun s hR => ?_)
 obtain ⟨zl,c,sv0,cap0⟩:=s
 simp only at hR ⊢
 have h3:=hR.c1
 have hlen:=hR.len
 refine ae (ae (ai (Cc Z (Cc Z (Cb (a9 Z) (Cb (bD Z Z) (Cf (aa ?_))))))))
 refine bv Z (fun hc => ?_) (fun hc => ?_) <;> simp at hc
 ·have hstep:=RMinus.step hR hx hy hl hc
  have g1:=a6 hx zl.length
  have g2:=a6 hy zl.length
  refine ay (aa (ae (aw (ae (ai (Cc Z (Cc Z ?_)))))))
  (refine Cb (aI Z Z ?_) ?_;omega)
  refine Cb (aY Z) ?_
  (refine Cb (dc Z ?_ ?_) ?_;omega;omega)
  refine Cc Z ?_
  (refine Cb (ef Z Z (aR ?_ ?_)) ?_;omega;omega)
  refine Cd Z (Cf (aa (ae (ae (ai (Cc Z (Cc Z (Cb (a9 Z) (Cb (bD Z Z) ?_)))))))))
  refine Cf (aa ?_)
  refine eW (σ:=Unit) (fun _ => [(0,ch lx),(1,ch ly),(5,one (slV sv0 zl.length cap0)),(8,one (.int .i64 ((lx.getD zl.length 0:Nat) - (c:Nat) - (ly.getD zl.length 0:Nat)))),(7,one (.int .i64 zl.length))])
   (fun _ => [aH sv0 83 .one cap0 zl.length (fun q=>one (.int .u32 (zl.getD q 0:Nat)))]) (fun _=>True) ?_ (fun _ _ => ?_)
  ·refine bv Z (fun hc => ?_) (fun hc => ?_) <;> simp at hc
   ·refine ai (Cc Z (Cc Z (Cc Z ?_)))
    (refine Cb (aI Z Z ?_) ?_;omega)
    refine Cb (aY Z) ?_
    (refine Cb (dc Z ?_ ?_) ?_;omega;omega)
    (refine Cb (ef Z Z (aR ?_ ?_)) ?_;omega;omega)
    refine Cd Z (Cf ?_)
    exact cE () trivial BY (SubM.refl _)
   ·have e0:ly.getD zl.length 0=0:=by simp [List.getElem?_eq_none (show ly.length≤zl.length by omega)]
    refine ay ?_
    exact cE () trivial BY (SubM.refl _)
  ·generalize lx.getD zl.length 0=x at *
   generalize ly.getD zl.length 0=y at *
   refine aa (ae (ai (Cd Z (Cf (aa (ae (ae (ai (Cc Z ?_)))))))))
   refine Cb (bD Z Z) (Cf (aa ?_))
   refine eW (σ:=Unit) (fun _ => [(0,ch lx),(1,ch ly),(5,one (slV sv0 zl.length cap0)),(6,one (.int .i64 ((if x<c+y then 1 else 0:Nat)))),(8,one (.int .i64 ((x+4294967296 - c - y) % 4294967296:Nat))),(7,one (.int .i64 zl.length))])
    (fun _ => [aH sv0 83 .one cap0 zl.length (fun q=>one (.int .u32 (zl.getD q 0:Nat)))]) (fun _=>True) ?_ (fun _ _ => ?_)
   ·refine bv Z (fun hc => ?_) (fun hc => ?_) <;> simp at hc
    ·refine ae (ai (Cc Z ?_))
     (refine Cb (cz Z Z (aR ?_ ?_)) ?_;omega;omega)
     refine Cd Z (Cf (aa (ai (Cd Z (Cf ?_)))))
     rw [if_pos X]
     exact cE () trivial (.cons Z A (.cons Z A (.cons Z A (.cons Z A (.cons Z (av (by congr 1;omega)) (.cons Z A .nil)))))) (SubM.refl _)
    ·refine ay ?_
     rw [if_neg X]
     exact cE () trivial (.cons Z A (.cons Z A (.cons Z A (.cons Z A (.cons Z (av (by congr 1;omega)) (.cons Z A .nil)))))) (SubM.refl _)
   ·generalize (x+4294967296 - c - y) % 4294967296=d at *
    generalize (if x<c+y then 1 else 0)=c2 at *
    refine aa (ai (Cc Z (Cc Z (Cb (cF Z) (my Z Z Z Z ?_)))))
    (refine dB 0 Z Z Z (leN Z) ?_ ?_ Z (ltN Z) (fun sv cap => ?_);omega;omega)
    refine Cd Z (Cf (aK (aa (ai (Cc Z ?_)))))
    (refine Cb (cz Z Z (aR ?_ ?_)) ?_;omega;omega)
    refine Cd Z (Cf ?_)
    refine cD (s:=(zl,c,sv0,cap0)) (zl ++ [d],c2,sv,cap) hstep ?_ (.cons Z A (.cons Z A (.cons Z (l8 (by simp)) (.cons Z A (.cons Z (av (by simp)) .nil))))) (.keep (i7 (by simp) (fun q hq=>uQ zl _ q (by simpa using hq) (hstep.lim d (by simp)))) .nil)
    simp only [List.length_append,List.length_cons,List.length_nil,Nat.zero_add] at *
    omega
 ·have hlen:zl.length=lx.length:=by have:=hR.len;omega
  refine a8 (ax (ax (aL (aa (ae (ai (Cc Z (Cd Z (Cf ?_)))))))))
  refine aa (aG (dh (t:=4) (i:=0) Z Z ?_))
  refine aV Tryz.results45 (.tmp Z (kD (l:=zl) hR.lim ?_ X))
  have h4:=hR.val
  rw [hlen,List.take_length,List.take_of_length_le X,hva,hvb] at h4
  have h5:=gu hR.lim
  rw [hlen] at h5
  have h6:=gu hx
  rcases Nat.le_one_iff_eq_zero_or_eq_one.1 hR.c1 with h7 | h7 <;> simp only [h7,Nat.mul_zero,Nat.mul_one,Nat.add_zero] at h4 <;> omega
end Tor
end
section
namespace Tor
open Go Go.RowKit Go.Proofs
variable [Tor.Co.Kc]
theorem qz (u:Nat) (h:u<18446744073709551616):VT.le (slT .one 2 (fun q => [one (.int .u32 ((u / 4294967296 % 4294967296:Nat):Int)),one (.int .u32 ((u % 4294967296:Nat):Int))].reverse.getD q bQ)) (uP u):=by
 refine VT.le_trans (cH (m:=2) (ψ:=fun i=>one (.int .u32 ([u % 4294967296,u / 4294967296 % 4294967296].getD i 0:Nat))) Z (fun q hq => ?_)) (kD (l := [u % 4294967296,u / 4294967296 % 4294967296]) (fun d hd => ?_) ?_ (by simp))
 ·match q,hq with
  | 0, _ => rfl
  | 1, _ => rfl
 ·simp at hd;omega
 ·simp only [lv]; omega
attribute [local irreducible] J PJ aC one slT bL bE bw exT cj eP aT aH slV VT.le Ret bQ
theorem fN (n:Int) (h1 : -9223372036854775808≤n) (h2:n≤9223372036854775807):Ok Tryz.prog 12 [one (.int .i64 n)] (aU n):=by
 refine Ok.enter Tryz.func12 Z Tryz.ntmps12 Z (fun w O => ?_)
 by_cases hn:n<0
 ·refine ae (ai ?_)
  refine aN (T:=28) Z (ltN Z) (fun b => ?_)
  refine Cf (aa (ae (ai (Cc Z (Cb (iQ (r:=((18446744073709551616 - n.natAbs:Nat):Int)) Z (by rw [cY]; omega)) (Cd Z (Cf (aa (ae ?_)))))))))
  refine ae (ai (Cc Z (Cb (bD Z Z) (Cf (aa ?_)))))
  refine bv Z (fun hc => ?_) (fun hc => ?_) <;> simp at hc
  ·refine ai (Cc Z (Cb (z8 (r:=(n.natAbs:Int)) Z (by rw [cY]; omega)) (Cd Z (Cf (aa (ae (ai (Cc Z (Cb (cF Z) ?_)))))))))
   refine Cc Z (Cb (fw Z) (Cb (cF Z) (stS Z Z Z Z (PartsK.cons Z (PartsK.cons Z (PartsK.nil (Cc Z (Cb (bD Z Z) ?_))))))))
   refine Cb (ao (gw (decide (n<0)) n.natAbs) Z ⟨qz _ X,A,Cg⟩) ?_
   refine az 0 Z Z Z Z Z (leN Z) Z (Cf (aa (aG ?_)))
   exact aV Tryz.results12 (.cellB 0 Z Z Z (cL (by rw [decide_eq_true hn,if_pos Z]; omega)))
  ·omega
 ·refine ae (ai ?_)
  refine aN (T:=28) Z (ltN Z) (fun b => ?_)
  refine Cf (aa (ae (ai (Cc Z (Cb (iQ (r:=(n.natAbs:Int)) Z (by rw [cY]; omega)) (Cd Z (Cf (aa (ae ?_)))))))))
  refine ae (ai (Cc Z (Cb (bD Z Z) (Cf (aa ?_)))))
  refine bv Z (fun hc => ?_) (fun hc => ?_) <;> simp at hc
  ·omega
  ·refine ay (aa (ae (ai (Cc Z (Cb (cF Z) (Cc Z (Cb (fw Z) (Cb (cF Z) (stS Z Z Z Z ?_)))))))))
   refine PartsK.cons Z (PartsK.cons Z (PartsK.nil (Cc Z (Cb (bD Z Z) ?_))))
   refine Cb (ao (gw (decide (n<0)) n.natAbs) Z ⟨qz _ X,A,Cg⟩) ?_
   refine az 0 Z Z Z Z Z (leN Z) Z (Cf (aa (aG ?_)))
   exact aV Tryz.results12 (.cellB 0 Z Z Z (cL (by rw [decide_eq_false hn]; simp;omega)))
theorem yK (n1 n2:Bool) (v1 v2:Nat) (h1:(aQ v1).length≤1099511627776) (h2:(aQ v2).length≤1099511627776):Ok Tryz.prog 15 [sgT n1 v1,sgT n2 v2] (aU (sv n1 v1+sv n2 v2)):=by
 refine Ok.enter Tryz.func15 Z Tryz.ntmps15 Z (fun w O => ?_)
 refine ae (ai ?_)
 refine bJ Z Z (ltN Z) (fun b => ?_)
 refine bJ Z Z (ltN Z) (fun b => ?_)
 refine aN (T:=28) Z (ltN Z) (fun b => ?_)
 refine Cf (aa (ae (ae (ai (Cb (aj Z) (Cb (am 2 Z Z Z) (Cb (aj Z) (Cb (am 1 Z Z Z) (Cb (vU Z Z) ?_)))))))))
 refine Cf (aa ?_)
 refine bv Z (fun hc => ?_) (fun hc => ?_) <;> simp at hc
 ·subst hc
  refine ae (bG 8 bH Y U (Cb (aj Z) (Cb (am 2 Z Z Z) (Cb (aj Z) (Cb (am 1 Z Z Z) ?_)))))
  refine Cb (ao (wH _ _ h1 h2) Z ⟨A,A,Cg⟩) ?_
  refine Cb (aj Z) (Cb (am 2 Z Z Z) ?_)
  refine Cb (ao (gw _ _) Z ⟨A,A,Cg⟩) ?_
  refine Cf (az 0 Z Z Z Z Z (leN Z) Z (Cf (aa (aG (aJ ?_)))))
  exact aV Tryz.results15 (.cellB 0 Z Z Z (cL (by unfold sv;split <;> omega)))
 ·refine ay (aa (ae (ae (ai (Cb (aj Z) (Cb (am 2 Z Z Z) (Cb (aj Z) (Cb (am 1 Z Z Z) ?_))))))))
  refine Cb (ao (mL _ _) Z ⟨A,A,Cg⟩) ?_
  refine Cf (aa ?_)
  refine bv Z (fun hc2 => ?_) (fun hc2 => ?_) <;> simp at hc2
  ·refine ae (bG 8 bH Y U (Cb (aj Z) (Cb (am 1 Z Z Z) (Cb (aj Z) (Cb (am 2 Z Z Z) ?_)))))
   refine Cb (ao (nW _ _ X h2) Z ⟨A,A,Cg⟩) ?_
   refine Cb (aj Z) (Cb (am 1 Z Z Z) ?_)
   refine Cb (ao (gw _ _) Z ⟨A,A,Cg⟩) ?_
   refine Cf (az 0 Z Z Z Z Z (leN Z) Z (Cf (aa (aG (aJ ?_)))))
   exact aV Tryz.results15 (.cellB 0 Z Z Z (cL (by unfold sv;cases n1 <;> cases n2 <;> simp at hc ⊢ <;> omega)))
  ·refine ay (aa (ae (bG 8 bH Y U (Cb (aj Z) (Cb (am 2 Z Z Z) (Cb (aj Z) (Cb (am 1 Z Z Z) ?_)))))))
   refine Cb (ao (nW _ _ X h1) Z ⟨A,A,Cg⟩) ?_
   refine Cb (aj Z) (Cb (am 2 Z Z Z) ?_)
   refine Cb (ao (gw _ _) Z ⟨A,A,Cg⟩) ?_
   refine Cf (az 0 Z Z Z Z Z (leN Z) Z (Cf (aa (aG ?_))))
   exact aV Tryz.results15 (.cellB 0 Z Z Z (cL (by unfold sv;cases n1 <;> cases n2 <;> simp at hc ⊢ <;> omega)))
end Tor
end
