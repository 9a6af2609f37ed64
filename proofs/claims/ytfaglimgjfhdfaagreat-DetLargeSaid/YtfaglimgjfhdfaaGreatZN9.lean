/-
  Theorems that the proofs of laws of this seat rest on.
  No condition.
-/
import Derived.Test.YtfaglimgjfhdfaaGreatZN8
import Derived.RangeFuncFrom
import Derived.Test.YtfaglimgjfhdfaaGreatChecked
import Derived.Conc.WgGenN3
set_option maxHeartbeats 20000000
set_option linter.unusedVariables false
set_option linter.unusedSimpArgs false
set_option linter.unusedSectionVars false
section
namespace Tor.Co
open Go Go.Conc Go.RowKit
open Go.ConcN (WgLive RelBy sumTo upd sumTo_upd upd_ne upd_same RelBy.appOther RelBy.appOwn sumTo_congr)
open Go.ConcR (KK wgBlock WgAt stA smA rd wr mk DC0)
structure Com (S:Ses) (gs:Array Goroutine) (w:World) (t:Trace) (cb:Nat→BCls) (j:Nat) (D:Nat→Wk) (q:Nat→Nat):Prop where
 size:gs.size=S.K+j
 k1:0<S.K
 jn:j≤S.n
 old : ∀ i g,0<i→i<S.K→gs[i]? = some g→QuitsD S.P (q i) (Deaf t i) g
 wk : ∀ i,i<j → ∃ g,gs[S.K+i]? = some g∧WSit S cb i (D i).s (D i).f (D i).d (D i).x g w∧Deaf t (S.K+i)=(D i).d
 above : ∀ i,S.K+j≤i→Deaf t i=0
 ti:TI (clsL S cb j) (S.K+j) t
 seg:Seg S.t0.size S.Wg S.K (S.K+S.n) t
 nrel:NoRelease (stA S.Wg) t
 rel : ∀ i,i<j→(D i).s≤6 → ∃ r,RelBy (stA S.Wg) t (S.K+i) r
 seen : ∀ op∈t,op.act.low w.heap.size
 pre : ∃ u,t=S.t0 ++ u
 env:w.os=S.w0.os∧w.tape=S.w0.tape∧w.output=S.w0.output
 sync:cb S.Wg = .sync
 lt:S.Wg<w.heap.size
 base : ∀ b,b≤S.Wg→cb b=S.cb0 b
 cb0 : ∀ b,b≤S.Wg → ∀ g,S.cb0 b ≠ .own g
 shr : ∀ b s,cb b = .shared s→s≤S.K+j
 stand : ∀ b,b<S.Wg→b≠S.C→w.heap[b]? = S.w0.heap[b]?
 cells:0<S.n→cb S.C = .cells∧S.C<S.Wg
 c0:S.n=0→S.C=S.Wg
 shc : ∀ b s,b<w.heap.size→cb b = .shared s → ∃ c e f,w.heap[b]? = some (.cells c e f)
 nown : ∀ b k,b<w.heap.size→S.K+j≤k→cb b ≠ .own k
 pay:0<S.n → ∃ c,w.heap[S.C]? = some (.cells c S.eC (0,0))∧c.size=2*S.n ∧ ∀ i,i<j→(D i).s≤7→c[2*i]? = some (S.pv i).1∧c[2*i+1]? = some (S.pv i).2
section
variable {S:Ses} {gs gs':Array Goroutine} {w w':World} {t:Trace} {cb:Nat→BCls} {j:Nat} {D D':Nat→Wk} {q q':Nat→Nat} {γ:Nat} {fn:FuncId} {pos:String} {es:Array Event} {g g':Goroutine}
theorem Com.at (h:Com S gs w t cb j D q) (d:Nat):Com S gs (w.at d) t cb j D q :=
 ⟨h.size,h.k1,h.jn,h.old,fun i hi=>let ⟨g,h1,h2,h3⟩:=h.wk i hi;⟨g,h1,h2.at d,h3⟩,h.above,h.ti,h.seg,h.nrel,h.rel,h.seen,h.pre,h.env,h.sync,h.lt,h.base,h.cb0,h.shr,h.stand,h.cells,h.c0,h.shc,h.nown,h.pay⟩
theorem low_untouched {N:Nat} (h : ∀ op∈t,op.act.low N) {l:Loc} (hl : ∀ b,onB l b→N≤b) (hm:l.isMemory=true):Untouched t l:=by
 intro i a ha e
 obtain ⟨op,ho,hoa⟩:=touch_of ha
 have hlow:=h op (Array.mem_of_getElem? ho)
 have key : ∀ act:MemAct,act.low N→act.touch? = some a → ∃ b,onB l b∧b<N:=fun act h1 h2=>by
  cases act with
  | access ev =>
   simp only [MemAct.touch?,Option.some.injEq] at h2
   subst h2
   simp only at e
   subst e
   obtain ⟨l,wt,sy⟩:=ev
   cases l with
   | cell x => exact ⟨x.block, .inl ⟨x, rfl, rfl⟩, h1⟩
   | obj r => exact ⟨r, .inr Z, h1⟩
   | _ => cases hm
  | mark mm =>
   cases mm with
   | read x =>
    simp only [MemAct.touch?,Option.some.injEq] at h2
    subst h2;simp only at e;subst e
    exact ⟨x.block, .inl ⟨x,rfl,rfl⟩,h1⟩
   | write x =>
    simp only [MemAct.touch?,Option.some.injEq] at h2
    subst h2;simp only at e;subst e
    exact ⟨x.block, .inl ⟨x,rfl,rfl⟩,h1⟩
   | _ => cases h2
  | _ => cases h2
 obtain ⟨b,h1,h2⟩:=key _ hlow hoa
 have:=hl b h1
 omega
theorem clsL_old {N k:Nat} {l:Loc} (h : ∀ b,onB l b→b<N):clsL S (cbN cb N k) j l=clsL S cb j l:=by
 cases l with
 | cell a => simp only [clsL, cbN_old (h a.block (.inl ⟨a, rfl, rfl⟩))]
 | obj r => simp only [clsL, cbN_old (h r (.inr Z))]
 | _ => rfl
theorem TI.grow {top N k:Nat} (h:TI (clsL S cb j) top t) (hs : ∀ op∈t,op.act.low N):TI (clsL S (cbN cb N k) j) top t:=by
 refine h.re fun l => ?_
 by_cases hm:l.isMemory=true
 ·by_cases hb : ∀ b,onB l b→b<N
  ·exact .inl (clsL_old hb)
  ·refine .inr (.inl (low_untouched hs (fun b hb' => ?_) hm))
   refine Nat.le_of_not_lt fun hlt=>hb fun b' hb'' => ?_
   rcases hb' with ⟨a,rfl,rfl⟩ | rfl <;> rcases hb'' with ⟨a',e,rfl⟩ | e <;> cases e <;> exact hlt
 ·cases l <;> first | exact absurd Z hm | exact .inl Z
structure EvS (S:Ses) (cb:Nat→BCls) (N j γ B:Nat) (e:Event):Prop where
 ok : ∀ x,(MemAct.ofEvent e).touch? = some x→OkT (clsL S (cbN cb N γ) j) (S.K+j) γ x∧(x.kind = .atomic → ∃ a,x.loc = .cell a∧a.block=S.Wg)
 rel:e.loc ≠ .mark (.release (stA S.Wg))
 low:(MemAct.ofEvent e).low B
theorem EvS.of {N B:Nat} {e:Event} (h:EvOk (fun b=>b<N∧Fb cb γ b) (fun b=>b<N∧Vb cb γ b) B e) (hk:γ<S.K+j):EvS S cb N j γ B e :=
 ⟨fun x hx=>let ⟨h1,h2⟩:=evOk_okT (S:=S) (j:=j) h hk x hx;⟨h1,fun e=>by rw [h2] at e;cases e⟩,(evOk_low h).2.2.2 _,(evOk_low h).1⟩
theorem loc_rel {e:Event} {a:Addr} (h:MemAct.ofEvent e = .mark (.release a)):e.loc = .mark (.release a):=by
 obtain ⟨l,wt,sy⟩:=e
 cases l <;> cases wt <;> cases sy <;> simp_all [MemAct.ofEvent]
theorem Com.mk' (h:Com S gs w t cb j D q) (c:Chg S cb γ w w') (hγ:(γ=0∨S.K≤γ) ∨ ∀ e∈es,(MemAct.ofEvent e).touch? = none) (hsz:gs'.size=gs.size)
  (hev : ∀ e∈es,EvS S cb w.heap.size j γ w'.heap.size e)
  (hold : ∀ i g,0<i→i<S.K→gs'[i]? = some g→QuitsD S.P (q' i) (Deaf (t ++ MemOp.ofEvents γ fn pos es) i) g)
  (hwk : ∀ i,i<j → ∃ g,gs'[S.K+i]? = some g∧WSit S (cbN cb w.heap.size γ) i (D' i).s (D' i).f (D' i).d (D' i).x g w'∧Deaf (t ++ MemOp.ofEvents γ fn pos es) (S.K+i)=(D' i).d)
  (hγj:γ<S.K+j)
  (hrel : ∀ i,i<j→(D' i).s≤6 → ∃ r,RelBy (stA S.Wg) (t ++ MemOp.ofEvents γ fn pos es) (S.K+i) r)
  (hpay:0<S.n → ∃ c,w'.heap[S.C]? = some (.cells c S.eC (0,0))∧c.size=2*S.n ∧ ∀ i,i<j→(D' i).s≤7→c[2*i]? = some (S.pv i).1∧c[2*i+1]? = some (S.pv i).2) :
  Com S gs' w' (t ++ MemOp.ofEvents γ fn pos es) (cbN cb w.heap.size γ) j D' q':=by
 have hop : ∀ op∈MemOp.ofEvents γ fn pos es,op.g=γ ∧ ∃ e∈es,op.act = .ofEvent e:=fun op hop=>by
  obtain ⟨e,he,rfl⟩:=mem_ofEvents hop
  exact ⟨rfl,e,he,rfl⟩
 refine ⟨hsz.trans h.size,h.k1,h.jn,hold,hwk,fun i hi => ?_,?_,?_,?_,hrel,?_,?_,?_,?_,?_,fun b hb => ?_,h.cb0,fun b s hs => ?_,fun b hb hC => ?_,fun hn => ?_,h.c0,fun b s hb hs => ?_,fun b k hb hk => ?_,hpay⟩
 ·rw [Deaf_other t (g':=γ) X _ fun op ho=>(hop op ho).1]; exact h.above i hi
 ·refine (h.ti.grow (k:=γ) h.seen).app (g:=γ) fun op ho=>⟨(hop op ho).1,fun x hx => ?_⟩
  obtain ⟨_,e,he,ha⟩:=hop op ho
  exact ((hev e he).ok x (ha▸hx)).1
 ·refine h.seg.app fun op ho x hx => ?_
  obtain ⟨h1,e,he,ha⟩:=hop op ho
  refine ⟨?_,((hev e he).ok x (ha▸hx)).2⟩
  rw [h1]
  rcases hγ with h2 | h2
  ·have:=h.jn
   exact h2.imp id fun h=>⟨h,by omega⟩
  ·rw [ha,h2 e he] at hx;cases hx
 ·refine h.nrel.app fun op ho e1 => ?_
  obtain ⟨_,e,he,ha⟩:=hop op ho
  exact (hev e he).rel (loc_rel (ha.symm.trans e1))
 ·refine seen_app (fun op ho=>MemAct.low_mono c.size (h.seen op ho)) fun op ho => ?_
  obtain ⟨_,e,he,ha⟩:=hop op ho
  rw [ha]; exact (hev e he).low
 ·obtain ⟨u,rfl⟩:=h.pre
  exact ⟨u ++ MemOp.ofEvents γ fn pos es,by rw [Array.append_assoc]⟩
 ·exact ⟨c.os.trans h.env.1,c.tape.trans h.env.2.1,c.output.trans h.env.2.2⟩
 ·rw [cbN_old h.lt]; exact h.sync
 ·exact Nat.lt_of_lt_of_le h.lt c.size
 ·rw [cbN_old (by have:=h.lt;omega)]; exact h.base b hb
 ·rcases Nat.lt_or_ge b w.heap.size with hl | hl
  ·rw [cbN_old hl] at hs;exact h.shr b s hs
  ·rw [cbN_new hl] at hs;cases hs
 ·have hlt:=h.lt
  rw [c.blk b X (fun e=>h.cb0 b X γ ((h.base b X).symm.trans e)) X hC]
  exact h.stand b hb hC
 ·obtain ⟨h1,h2⟩:=h.cells hn
  exact ⟨by rw [cbN_old (by have:=h.lt;omega)]; exact h1,h2⟩
 ·rcases Nat.lt_or_ge b w.heap.size with hl | hl
  ·rw [cbN_old hl] at hs
   have hW:b≠S.Wg:=fun e=>by subst e;rw [h.sync] at hs;cases hs
   rw [c.blk b hl (by rw [hs]; simp) hW fun e => ?_]
   ·exact h.shc b s hl hs
   ·rcases Nat.eq_zero_or_pos S.n with h0 | h0
    ·exact hW (e.trans (h.c0 h0))
    ·subst e;rw [(h.cells h0).1] at hs;cases hs
  ·rw [cbN_new hl] at hs;cases hs
 ·rcases Nat.lt_or_ge b w.heap.size with hl | hl
  ·rw [cbN_old hl]; exact h.nown b k hl hk
  ·rw [cbN_new hl]; intro e;cases e;omega
theorem Com.pay_chg (h:Com S gs w t cb j D q) (hb:0<S.n→w'.heap[S.C]? = w.heap[S.C]?) (hD : ∀ i,i<j→(D' i).s≤7→(D i).s≤7) :
  0<S.n → ∃ c,w'.heap[S.C]? = some (.cells c S.eC (0,0))∧c.size=2*S.n ∧ ∀ i,i<j→(D' i).s≤7→c[2*i]? = some (S.pv i).1∧c[2*i+1]? = some (S.pv i).2:=fun hn =>
 let ⟨c,h1,h2,h3⟩:=h.pay hn;⟨c,(hb hn).trans h1,h2,fun i hi hs=>h3 i hi (hD i hi hs)⟩
theorem Com.C_cells (h:Com S gs w t cb j D q) {i:Nat} (hi:i<j):cb S.C = .cells:=(h.cells (by have:=h.jn;omega)).1
theorem Com.step0 (h:Com S gs w t cb j D q) (c:Chg S cb 0 w w') (hev : ∀ e∈es,EvS S cb w.heap.size j 0 w'.heap.size e) (hC:0<S.n→w'.heap[S.C]? = w.heap[S.C]?) :
  Com S ((gs.map (woken S.P g g' w')).setIfInBounds 0 g') w' (t ++ MemOp.ofEvents 0 fn pos es) (cbN cb w.heap.size 0) j D q:=by
 have hk:=h.k1
 have hop : ∀ op∈MemOp.ofEvents 0 fn pos es,op.g=0:=fun op hop=>by obtain ⟨e,_,rfl⟩:=mem_ofEvents hop;rfl
 refine h.mk' c (.inl (.inl Z)) (by simp) hev (fun i x h0 hi hx => ?_) (fun i hi => ?_) X (fun i hi hs => ?_) (h.pay_chg hC fun _ _ h=>h)
 ·rw [Array.getElem?_setIfInBounds_ne X,Array.getElem?_map] at hx
  obtain ⟨y,hy,rfl⟩:=Option.map_eq_some_iff.1 hx
  have hq:=h.old i y h0 hi hy
  rw [woken_quitsD hq,Deaf_other t (g':=0) X _ hop]
  exact hq
 ·obtain ⟨y,hy,hs,hd⟩:=h.wk i hi
  refine ⟨y,?_,hs.chg c X h.sync (.inl (h.C_cells hi)),?_⟩
  ·rw [Array.getElem?_setIfInBounds_ne X,Array.getElem?_map,hy]
   simp [hs.woken]
  ·rw [Deaf_other t (g':=0) X _ hop]; exact hd
 ·obtain ⟨r,hr⟩:=h.rel i hi hs
  exact ⟨r,hr.appOther hop X⟩
theorem Com.stepW (h:Com S gs w t cb j D q) {i:Nat} (hi:i<j) {s' f':Nat} {x':Anc} (c:Chg S cb (S.K+i) w w') (hev : ∀ e∈es,EvS S cb w.heap.size j (S.K+i) w'.heap.size e)
  (hs':WSit S (cbN cb w.heap.size (S.K+i)) i s' f' (deafBehind (D i).d es) x' g' w')
  (hrel:s'≤6 → ∃ r,RelBy (stA S.Wg) (t ++ MemOp.ofEvents (S.K+i) fn pos es) (S.K+i) r)
  (hpay:0<S.n → ∃ c,w'.heap[S.C]? = some (.cells c S.eC (0,0))∧c.size=2*S.n ∧ ∀ i',i'<j→(ConcN.upd D i ⟨s',f',deafBehind (D i).d es,x'⟩ i').s≤7→c[2*i']? = some (S.pv i').1∧c[2*i'+1]? = some (S.pv i').2) :
  Com S ((gs.map (woken S.P g g' w')).setIfInBounds (S.K+i) g') w' (t ++ MemOp.ofEvents (S.K+i) fn pos es) (cbN cb w.heap.size (S.K+i)) j (ConcN.upd D i ⟨s',f',deafBehind (D i).d es,x'⟩) q:=by
 have hk:=h.k1
 have hop : ∀ op∈MemOp.ofEvents (S.K+i) fn pos es,op.g=S.K+i:=fun op hop=>by obtain ⟨e,_,rfl⟩:=mem_ofEvents hop;rfl
 have hsz:=h.size
 refine h.mk' c (.inl (.inr X)) (by simp) hev (fun i' x h0 hi' hx => ?_) (fun i' hi' => ?_) X (fun i' hi' hs => ?_) hpay
 ·rw [Array.getElem?_setIfInBounds_ne X,Array.getElem?_map] at hx
  obtain ⟨y,hy,rfl⟩:=Option.map_eq_some_iff.1 hx
  have hq:=h.old i' y h0 hi' hy
  rw [woken_quitsD hq,Deaf_other t (g':=S.K+i) X _ hop]
  exact hq
 ·by_cases e:i'=i
  ·subst e
   refine ⟨g',by rw [Array.getElem?_setIfInBounds_self_of_lt (by simp;omega)],by rw [upd_same]; exact hs',?_⟩
   obtain ⟨_,_,_,hd⟩:=h.wk i' hi
   rw [upd_same,Deaf_own,hd]
  ·obtain ⟨y,hy,hs,hd⟩:=h.wk i' hi'
   refine ⟨y,?_,by rw [upd_ne D _ e]; exact hs.chg c X h.sync (.inl (h.C_cells hi')),?_⟩
   ·rw [Array.getElem?_setIfInBounds_ne X,Array.getElem?_map,hy]
    simp [hs.woken]
   ·rw [upd_ne D _ e,Deaf_other t (g':=S.K+i) X _ hop]; exact hd
 ·by_cases e:i'=i
  ·subst e;rw [upd_same] at hs;exact hrel hs
  ·rw [upd_ne D _ e] at hs
   obtain ⟨r,hr⟩:=h.rel i' hi' hs
   exact ⟨r,hr.appOther hop X⟩
theorem Com.stepO (h:Com S gs w t cb j D q) {i:Nat} (hi0:0<i) (hi:i<S.K) {k:Nat} (hm : ∀ e∈es,Event.mute e=true) (hq:QuitsD S.P k (deafBehind (Deaf t i) es) g') :
  Com S ((gs.map (woken S.P g g' w)).setIfInBounds i g') w (t ++ MemOp.ofEvents i fn pos es) (cbN cb w.heap.size i) j D (ConcN.upd q i k):=by
 have hop : ∀ op∈MemOp.ofEvents i fn pos es,op.g=i:=fun op hop=>by obtain ⟨e,_,rfl⟩:=mem_ofEvents hop;rfl
 have hsz:=h.size
 refine h.mk' (.refl w) (.inr fun e he=>touch_mute (hm e he)) (by simp) (fun e he=>⟨fun x hx=>(by rw [touch_mute (hm e he)] at hx;cases hx),fun e1 => ?_,low_mute (hm e he) _⟩) (fun i' x h0 hi' hx => ?_) (fun i' hi' => ?_) X (fun i' hi' hs => ?_) (h.pay_chg (fun _=>rfl) fun _ _ h=>h)
 ·have:=hm e he
  obtain ⟨l,wt,sy⟩:=e
  simp only at e1
  subst e1
  simp [Event.mute] at this
 ·by_cases e:i'=i
  ·subst e
   rw [Array.getElem?_setIfInBounds_self_of_lt (by simp;omega)] at hx
   cases hx
   rw [upd_same,Deaf_own]; exact hq
  ·rw [Array.getElem?_setIfInBounds_ne X,Array.getElem?_map] at hx
   obtain ⟨y,hy,rfl⟩:=Option.map_eq_some_iff.1 hx
   have hq:=h.old i' y h0 hi' hy
   rw [woken_quitsD hq,Deaf_other t (g':=i) X _ hop,upd_ne q k e]
   exact hq
 ·obtain ⟨y,hy,hs,hd⟩:=h.wk i' hi'
  refine ⟨y,?_,hs.chg (.refl w) X h.sync (.inl (h.C_cells hi')),?_⟩
  ·rw [Array.getElem?_setIfInBounds_ne X,Array.getElem?_map,hy]
   simp [hs.woken]
  ·rw [Deaf_other t (g':=i) X _ hop]; exact hd
 ·obtain ⟨r,hr⟩:=h.rel i' hi' hs
  exact ⟨r,hr.appOther hop X⟩
end
end Tor.Co
end
section
namespace Tor.Co
open Go Go.Conc Go.RowKit
open Go.ConcN (WgLive RelBy sumTo upd sumTo_upd upd_ne upd_same RelBy.appOther RelBy.appOwn sumTo_congr le_sumTo sumTo_le)
open Go.ConcR (KK wgBlock WgAt stA smA rd wr mk DC0)
def cnt (d:Wk):Nat:=if 5≤d.s then 1 else 0
def Vc (j:Nat) (D:Nat→Wk):Nat:=sumTo j fun i=>cnt (D i)
def Ss (j:Nat) (D:Nat→Wk):Nat:=sumTo j fun i=>(D i).s
def Fs (j:Nat) (D:Nat→Wk):Nat:=sumTo j fun i=>(D i).f
inductive Tag where
 | hd (r : Nat) | r9 (r : Nat) | ka (r : Nat) | a1 (r : Nat) | sd (r : Nat) | ke (r : Nat) | go (r : Nat)
 | kw | an | w1 | w2 (vs : Nat) | sw | w3 | blk | w4 | kew | aq | fin
def phi (n v:Nat):Tag→Nat
 | .hd r => 10 * n + 59 + 32 * r
 | .r9 r => 10 * n + 58 + 32 * r
 | .ka r => 10 * n + 57 + 32 * r
 | .a1 r => 10 * n + 56 + 32 * r
 | .sd r => 10 * n + 55 + 32 * r
 | .ke r => 10 * n + 54 + 32 * r
 | .go r => 10 * n + 53 + 32 * r
 | .kw => 10 * n + 40
 | .an => 10 * v + 9
 | .w1 => 10 * v + 8
 | .w2 vs => 10 * vs + 7
 | .sw => 7
 | .w3 => 6
 | .blk => 6
 | .w4 => 5
 | .kew => 4
 | .aq => 3
 | .fin => 2
def pend:Tag→Nat
 | .sd _ | .ke _ | .go _ => 1
 | _ => 0
def isOpen:Tag→Prop
 | .hd _ | .r9 _ | .ka _ | .a1 _ | .sd _ | .ke _ | .go _ | .kw | .an | .w1 | .w2 _ => True
 | _ => False
def isW3:Tag→Prop
 | .sw | .w3 | .blk => True
 | _ => False
def isFin:Tag→Prop
 | .w4 | .kew | .aq | .fin => True
 | _ => False
def OpenSt (j:Nat) (D:Nat→Wk):Prop := ∀ i,i<j→(D i).s=8∨(D i).s=7∨(D i).s=6∨(D i).s=5∨(D i).s=1
def AllQuit (j:Nat) (D:Nat→Wk):Prop := ∀ i,i<j→(D i).s=1
inductive Mode (j:Nat) (D:Nat→Wk):Tag→Int→Int→Prop
 | opn {tag : Tag} : isOpen tag → OpenSt j D → (∀ vs, tag = .w2 vs → Vc j D ≤ vs ∧ 1 ≤ vs) → Mode j D tag (((Vc j D + pend tag : Nat) : Int) * KK) 0
 | reg {tag : Tag} : isW3 tag → OpenSt j D → 1 ≤ Vc j D → Mode j D tag (((Vc j D : Nat) : Int) * KK + 1) 0
 | last {tag : Tag} (l : Nat) : isW3 tag → l < j → ((D l).s = 4 ∨ (D l).s = 3 ∨ (D l).s = 2) → (∀ i, i < j → i ≠ l → (D i).s = 1) → Mode j D tag (if (D l).s = 2 then 0 else 1) 0
 | sema {tag : Tag} : (tag = .sw ∨ tag = .w3) → AllQuit j D → Mode j D tag 0 1
 | fin {tag : Tag} : isFin tag → AllQuit j D → Mode j D tag 0 0
def AcqK (S:Ses) (j:Nat) (t:Trace):Prop := ∃ p,t.act? p=some (.mark (.acquire (stA S.Wg)))∧t.g? p=some 0∧t.heard p ∧ ∀ i,i<j → ∃ r,RelBy (stA S.Wg) t (S.K+i) r∧r<p
theorem AcqK.app {S:Ses} {j:Nat} {t u:Trace} (h:AcqK S j t) (hu : ∀ i r,i<j→RelBy (stA S.Wg) t (S.K+i) r→RelBy (stA S.Wg) (t ++ u) (S.K+i) r):AcqK S j (t ++ u):=by
 obtain ⟨p,h1,h2,h3,h4⟩:=h
 have hp:=lt_of_act? h1
 exact ⟨p,by rw [act?_old hp]; exact h1,by rw [g?_old hp]; exact h2,(heard_old hp).2 h3,fun i hi=>let ⟨r,hr,hrp⟩:=h4 i hi;⟨r,hu i r hi hr,hrp⟩⟩
section
variable {j i:Nat} {D:Nat→Wk} {tag:Tag} {st sm:Int}
theorem phi_mono (n:Nat) {v v':Nat} (h:v'≤v) (tag:Tag):phi n v' tag≤phi n v tag:=by cases tag <;> simp only [phi] <;> omega
theorem Vc_upd (D:Nat→Wk) (x:Wk) (hi:i<j):Vc j (ConcN.upd D i x)+cnt (D i)=Vc j D+cnt x:=sumTo_upd D x cnt hi
theorem Vc_le (j:Nat) (D:Nat→Wk):Vc j D≤j:=by
 have:=sumTo_le (f:=fun i=>cnt (D i)) (c:=1) (j:=j) fun i _=>by simp only [cnt]; split <;> omega
 simpa [Vc] using this
theorem Mode.congr {D':Nat→Wk} (h : ∀ a,a<j→(D' a).s=(D a).s) (hm:Mode j D tag st sm):Mode j D' tag st sm:=by
 have hv:Vc j D'=Vc j D:=sumTo_congr fun a ha=>by simp only [cnt,h a ha]
 cases hm with
 | opn h1 h2 h3 => rw [← hv]; exact .opn h1 (fun a ha => by rw [h a ha]; exact h2 a ha) (fun vs e => by rw [hv]; exact h3 vs e)
 | reg h1 h2 h3 => rw [← hv]; exact .reg h1 (fun a ha => by rw [h a ha]; exact h2 a ha) (by rw [hv]; exact h3)
 | last l h1 h2 h3 h4 => rw [← h l h2]; exact .last l h1 h2 (by rw [h l h2]; exact h3) (fun a ha e => by rw [h a ha]; exact h4 a ha e)
 | sema h1 h2 => exact .sema h1 fun a ha => by rw [h a ha]; exact h2 a ha
 | fin h1 h2 => exact .fin h1 fun a ha => by rw [h a ha]; exact h2 a ha
theorem Mode.same (hm:Mode j D tag st sm) (f d:Nat) (x:Anc):Mode j (ConcN.upd D i ⟨(D i).s,f,d,x⟩) tag st sm :=
 hm.congr fun a _=>by
  by_cases e:a=i
  ·subst e;rw [upd_same]
  ·rw [upd_ne D _ e]
theorem Mode.counted (hm:Mode j D tag st sm) (hi:i<j) (h5:5≤(D i).s) {s:Nat} (hs:s=7∨s=6∨s=5) (f d:Nat) (x:Anc):Mode j (ConcN.upd D i ⟨s,f,d,x⟩) tag st sm:=by
 have hv:Vc j (ConcN.upd D i ⟨s,f,d,x⟩)=Vc j D:=by
  have:=Vc_upd D (⟨s,f,d,x⟩:Wk) hi
  have c1:cnt (D i)=1:=by simp [cnt,h5]
  have c2:cnt (⟨s,f,d,x⟩:Wk)=1:=by rcases hs with rfl | rfl | rfl <;> simp [cnt]
  omega
 have ho:OpenSt j D→OpenSt j (ConcN.upd D i ⟨s,f,d,x⟩):=fun h a ha=>by
  by_cases e:a=i
  ·subst e;rw [upd_same]; rcases hs with rfl | rfl | rfl <;> simp
  ·rw [upd_ne D _ e]; exact h a ha
 cases hm with
 | opn h1 h2 h3 => rw [← hv]; exact .opn h1 (ho h2) (fun vs e => by rw [hv]; exact h3 vs e)
 | reg h1 h2 h3 => rw [← hv]; exact .reg h1 (ho h2) (by rw [hv]; exact h3)
 | last l h1 h2 h3 h4 =>
  by_cases e:i=l
  ·subst e;omega
  ·have:=h4 i hi e;omega
 | sema _ h2 => have := h2 i hi; omega
 | fin _ h2 => have := h2 i hi; omega
theorem Mode.not_fin (hm:Mode j D tag st sm) (hi:i<j) (h:(D i).s≠1):tag ≠ .fin:=by
 rintro rfl
 cases hm with
 | opn h1 _ _ => exact h1
 | reg h1 _ _ => exact h1
 | last l h1 _ _ _ => exact h1
 | sema h1 _ => rcases h1 with h1 | h1 <;> cases h1
 | fin _ h2 => exact h (h2 i hi)
theorem Mode.isLast (hm:Mode j D tag st sm) (hi:i<j) (h:(D i).s=4∨(D i).s=3∨(D i).s=2) :
  isW3 tag∧(∀ a,a<j→a≠i→(D a).s=1)∧st=(if (D i).s=2 then 0 else 1)∧sm=0:=by
 cases hm with
 | opn _ h2 _ => have := h2 i hi; omega
 | reg _ h2 _ => have := h2 i hi; omega
 | last l h1 h2 h3 h4 =>
  by_cases e:i=l
  ·subst e;exact ⟨h1,h4,rfl,rfl⟩
  ·have:=h4 i hi e;omega
 | sema _ h2 => have := h2 i hi; omega
 | fin _ h2 => have := h2 i hi; omega
theorem others_uncounted (hi:i<j) (h1:Vc j D=1) (hc:cnt (D i)=1) : ∀ a,a<j→a≠i→cnt (D a)=0:=by
 intro a ha e
 have h0:=Vc_upd D (⟨0,0,0,anc0⟩:Wk) hi
 have c0:cnt (⟨0,0,0,anc0⟩:Wk)=0:=rfl
 have:=le_sumTo (f:=fun x=>cnt (ConcN.upd D i ⟨0,0,0,anc0⟩ x)) ha
 simp only [upd_ne D _ e] at this
 simp only [Vc] at h0 h1
 omega
theorem exists_counted : ∀ {j:Nat},1≤Vc j D → ∃ i,i<j∧5≤(D i).s
 | 0, h => by simp [Vc, sumTo] at h
 | j + 1, h => by
  by_cases hc:5≤(D j).s
  ·exact ⟨j,by omega,hc⟩
  ·have:1≤Vc j D:=by simp only [Vc,sumTo,cnt,if_neg hc] at h ⊢; simpa using h
   obtain ⟨i,hi,h5⟩:=exists_counted this
   exact ⟨i,by omega,h5⟩
end
/-! ### The starter -/
section
variable (S:Ses)
def Sees (g:World):Prop := ∀ b c e f,b<S.Wg→b≠S.C→S.cb0 b = .shared S.K→S.w0.heap[b]? = some (.cells c e f)→g.heap[b]? = some (.cells c e (0,c.size))
def AtGo (b9 b10:Nat) (Next:Goroutine→Prop) (g:Goroutine):Prop:=g.status = .running ∧ ∃ g',(∀ w,stepG S.P true g w = .spawn g' (S.child b9 b10) w #[])∧Next g'
def R9Stop (j:Nat) (Next:Goroutine→Prop) (g:Goroutine) (ĝ : World):Prop := ∃ b9 b10,b9≠b10 ∧ ĝ.heap[b9]? = some (.cells #[(S.bx j).1] S.e9 (0,0)) ∧ ĝ.heap[b10]? = some (.cells #[(S.bx j).2] S.e10 (0,0)) ∧
 LGo S.P true S.ty S.Wg (KdA S.P S.ty S.Wg (AtGo S b9 b10 Next)) g∧g.status = .running
def AtR9 (j:Nat) (Next:Goroutine→Prop) (g:Goroutine):Prop:=g.status = .running ∧ ∀ ĝ,Sees S ĝ → @GoI noAsk S.P true (R9Stop S j Next) g ĝ
def Scr:Nat→Goroutine→Prop
 | 0 => LGo S.P true S.ty S.Wg (Says S.P true S.ty S.Wg .disable S.Anch)
 | r + 1 => LGo S.P true S.ty S.Wg (AtR9 S (S.n - (r + 1)) (Scr r))
structure Bx (cb:Nat→BCls) (w:World) (j b9 b10:Nat):Prop where
 ne:b9≠b10
 l9:b9<w.heap.size
 l10:b10<w.heap.size
 c9:cb b9 = .own 0
 c10:cb b10 = .own 0
 h9:w.heap[b9]? = some (.cells #[(S.bx j).1] S.e9 (0,0))
 h10:w.heap[b10]? = some (.cells #[(S.bx j).2] S.e10 (0,0))
inductive MSit (cb:Nat→BCls):Tag→Nat→Nat→Nat→Anc→Goroutine→World→Prop
 | hd {r f g w} : r < S.n → (∀ b, b < w.heap.size → cb b ≠ .own 0) → Lg S.P true S.ty S.Wg (AtR9 S (S.n - (r + 1)) (Scr S r)) f g w → MSit cb (.hd r) (S.n - (r + 1)) f 0 anc0 g w
 | r9 {r g ĝ₀ ĝ w} : r < S.n → @GoI noAsk S.P true (R9Stop S (S.n - (r + 1)) (Scr S r)) g ĝ₀ → Grow ĝ₀ ĝ → MskK cb 0 ĝ w → MSit cb (.r9 r) (S.n - (r + 1)) 0 0 ⟨true, R9Stop S (S.n - (r + 1)) (Scr S r), g, ĝ₀⟩ g w
 | ka {r f b9 b10 g w} : r < S.n → Bx S cb w (S.n - (r + 1)) b9 b10 → Lg S.P true S.ty S.Wg (KdA S.P S.ty S.Wg (AtGo S b9 b10 (Scr S r))) f g w → MSit cb (.ka r) (S.n - (r + 1)) f 0 anc0 g w
 | a1 {r f b9 b10 g w} : r < S.n → Bx S cb w (S.n - (r + 1)) b9 b10 → Lg S.P true S.ty S.Wg (A1 S.P S.ty S.Wg (AtGo S b9 b10 (Scr S r))) f g w → MSit cb (.a1 r) (S.n - (r + 1)) f 1 anc0 g w
 | sd {r f b9 b10 g w} : r < S.n → Bx S cb w (S.n - (r + 1)) b9 b10 → Lg S.P true S.ty S.Wg (fun g => Says S.P true S.ty S.Wg (.read (smA S.Wg)) (Ke S.P S.ty S.Wg (AtGo S b9 b10 (Scr S r))) g ∨ Ke S.P S.ty S.Wg (AtGo S b9 b10 (Scr S r)) g) f g w → MSit cb (.sd r) (S.n - (r + 1)) f 1 anc0 g w
 | ke {r f b9 b10 g w} : r < S.n → Bx S cb w (S.n - (r + 1)) b9 b10 → Lg S.P true S.ty S.Wg (Ke S.P S.ty S.Wg (AtGo S b9 b10 (Scr S r))) f g w → MSit cb (.ke r) (S.n - (r + 1)) f 1 anc0 g w
 | go {r f b9 b10 g w} : r < S.n → Bx S cb w (S.n - (r + 1)) b9 b10 → Lg S.P true S.ty S.Wg (AtGo S b9 b10 (Scr S r)) f g w → MSit cb (.go r) (S.n - (r + 1)) f 0 anc0 g w
 | kw {f g w} : Lg S.P true S.ty S.Wg (Says S.P true S.ty S.Wg .disable S.Anch) f g w → MSit cb .kw S.n f 0 anc0 g w
 | an {f g w} : Lg S.P true S.ty S.Wg S.Anch f g w → MSit cb .an S.n f 1 anc0 g w
 | w1 {f g w} : Lg S.P true S.ty S.Wg (W1 S.P S.ty S.Wg S.Fin S.Anch) f g w → MSit cb .w1 S.n f 1 anc0 g w
 | w2 {vs f g w} : Lg S.P true S.ty S.Wg (W2 S.P S.ty S.Wg S.Fin S.Anch vs) f g w → MSit cb (.w2 vs) S.n f 1 anc0 g w
 | sw {f g w} : Lg S.P true S.ty S.Wg (Says S.P true S.ty S.Wg (.write (smA S.Wg)) (W3 S.P S.ty S.Wg S.Fin)) f g w → MSit cb .sw S.n f 1 anc0 g w
 | w3 {f g w} : Lg S.P true S.ty S.Wg (W3 S.P S.ty S.Wg S.Fin) f g w → MSit cb .w3 S.n (f + 1) 1 anc0 g w
 | blk {g w} : W3 S.P S.ty S.Wg S.Fin g → MSit cb .blk S.n 0 1 anc0 { g with status := .blocked } w
 | w4 {f g w} : Lg S.P true S.ty S.Wg (W4 S.P S.ty S.Wg S.Fin) f g w → MSit cb .w4 S.n f 1 anc0 g w
 | kew {f g w} : Lg S.P true S.ty S.Wg (KeW S.P S.ty S.Wg S.Fin) f g w → MSit cb .kew S.n f 1 anc0 g w
 | aq {f g w} : Lg S.P true S.ty S.Wg (Aq S.P S.ty S.Wg S.Fin) f g w → MSit cb .aq S.n f 0 anc0 g w
 | fin {f g w} : Lg S.P true S.ty S.Wg S.Fin f g w → MSit cb .fin S.n f 0 anc0 g w
end
structure Runs (S:Ses):Prop where
 fin : ∀ g,S.Fin g→g.status = .running
 anch : ∀ g,S.Anch g→g.status = .running
section
variable {S:Ses} {cb cb':Nat→BCls} {tag:Tag} {j f d γ:Nat} {x:Anc} {g:Goroutine} {w w':World}
theorem MSit.acc (h:MSit S cb tag j f d x g w):Acc (Rg S.P) x:=by
 cases h with
 | r9 _ h _ _ => exact h.acc
 | _ => exact anc0_acc
theorem MSit.status (hR:Runs S) (h:MSit S cb tag j f d x g w):(g.status = .running∧tag ≠ .blk)∨(g.status = .blocked∧tag = .blk):=by
 have a:=hR.anch
 have fi:=hR.fin
 cases h with
 | hd _ _ h => exact .inl ⟨h.status fun _ h => h.1, by simp⟩
 | r9 _ h hg _ =>
  refine .inl ⟨?_,by simp⟩
  cases h with
  | stop h => exact (h _ hg).choose_spec.choose_spec.2.2.2.2
  | step h _ _ => exact h
  | ask _ _ h => exact h.elim
 | ka _ _ h => exact .inl ⟨h.status says_run, by simp⟩
 | a1 _ _ h => exact .inl ⟨h.status fun _ h => h.1, by simp⟩
 | sd _ _ h => exact .inl ⟨h.status fun _ h => h.elim (·.1) (·.1), by simp⟩
 | ke _ _ h => exact .inl ⟨h.status says_run, by simp⟩
 | go _ _ h => exact .inl ⟨h.status fun _ h => h.1, by simp⟩
 | kw h => exact .inl ⟨h.status says_run, by simp⟩
 | an h => exact .inl ⟨h.status a, by simp⟩
 | w1 h => exact .inl ⟨h.status fun _ h => h.1, by simp⟩
 | w2 h => exact .inl ⟨h.status fun _ h => h.1, by simp⟩
 | sw h => exact .inl ⟨h.status says_run, by simp⟩
 | w3 h => exact .inl ⟨h.status fun _ h => h.1, by simp⟩
 | blk h => exact .inr ⟨rfl, rfl⟩
 | w4 h => exact .inl ⟨h.status fun _ h => h.1, by simp⟩
 | kew h => exact .inl ⟨h.status says_run, by simp⟩
 | aq h => exact .inl ⟨h.status says_run, by simp⟩
 | fin h => exact .inl ⟨h.status fi, by simp⟩
theorem Bx.cbN {b9 b10:Nat} (h:Bx S cb w j b9 b10) (hb:w'.heap[b9]? = w.heap[b9]? ∧ w'.heap[b10]? = w.heap[b10]?) (hsz:w.heap.size≤w'.heap.size) (k:Nat):Bx S (cbN cb w.heap.size k) w' j b9 b10 :=
 ⟨h.ne,Nat.lt_of_lt_of_le h.l9 hsz,Nat.lt_of_lt_of_le h.l10 hsz,(cbN_old h.l9).trans h.c9,(cbN_old h.l10).trans h.c10,hb.1.trans h.h9,hb.2.trans h.h10⟩
theorem MSit.chg (h:MSit S cb tag j f d x g w) (c:Chg S cb γ w w') (hne:0<γ) (hW:cb S.Wg = .sync) (hC:0<S.n→cb S.C = .cells):MSit S (cbN cb w.heap.size γ) tag j f d x g w':=by
 have bx : ∀ {r b9 b10:Nat},r<S.n→Bx S cb w (S.n - (r+1)) b9 b10→Bx S (cbN cb w.heap.size γ) w' (S.n - (r+1)) b9 b10:=fun {r b9 b10} hr h=>by
  have hb : ∀ b,b<w.heap.size→cb b = .own 0→w'.heap[b]? = w.heap[b]? := fun b hb hc=>c.blk b hb (by rw [hc]; intro e;cases e;omega) (fun e=>by subst e;rw [hW] at hc;cases hc) (fun e=>by subst e;rw [hC X] at hc;cases hc)
  exact h.cbN ⟨hb _ h.l9 h.c9,hb _ h.l10 h.c10⟩ c.size γ
 cases h with
 | hd hr ho h => exact .hd hr (fun b hb => by
   rcases Nat.lt_or_ge b w.heap.size with hl | hl
   ·rw [cbN_old hl]; exact ho b hl
   ·rw [cbN_new hl]; intro e;cases e;omega) (h.rely c.live)
 | r9 hr h hg hM => obtain ⟨ĝ', h1, h2⟩ := hM.chg c X hW (.inl (hC X)); exact .r9 hr h (hg.trans h2) h1
 | ka hr hb h => exact .ka hr (bx hr hb) (h.rely c.live)
 | a1 hr hb h => exact .a1 hr (bx hr hb) (h.rely c.live)
 | sd hr hb h => exact .sd hr (bx hr hb) (h.rely c.live)
 | ke hr hb h => exact .ke hr (bx hr hb) (h.rely c.live)
 | go hr hb h => exact .go hr (bx hr hb) (h.rely c.live)
 | kw h => exact .kw (h.rely c.live)
 | an h => exact .an (h.rely c.live)
 | w1 h => exact .w1 (h.rely c.live)
 | w2 h => exact .w2 (h.rely c.live)
 | sw h => exact .sw (h.rely c.live)
 | w3 h => exact .w3 (h.rely c.live)
 | blk h => exact .blk h
 | w4 h => exact .w4 (h.rely c.live)
 | kew h => exact .kew (h.rely c.live)
 | aq h => exact .aq (h.rely c.live)
 | fin h => exact .fin (h.rely c.live)
theorem MSit.at (h:MSit S cb tag j f d x g w) (dr:Nat):MSit S cb tag j f d x g (w.at dr):=by
 have bx : ∀ {jj b9 b10:Nat},Bx S cb w jj b9 b10→Bx S cb (w.at dr) jj b9 b10:=fun h=>⟨h.ne,h.l9,h.l10,h.c9,h.c10,h.h9,h.h10⟩
 cases h with
 | hd hr ho h => exact .hd hr ho (h.rely id)
 | r9 hr h hg hM => obtain ⟨ĝ', h1, h2⟩ := hM.rely (w' := w.at dr) (cb' := cb) Z Z Z (Nat.le_refl _) (fun _ _ => rfl) (fun b h1 h2 => absurd h2 (Nat.not_lt.2 h1)) fun _ _ _ => rfl; exact .r9 hr h (hg.trans h2) h1
 | ka hr hb h => exact .ka hr (bx hb) (h.rely id)
 | a1 hr hb h => exact .a1 hr (bx hb) (h.rely id)
 | sd hr hb h => exact .sd hr (bx hb) (h.rely id)
 | ke hr hb h => exact .ke hr (bx hb) (h.rely id)
 | go hr hb h => exact .go hr (bx hb) (h.rely id)
 | kw h => exact .kw (h.rely id)
 | an h => exact .an (h.rely id)
 | w1 h => exact .w1 (h.rely id)
 | w2 h => exact .w2 (h.rely id)
 | sw h => exact .sw (h.rely id)
 | w3 h => exact .w3 (h.rely id)
 | blk h => exact .blk h
 | w4 h => exact .w4 (h.rely id)
 | kew h => exact .kew (h.rely id)
 | aq h => exact .aq (h.rely id)
 | fin h => exact .fin (h.rely id)
theorem MSit.woken (hR:Runs S) (h:MSit S cb tag j f d x g w) (a a':Goroutine) (w₁:World) : ∃ tag' f',MSit S cb tag' j f' d x (woken S.P a a' w₁ g) w∧f'≤f+1∧(tag'=tag∨(tag = .blk∧tag' = .w3))∧(mayWake S.P a=true→a'.status = .running→tag' ≠ .blk):=by
 rcases h.status hR with ⟨hs,hne⟩ | ⟨hs,rfl⟩
 ·rw [woken_run hs]
  exact ⟨tag,f,h,by omega, .inl Z,fun _ _=>hne⟩
 ·cases h with
  | @blk g₀ _ h =>
   obtain ⟨hr,ho,_⟩:=id h
   by_cases hc:(mayWake S.P a && a'.status != .blocked && a'.status != .waiting)=true
   ·refine ⟨.w3,1,?_,by omega, .inr ⟨rfl,rfl⟩,fun _ _=>by simp⟩
    have:Go.Conc.woken S.P a a' w₁ { g₀ with status := .blocked } = g₀:=by
     unfold Go.Conc.woken
     rw [if_pos hc]
     unfold Goroutine.again
     obtain ⟨fr,cs,st,dy,of⟩:=g₀
     simp only at hr ho
     subst hr ho
     rfl
    rw [this]
    exact .w3 (f:=0) (fun _ _=>h)
   ·refine ⟨.blk,0,?_,by omega, .inl Z,fun h1 h2 => ?_⟩
    ·have:Go.Conc.woken S.P a a' w₁ { g₀ with status := .blocked } = { g₀ with status := .blocked } := by
      unfold Go.Conc.woken
      rw [if_neg hc]
     rw [this]
     exact .blk h
    ·exact absurd (by rw [h1,h2]; rfl) hc
end
end Tor.Co
end
section
namespace Tor.Co
open Go Go.Conc Go.RowKit
open Go.ConcN (WgLive RelBy sumTo upd sumTo_upd upd_ne upd_same RelBy.appOther RelBy.appOwn RelBy.new sumTo_congr le_sumTo sumTo_le)
open Go.ConcR (KK wgBlock WgAt stA smA rd wr mk DC0)
def fam (j:Nat) (x0:Anc) (D:Nat→Wk) (i:Nat):Anc:=if i=0 then x0 else if i≤j then (D (i - 1)).x else anc0
theorem fam_upd {j i:Nat} {x0:Anc} {D:Nat→Wk} (hi:i<j) (d:Wk) (a:Nat):fam j x0 (ConcN.upd D i d) a=if a=i+1 then d.x else fam j x0 D a:=by
 unfold fam
 by_cases h:a=i+1
 ·subst h
  rw [if_neg X,if_pos X,if_pos Z,Nat.add_sub_cancel,upd_same]
 ·rw [if_neg h]
  by_cases h0:a=0
  ·rw [if_pos h0,if_pos h0]
  ·rw [if_neg h0,if_neg h0]
   split
   ·rw [upd_ne D d X]
   ·rfl
def Sm (P:Program) (n:Nat) (r':Nat) (x':Nat→Anc) (f':Nat) (r:Nat) (x:Nat→Anc) (f:Nat):Prop:=r'<r∨(r'=r∧(Fam P (n+1) x' x∨(x'=x∧f'<f)))
def rk (S:Ses) (j:Nat) (D:Nat→Wk) (tag:Tag):Nat:=phi S.n (Vc j D) tag+Ss j D
def fu (S:Ses) (j:Nat) (D:Nat→Wk) (q:Nat→Nat) (f0:Nat):Nat:=f0+2*(Fs j D+sumTo S.K q)
def Inv (S:Ses) (r:Nat) (x:Nat→Anc) (f:Nat) (m:Machine) (t:Trace):Prop :=
 ∃ (gs:Array Goroutine) (w:World) (sl:Option (Nat × Nat)) (cb:Nat→BCls) (j:Nat) (D:Nat→Wk) (q:Nat→Nat) (tag:Tag) (f0:Nat) (x0:Anc) (a:Goroutine) (st sm:Int),
  m=crowd gs w sl∧gs[0]? = some a∧MSit S cb tag j f0 (Deaf t 0) x0 a w∧Com S gs w t cb j D q∧WgAt S.ty S.Wg w st sm∧Mode j D tag st sm∧(tag = .fin→AcqK S j t) ∧
  r=rk S j D tag∧x=fam j x0 D∧f=fu S j D q f0
theorem Inv.acc {S:Ses} {r:Nat} {x:Nat→Anc} {f:Nat} {m:Machine} {t:Trace} (h:Inv S r x f m t):Acc (Fam S.P (S.n+1)) x:=by
 obtain ⟨gs,w,sl,cb,j,D,q,tag,f0,x0,a,st,sm,_,_,hM,hC,_,_,_,_,rfl,_⟩:=h
 refine acc_fam _ _ fun i hi => ?_
 unfold fam
 split
 ·exact hM.acc
 ·split
  ·obtain ⟨g,_,h2,_⟩:=hC.wk (i - 1) X
   exact h2.acc
  ·exact anc0_acc
theorem Mode.retag {j:Nat} {D:Nat→Wk} {tag tag':Tag} {st sm:Int} (h:Mode j D tag st sm) (e:tag'=tag∨(tag = .blk∧tag' = .w3)):Mode j D tag' st sm:=by
 rcases e with rfl | ⟨rfl,rfl⟩
 ·exact h
 ·cases h with
  | opn h1 _ _ => exact h1.elim
  | reg _ h2 h3 => exact .reg trivial h2 h3
  | last l _ h2 h3 h4 => exact .last l trivial h2 h3 h4
  | sema h1 _ => rcases h1 with h1 | h1 <;> cases h1
  | fin h1 _ => exact h1.elim
theorem phi_retag (n v:Nat) {tag tag':Tag} (e:tag'=tag∨(tag = .blk∧tag' = .w3)):phi n v tag'=phi n v tag:=by
 rcases e with rfl | ⟨rfl,rfl⟩ <;> rfl
section
variable {S:Ses} {gs:Array Goroutine} {w w':World} {sl:Option (Nat × Nat)} {t:Trace} {cb:Nat→BCls} {j:Nat} {D:Nat→Wk} {q:Nat→Nat} {tag:Tag} {f0:Nat} {x0:Anc} {a:Goroutine} {st sm:Int} {es:Array Event} {i:Nat} {g g':Goroutine}
theorem stepW (hR:Runs S) (ha:gs[0]? = some a) (hM:MSit S cb tag j f0 (Deaf t 0) x0 a w) (hC:Com S gs w t cb j D q)
  (hi:i<j) (hg:gs[S.K+i]? = some g) (hgo:stepG S.P false g w = .go g' w' es) {s' f':Nat} {x':Anc} {st' sm':Int}
  (c:Chg S cb (S.K+i) w w') (hev : ∀ e∈es,EvS S cb w.heap.size j (S.K+i) w'.heap.size e)
  (hs':WSit S (cbN cb w.heap.size (S.K+i)) i s' f' (deafBehind (D i).d es) x' g' w')
  (hrel:s'≤6 → ∃ r,RelBy (stA S.Wg) (t ++ MemOp.ofEvents (S.K+i) g.frame.fn g.frame.place es) (S.K+i) r)
  (hpay:0<S.n → ∃ c,w'.heap[S.C]? = some (.cells c S.eC (0,0))∧c.size=2*S.n ∧ ∀ i',i'<j→(ConcN.upd D i ⟨s',f',deafBehind (D i).d es,x'⟩ i').s≤7→c[2*i']? = some (S.pv i').1∧c[2*i'+1]? = some (S.pv i').2)
  (hwg:WgAt S.ty S.Wg w' st' sm')
  (hmode : ∀ tag',(tag'=tag∨(tag = .blk∧tag' = .w3))→(mayWake S.P g=true→g'.status = .running→tag' ≠ .blk)→Mode j (ConcN.upd D i ⟨s',f',deafBehind (D i).d es,x'⟩) tag' st' sm')
  (hacq:tag = .fin→AcqK S j (t ++ MemOp.ofEvents (S.K+i) g.frame.fn g.frame.place es))
  (hlt:(s'<(D i).s∧cnt ⟨s',f',deafBehind (D i).d es,x'⟩≤cnt (D i))∨(s'=(D i).s∧(Rg S.P x' (D i).x∨(x'=(D i).x∧f'+1=(D i).f)))) :
  ∃ m' ops r' x₁ f₁,runT S.P (crowd gs w sl) (S.K+i)=(.next m',ops)∧Inv S r' x₁ f₁ m' (t ++ ops)∧Sm S.P S.n r' x₁ f₁ (rk S j D tag) (fam j x0 D) (fu S j D q f0):=by
 have hk:=hC.k1
 obtain ⟨tag',f'',hM',hf'',htag,hwk⟩:=(hM.chg c X hC.sync fun hn=>(hC.cells hn).1).woken hR g g' w'
 have hrun:=runT_crowd_go (P:=S.P) (sl:=sl) (i:=S.K+i) hg (by rw [show (S.K+i == 0)=false from by simp;omega]; exact hgo)
 have e1:=Vc_upd D (⟨s',f',deafBehind (D i).d es,x'⟩:Wk) hi
 have e2:=sumTo_upd D (⟨s',f',deafBehind (D i).d es,x'⟩:Wk) Wk.s hi
 have e3:=sumTo_upd D (⟨s',f',deafBehind (D i).d es,x'⟩:Wk) Wk.f hi
 have hd0:Deaf (t ++ MemOp.ofEvents (S.K+i) g.frame.fn g.frame.place es) 0=Deaf t 0:=Deaf_other t (g':=S.K+i) X _ fun op ho=>by obtain ⟨e,_,rfl⟩:=mem_ofEvents ho;rfl
 refine ⟨_,_,_,_,_,hrun,⟨_,w',sl,_,j,ConcN.upd D i ⟨s',f',deafBehind (D i).d es,x'⟩,q,tag',f'',x0,woken S.P g g' w' a,st',sm',rfl,?_,?_,hC.stepW hi c hev hs' hrel hpay,hwg,hmode tag' htag hwk,fun e => ?_,rfl,rfl,rfl⟩,?_⟩
 ·rw [Array.getElem?_setIfInBounds_ne X,Array.getElem?_map,ha]; rfl
 ·rw [hd0]; exact hM'
 ·rcases htag with rfl | ⟨_,rfl⟩
  ·exact hacq e
  ·cases e
 ·unfold Sm rk fu
  rw [phi_retag S.n _ htag]
  rcases hlt with ⟨h1,h2⟩ | ⟨h1,h2⟩
  ·left
   have:=phi_mono S.n (v':=Vc j (ConcN.upd D i ⟨s',f',deafBehind (D i).d es,x'⟩)) (v:=Vc j D) X tag
   simp only [Ss] at *
   omega
  ·right
   have ec:cnt (⟨s',f',deafBehind (D i).d es,x'⟩:Wk)=cnt (D i):=by simp only [cnt,h1]
   have ev:Vc j (ConcN.upd D i ⟨s',f',deafBehind (D i).d es,x'⟩)=Vc j D:=by omega
   have es':Ss j (ConcN.upd D i ⟨s',f',deafBehind (D i).d es,x'⟩)=Ss j D:=by simp only [Ss] at *; omega
   rw [ev,es']
   refine ⟨rfl,?_⟩
   rcases h2 with h2 | ⟨h2,h3⟩
   ·left
    refine ⟨i+1,by have:=hC.jn;omega,?_,fun b hb => ?_⟩
    ·rw [fam_upd hi,if_pos Z]
     have:fam j x0 D (i+1)=(D i).x:=by unfold fam;rw [if_neg X,if_pos X,Nat.add_sub_cancel]
     rw [this]; exact h2
    ·rw [fam_upd hi,if_neg hb]
   ·right
    refine ⟨?_,?_⟩
    ·funext b
     rw [fam_upd hi]
     split
     ·rename_i hb
      subst hb
      unfold fam;rw [if_neg X,if_pos X,Nat.add_sub_cancel]; exact h2
     ·rfl
    ·simp only [Fs] at *
     omega
def Bks (Wg:Nat) (e:Event):Prop:=e=mk .disable∨e=mk .enable ∨ ∃ a wr,e=⟨.cell a,wr,true⟩∧a.block=Wg
theorem EvS.bk {N B γ:Nat} {e:Event} (h:Bks S.Wg e) (hW:cb S.Wg = .sync) (hN:S.Wg<N) (hB:N≤B):EvS S cb N j γ B e:=by
 rcases h with rfl | rfl | ⟨a,wt,rfl,ha⟩
 ·exact ⟨fun x hx=>(by cases hx),(by simp [Go.ConcR.mk]),Cg⟩
 ·exact ⟨fun x hx=>(by cases hx),(by simp [Go.ConcR.mk]),Cg⟩
 ·refine ⟨fun x hx => ?_,by simp,?_⟩
  ·have:(MemAct.ofEvent ⟨.cell a,wt,true⟩).touch? = some ⟨.cell a,wt, .atomic⟩:=rfl
   rw [this] at hx;cases hx
   refine ⟨.inl ⟨?_,by simp,by simp⟩,fun _=>⟨a,rfl,ha⟩⟩
   simp only [clsL,ha,cbN_old hN,hW]
  ·show a.block<B
   omega
theorem open_quit (hi:i<j) {f d:Nat} {x:Anc} (h:OpenSt j D):OpenSt j (ConcN.upd D i ⟨1,f,d,x⟩):=fun a ha=>by
 by_cases e:a=i
 ·subst e;rw [upd_same]; simp
 ·rw [upd_ne D _ e]; exact h a ha
theorem relBy_bk {k:Nat} {a:Addr} {r d:Nat} (h:RelBy a t k r) (hd:Deaf t k=d) (fn:FuncId) (pos:String) {es:Array Event} (hes : ∀ e∈es,Bks S.Wg e)
  (hdf : ∀ jx e,es[jx]? = some e→(MemAct.ofEvent e).touch? = none∨0<deafBehind d (es.extract 0 jx)):RelBy a (t ++ MemOp.ofEvents k fn pos es) k r:=by
 refine h.appOwn fn pos es (fun jx x hx => ?_)
 rcases hdf jx x hx with h0 | h0
 ·exact .inl h0
 ·rcases hes x (Array.mem_of_getElem? hx) with rfl | rfl | ⟨a,wr,rfl,_⟩
  ·exact .inl Z
  ·exact .inl Z
  ·exact .inr ⟨⟨a,wr,rfl⟩,by rw [hd]; exact h0⟩
theorem setCell_block {a:Addr} {v:Value} {b:Nat} (h:b≠a.block):(w.setCell a v).heap[b]? = w.heap[b]? := by rw [setCell_at,if_neg h]
theorem stepWorker (hR:Runs S) (hn:S.n<2147483648) (ha:gs[0]? = some a) (hM:MSit S cb tag j f0 (Deaf t 0) x0 a w) (hC:Com S gs w t cb j D q) (hwg:WgAt S.ty S.Wg w st sm) (hmode:Mode j D tag st sm)
    (hpn:j+pend tag≤S.n) (hacq:tag = .fin→AcqK S j t) (hi:i<j) (hg:gs[S.K+i]? = some g) (hrun:g.status = .running) :
    ∃ m' ops r' x₁ f₁,runT S.P (crowd gs w sl) (S.K+i)=(.next m',ops)∧Inv S r' x₁ f₁ m' (t ++ ops)∧Sm S.P S.n r' x₁ f₁ (rk S j D tag) (fam j x0 D) (fu S j D q f0):=by
  have hk:=hC.k1
  have hlive:WgLive S.ty S.Wg w:=⟨st,sm,hwg⟩
  obtain ⟨g₁,hg₁,hs,hdk⟩:=hC.wk i hi
  obtain rfl:g=g₁:=by rw [hg] at hg₁; exact Option.some.inj hg₁
  have hVj:=Vc_le j D
  have hCW:0<S.n→S.C≠S.Wg:=fun h=>by have:=(hC.cells h).2;omega
  have n0:0<S.n:=by have:=hC.jn;omega
  generalize hst:(D i).s=s at hs
  generalize hfu:(D i).f=f at hs
  generalize hde:(D i).d=dd at hs
  generalize hxx:(D i).x=xx at hs
  rw [hde] at hdk
  have nf:s≠1→tag ≠ .fin:=fun h=>hmode.not_fin hi X
  have pay0 : ∀ {w':World} {s' f' d':Nat} {x':Anc},w'.heap[S.C]? = w.heap[S.C]? → (s'≤7→s≤7)→0<S.n → ∃ c,w'.heap[S.C]? = some (.cells c S.eC (0,0))∧c.size=2*S.n ∧ ∀ i',i'<j→(ConcN.upd D i ⟨s',f',d',x'⟩ i').s≤7→c[2*i']? = some (S.pv i').1∧c[2*i'+1]? = some (S.pv i').2:=fun hb hss=>by
    refine hC.pay_chg (fun _=>hb) fun i' hi' h7 => ?_
    by_cases e:i'=i
    · subst e;rw [upd_same] at h7;rw [hst]; exact hss h7
    · rw [upd_ne D _ e] at h7;exact h7
  -- a step of the library's bookkeeping: at most the group's block turns
  have book : ∀ {g':Goroutine} {w':World} {es:Array Event} {s' f' dd':Nat} {x':Anc} {st' sm':Int},stepG S.P false g w = .go g' w' es→Chg S cb (S.K+i) w w'→w'.heap[S.C]? = w.heap[S.C]? → w'.heap.size=w.heap.size→WgAt S.ty S.Wg w' st' sm'→(∀ e∈es,Bks S.Wg e) →
      (∀ jx e,es[jx]? = some e→(MemAct.ofEvent e).touch? = none∨0<deafBehind dd (es.extract 0 jx))→WSit S (cbN cb w.heap.size (S.K+i)) i s' f' dd' x' g' w'→deafBehind dd es=dd'→s≤6→s'≤6 →
      (∀ tag',(tag'=tag∨(tag = .blk∧tag' = .w3))→(mayWake S.P g=true→g'.status = .running→tag' ≠ .blk)→Mode j (ConcN.upd D i ⟨s',f',dd',x'⟩) tag' st' sm') →
      ((s'<s∧cnt ⟨s',f',dd',x'⟩≤cnt (D i))∨(s'=s∧(Rg S.P x' xx∨(x'=xx∧f'+1=f)))) →
      ∃ m' ops r' x₁ f₁,runT S.P (crowd gs w sl) (S.K+i)=(.next m',ops)∧Inv S r' x₁ f₁ m' (t ++ ops)∧Sm S.P S.n r' x₁ f₁ (rk S j D tag) (fam j x0 D) (fu S j D q f0):=by
    intro g' w' es s' f' dd' x' st' sm' hgo c hb hsz hwg' hbk hdf hs' hdd h6 h6' hmode' hlt
    have hdd':deafBehind (D i).d es=dd':=by rw [hde]; exact hdd
    refine stepW hR ha hM hC hi hg hgo c (fun e he=>EvS.bk (hbk e he) hC.sync hC.lt (Nat.le_of_eq hsz.symm)) (by rw [hdd']; exact hs')
      (fun _=>let ⟨r,hr⟩:=hC.rel i hi X;⟨r,relBy_bk hr hdk _ _ hbk hdf⟩) (pay0 hb fun _=>by omega) hwg' (by rw [hdd']; exact hmode') (fun e => ?_) (by rw [hdd',hst,hfu,hxx]; exact hlt)
    refine (hacq e).app fun i' r hi' hr => ?_
    by_cases e':i'=i
    · subst e';exact relBy_bk hr hdk _ _ hbk hdf
    · exact hr.appOther (g:=S.K+i) (fun op ho=>by obtain ⟨e,_,rfl⟩:=mem_ofEvents ho;rfl) X
  -- an idle step: nothing turns, nothing is listed
  have idle : ∀ {g':Goroutine} {f':Nat},stepG S.P false g w = .go g' w #[]→WSit S (cbN cb w.heap.size (S.K+i)) i s f' dd xx g' w→f=f'+1→s≠8→s≠1 →
      ∃ m' ops r' x₁ f₁,runT S.P (crowd gs w sl) (S.K+i)=(.next m',ops)∧Inv S r' x₁ f₁ m' (t ++ ops)∧Sm S.P S.n r' x₁ f₁ (rk S j D tag) (fam j x0 D) (fu S j D q f0):=by
    intro g' f' hgo hs' hf h8 h1
    refine stepW hR ha hM hC hi hg hgo (.refl w) (by simp) (by rw [hde]; exact hs') (fun h6=>let ⟨r,hr⟩:=hC.rel i hi X;⟨r,by simpa [MemOp.ofEvents] using hr⟩) (pay0 Z fun h=>h) hwg (fun tag' ht _ => ?_) (fun e=>absurd e (nf h1)) (.inr ⟨hst.symm, .inr ⟨hxx.symm,by rw [hfu]; exact hf.symm⟩⟩)
    have:=hmode.same (i:=i) f' (deafBehind (D i).d #[]) xx
    rw [hst] at this
    exact this.retag ht
  have cc : ∀ o v,WgLive S.ty S.Wg (w.setCell ⟨S.Wg,o,none⟩ v)→Chg S cb (S.K+i) w (w.setCell ⟨S.Wg,o,none⟩ v):=fun o v=>Chg.wg
  have cC : ∀ o v,(w.setCell ⟨S.Wg,o,none⟩ v).heap[S.C]? = w.heap[S.C]? := fun o v=>setCell_block (hCW n0)
  have cS : ∀ o v,(w.setCell ⟨S.Wg,o,none⟩ v).heap.size=w.heap.size:=fun o v=>setCell_size
  have bk2 : ∀ e ∈ #[rd (stA S.Wg),wr (stA S.Wg)],Bks S.Wg e:=by intro e he;simp at he;rcases he with rfl | rfl <;> exact .inr (.inr ⟨_,_,rfl,rfl⟩)
  have df2 : ∀ jx e,(#[rd (stA S.Wg),wr (stA S.Wg)]:Array Event)[jx]? = some e→(MemAct.ofEvent e).touch? = none∨0<deafBehind 1 ((#[rd (stA S.Wg),wr (stA S.Wg)]:Array Event).extract 0 jx):=by
    intro jx e he
    match jx,he with
    | 0, _ => exact .inr (by simp [deafBehind])
    | 1, _ => exact .inr (by simp [deafBehind, rd])
    | jx + 2, he => simp at he
  have c0 : ∀ f d x,cnt (⟨1,f,d,x⟩:Wk)=0:=fun _ _ _=>rfl
  cases hs with
  | @work _ ĝ₀ ĝ _ h hgr hMk =>
    rcases h.run hgr hMk with hstop | ⟨_,g', ĝ',w',es,hgo,hG',hM',hrg,hmine,hev⟩
    · -- it lays down what it has found
      obtain ⟨_,g',hgo,f',hL⟩:=hstop ĝ hgr
      obtain ⟨c,hc1,hc2,hc3⟩:=hC.pay n0
      have hi2:2*i+1<c.size:=by have:=hC.jn;omega
      have hgo':=hgo w c hc1 hi2
      have hb : ∀ b,b≠S.C→(put2 S i w).heap[b]? = w.heap[b]? := fun b hb=>by
        unfold put2;rw [setCell_block hb,setCell_block hb]
      have hbC:(put2 S i w).heap[S.C]? = some (.cells ((c.setIfInBounds (2*i) (S.pv i).1).setIfInBounds (2*i+1) (S.pv i).2) S.eC (0,0)):=by
        unfold put2;rw [setCell_at,if_pos Z,setCell_at,if_pos Z,hc1]; rfl
      have hlive':WgLive S.ty S.Wg (put2 S i w):=⟨st,sm,hwg.of_block (hb _ fun e=>hCW n0 e.symm)⟩
      have hsz:(put2 S i w).heap.size=w.heap.size:=by unfold put2;rw [setCell_size,setCell_size]
      refine stepW hR ha hM hC hi hg hgo' (st':=st) (sm':=sm) ⟨rfl,rfl,rfl,Nat.le_of_eq hsz.symm,fun b _ _ _ h=>hb b h,fun _=>hlive'⟩ (fun e he => ?_) (by rw [hde]; exact .r0 (hL _ hlive')) (fun h=>absurd h X)
        (fun _=>⟨_,hbC,by simp [hc2],fun i' hi' h7 => ?_⟩) (hwg.of_block (hb _ fun e=>hCW n0 e.symm)) (fun tag' ht _=>(hmode.counted hi X (.inl Z) _ _ _).retag ht) (fun e=>absurd e (nf X)) (.inl ⟨by omega,by simp [cnt,hst]⟩)
      · have hcell : ∀ o,o / 2=i→EvS S cb w.heap.size j (S.K+i) (put2 S i w).heap.size ⟨.cell ⟨S.C,o,none⟩,true,false⟩:=fun o ho=>by
          have hlt:S.C<w.heap.size:=by have:=(hC.cells n0).2;have:=hC.lt;omega
          refine ⟨fun x hx => ?_,by simp,by rw [hsz]; exact hlt⟩
          have:(MemAct.ofEvent ⟨.cell ⟨S.C,o,none⟩,true,false⟩).touch? = some ⟨.cell ⟨S.C,o,none⟩,true, .plain⟩:=rfl
          rw [this] at hx;cases hx
          refine ⟨.inr (.inl ⟨?_,rfl⟩),fun e=>by cases e⟩
          simp only [clsL,cbN_old hlt,(hC.cells n0).1,ho,if_pos hi]
        simp only [ev2,List.mem_toArray,List.mem_cons,List.not_mem_nil,or_false] at he
        rcases he with rfl | rfl
        · exact hcell _ X
        · exact hcell _ X
      · by_cases e:i'=i
        · subst e
          refine ⟨?_,?_⟩
          · rw [Array.getElem?_setIfInBounds_ne X,Array.getElem?_setIfInBounds_self_of_lt X]
          · rw [Array.getElem?_setIfInBounds_self_of_lt (by simp;omega)]
        · rw [upd_ne D _ e] at h7
          obtain ⟨h1,h2⟩:=hc3 i' hi' h7
          refine ⟨?_,?_⟩
          · rw [Array.getElem?_setIfInBounds_ne X,Array.getElem?_setIfInBounds_ne X]; exact h1
          · rw [Array.getElem?_setIfInBounds_ne X,Array.getElem?_setIfInBounds_ne X]; exact h2
    · -- a step of its work
      have hWgF:S.Wg<w.heap.size∧Fb cb (S.K+i) S.Wg:=⟨hC.lt,by rw [hC.sync]; simp,fun ⟨s,e,_⟩=>by rw [hC.sync] at e;cases e⟩
      have hlt:S.C<w.heap.size:=by have:=(hC.cells n0).2;have:=hC.lt;omega
      have hCF:S.C<w.heap.size∧Fb cb (S.K+i) S.C:=⟨hlt,by rw [(hC.cells n0).1]; simp,fun ⟨s,e,_⟩=>by rw [(hC.cells n0).1] at e;cases e⟩
      have hWg':w'.heap[S.Wg]? = w.heap[S.Wg]? := hmine.block _ hC.lt (.inl hWgF)
      have hd0:deafBehind (D i).d es=0:=by
        rw [hde]
        exact deafBehind_still (fun e he=>⟨(evOk_low (hev e he)).2.1,(evOk_low (hev e he)).2.2.1⟩) 0
      refine stepW hR ha hM hC hi hg hgo (st':=st) (sm':=sm) ⟨hmine.os,hmine.tape,hmine.output,hmine.size,fun b hb hne _ _ => ?_,fun _=>⟨st,sm,hwg.of_block hWg'⟩⟩ (fun e he => .of (hev e he) X) (by rw [hd0]; exact .work hG' (Grow.refl _) hM') (fun h=>absurd h X)
        (pay0 (hmine.block _ hlt (.inl hCF)) X) (hwg.of_block hWg') (fun tag' ht _ => ?_) (fun e=>absurd e (nf X)) (.inr ⟨hst.symm, .inl (by rw [hxx]; exact hrg)⟩)
      · by_cases hv:Vb cb (S.K+i) b
        · exact hmine.block b hb (.inr ⟨hb,hv⟩)
        · exact hmine.block b hb (.inl ⟨hb,hne,hv⟩)
      · have:=hmode.same (i:=i) 0 (deafBehind (D i).d es) ⟨false,AtStore S i,g', ĝ'⟩
        rw [hst] at this
        exact this.retag ht
  | r0 h =>
    rcases h.run hlive with ⟨_,g',hgo,f',hL⟩ | ⟨f',g',rfl,_,hgo,hL⟩
    · refine stepW hR ha hM hC hi hg (hgo w) (.refl w) (fun e he => ?_) (by rw [hde]; exact .k1 (hL w hlive)) (fun _=>⟨t.size,RelBy.new hdk _ _⟩) (pay0 Z fun _=>by omega) hwg (fun tag' ht _=>(hmode.counted hi X (.inr (.inl Z)) _ _ _).retag ht) (fun e=>absurd e (nf X)) (.inl ⟨by omega,by simp [cnt,hst]⟩)
      simp only [List.mem_toArray,List.mem_cons,List.not_mem_nil,or_false] at he
      subst he
      refine ⟨fun x hx=>(by cases hx),(by simp [Go.ConcR.mk]),?_⟩
      exact hC.lt
    · exact idle hgo (.r0 hL) Z X X
  | k1 h =>
    rcases h.run hlive with ⟨_,g',hgo,f',hL⟩ | ⟨f',g',rfl,_,hgo,hL⟩
    · exact book (hgo w) (.refl w) Z Z hwg (by intro e he;simp at he;subst he;exact .inl Z) (by intro jx e he;exact .inl (by have:=Array.mem_of_getElem? he;simp at this;subst this;rfl)) (.d1 (hL w hlive)) Z X X
        (fun tag' ht _=>(hmode.counted hi X (.inr (.inr Z)) _ _ _).retag ht) (.inl ⟨by omega,by simp [cnt,hst]⟩)
    · exact idle hgo (.k1 hL) Z X X
  | d1 h =>
    rcases h.run hlive with ⟨_,hall⟩ | ⟨f',g',rfl,_,hgo,hL⟩
    · have hc1:cnt (D i)=1:=by simp [cnt,hst]
      have hV1:1≤Vc j D:=by have:=le_sumTo (f:=fun x=>cnt (D x)) hi;simp only [Vc]; omega
      cases hmode with
      | opn h1 h2 h3 =>
        obtain ⟨v,hv⟩ : ∃ v,Vc j D+pend tag=v+1:=⟨Vc j D+pend tag - 1,by omega⟩
        rw [hv] at hwg
        have hw1:WgAt S.ty S.Wg w (((v:Nat)+1)*KK+((0:Nat):Int)) 0:=by simpa using hwg
        obtain ⟨g',hgo,_,hq⟩:=hall v 0 X X
        obtain ⟨qq,hq⟩:=hq X
        have hv':Vc j (ConcN.upd D i ⟨1,qq,1,anc0⟩)+pend tag=v:=by have:=Vc_upd D (⟨1,qq,1,anc0⟩:Wk) hi;have:=c0 qq 1 anc0;omega
        have e:((v:Nat):Int)*KK+((0:Nat):Int)=((Vc j (ConcN.upd D i ⟨1,qq,1,anc0⟩)+pend tag:Nat):Int)*KK:=by rw [hv']; simp
        refine book (hgo w hw1) (cc _ _ ⟨_,_,hwg.setSt _⟩) (cC _ _) (cS _ _) (hwg.setSt _) bk2 df2 (.quit hq) Z X X (fun tag' ht _ => ?_) (.inl ⟨by omega,by simp [cnt]⟩)
        rw [e]
        exact Mode.retag (.opn h1 (open_quit hi h2) (fun vs ev=>by have:=h3 vs ev;omega)) ht
      | reg h1 h2 h3 =>
        obtain ⟨v,hv⟩ : ∃ v,Vc j D=v+1:=⟨Vc j D - 1,by omega⟩
        rw [hv] at hwg
        have hw1:WgAt S.ty S.Wg w (((v:Nat)+1)*KK+((1:Nat):Int)) 0:=by simpa using hwg
        obtain ⟨g',hgo,hl,hq⟩:=hall v 1 X X
        by_cases hv0:v=0
        · subst hv0
          obtain ⟨f₂,hL⟩:=hl ⟨rfl,rfl⟩
          have hoth : ∀ a,a<j→a≠i→(D a).s=1:=fun a ha e=>by
            have c0:=others_uncounted hi hv hc1 a ha e
            have:=h2 a ha
            simp only [cnt] at c0
            split at c0 <;> omega
          refine book (hgo w hw1) (cc _ _ ⟨_,_,hwg.setSt _⟩) (cC _ _) (cS _ _) (hwg.setSt _) bk2 df2 (.d2 (hL _ ⟨_,_,hwg.setSt _⟩)) Z X X (fun tag' ht _ => ?_) (.inl ⟨by omega,by simp [cnt]⟩)
          have:=Mode.last (j:=j) (D:=ConcN.upd D i ⟨4,f₂,1,anc0⟩) (tag:=tag) i h1 hi (by rw [upd_same]; simp) (fun a ha e=>by rw [upd_ne D _ e]; exact hoth a ha e)
          rw [upd_same] at this
          exact Mode.retag (by simpa using this) ht
        · obtain ⟨qq,hq⟩:=hq X
          have hv':Vc j (ConcN.upd D i ⟨1,qq,1,anc0⟩)=v:=by have:=Vc_upd D (⟨1,qq,1,anc0⟩:Wk) hi;have:=c0 qq 1 anc0;omega
          have e:((v:Nat):Int)*KK+((1:Nat):Int)=((Vc j (ConcN.upd D i ⟨1,qq,1,anc0⟩):Nat):Int)*KK+1:=by rw [hv']; simp
          refine book (hgo w hw1) (cc _ _ ⟨_,_,hwg.setSt _⟩) (cC _ _) (cS _ _) (hwg.setSt _) bk2 df2 (.quit hq) Z X X (fun tag' ht _ => ?_) (.inl ⟨by omega,by simp [cnt]⟩)
          rw [e]
          exact Mode.retag (.reg h1 (open_quit hi h2) X) ht
      | last l _ h2 h3 h4 =>
        by_cases e:i=l
        · subst e;omega
        · have:=h4 i hi e;omega
      | sema _ h2 => have := h2 i hi; omega
      | fin _ h2 => have := h2 i hi; omega
    · exact idle hgo (.d1 hL) Z X X
  | d2 h =>
    obtain ⟨h1,h2,rfl,rfl⟩:=hmode.isLast hi X
    rw [hst] at hwg
    replace hwg:WgAt S.ty S.Wg w 1 0:=by simpa using hwg
    rcases h.run hlive with ⟨_,g',hgo,f',hL⟩ | ⟨f',g',rfl,_,hgo,hL⟩
    · refine book (hgo w hwg) (.refl w) Z Z hwg (by intro e he;simp at he;subst he;exact .inr (.inr ⟨_,_,rfl,rfl⟩)) (by intro jx e he;match jx,he with | 0,_=>exact .inr (by simp [deafBehind]) | jx+1,he=>simp at he) (.d3 (hL w hlive)) Z X X (fun tag' ht _ => ?_) (.inl ⟨by omega,by simp [cnt]⟩)
      have:=Mode.last (j:=j) (D:=ConcN.upd D i ⟨3,f',1,anc0⟩) (tag:=tag) i h1 hi (by rw [upd_same]; simp) (fun a ha e=>by rw [upd_ne D _ e]; exact h2 a ha e)
      rw [upd_same] at this
      exact Mode.retag (by simpa using this) ht
    · exact idle hgo (.d2 hL) Z X X
  | d3 h =>
    obtain ⟨h1,h2,rfl,rfl⟩:=hmode.isLast hi X
    rw [hst] at hwg
    replace hwg:WgAt S.ty S.Wg w 1 0:=by simpa using hwg
    rcases h.run hlive with ⟨_,g',hgo,f',hL⟩ | ⟨f',g',rfl,_,hgo,hL⟩
    · refine book (hgo w hwg) (cc _ _ ⟨_,_,hwg.setSt _⟩) (cC _ _) (cS _ _) (hwg.setSt _) (by intro e he;simp at he;subst he;exact .inr (.inr ⟨_,_,rfl,rfl⟩)) (by intro jx e he;match jx,he with | 0,_=>exact .inr (by simp [deafBehind]) | jx+1,he=>simp at he) (.d4 (hL _ ⟨_,_,hwg.setSt _⟩)) Z X X (fun tag' ht _ => ?_) (.inl ⟨by omega,by simp [cnt]⟩)
      have:=Mode.last (j:=j) (D:=ConcN.upd D i ⟨2,f',1,anc0⟩) (tag:=tag) i h1 hi (by rw [upd_same]; simp) (fun a ha e=>by rw [upd_ne D _ e]; exact h2 a ha e)
      rw [upd_same] at this
      exact Mode.retag (by simpa using this) ht
    · exact idle hgo (.d3 hL) Z X X
  | d4 h =>
    obtain ⟨h1,h2,rfl,rfl⟩:=hmode.isLast hi X
    rw [hst] at hwg
    replace hwg:WgAt S.ty S.Wg w 0 0:=by simpa using hwg
    rcases h.run hlive with ⟨_,hmw,g',hgo,qq,hq⟩ | ⟨f',g',rfl,_,hgo,hL⟩
    · refine book (hgo w hwg) (cc _ _ ⟨_,_,hwg.setSm _⟩) (cC _ _) (cS _ _) (hwg.setSm _) (fun e he => ?_) (fun jx e he => ?_) (.quit hq) Z X X (fun tag' ht hwk => ?_) (.inl ⟨by omega,by simp [cnt]⟩)
      · simp [semEvents] at he
        rcases he with rfl | rfl | rfl | rfl
        · exact .inl Z
        · exact .inr (.inr ⟨_,_,rfl,rfl⟩)
        · exact .inr (.inr ⟨_,_,rfl,rfl⟩)
        · exact .inr (.inl Z)
      · match jx,he with
        | 0, he => simp [semEvents] at he; subst he; exact .inl Z
        | 1, he => exact .inr (by simp [semEvents, deafBehind])
        | 2, he => exact .inr (by simp [semEvents, deafBehind])
        | 3, he => simp [semEvents] at he; subst he; exact .inl Z
        | jx + 4, he => simp [semEvents] at he
      · have hall:AllQuit j (ConcN.upd D i ⟨1,qq,1,anc0⟩):=fun a ha=>by
          by_cases e:a=i
          · subst e;rw [upd_same]
          · rw [upd_ne D _ e]; exact h2 a ha e
        have hst':g'.status = .running:=by
          rcases hq.status with h | h
          · exact h
          · cases qq with
            | zero => exact absurd hq.2 (by simp)
            | succ k => rcases hq with ⟨_, h⟩ | ⟨h, _⟩
                        · exact absurd h (by simp)
                        · exact h
        have hnb:=hwk hmw hst'
        refine .sema ?_ hall
        rcases ht with rfl | ⟨_,rfl⟩
        · cases tag' <;> first | exact h1.elim | exact .inl Z | exact .inr Z | exact absurd Z hnb
        · exact .inr Z
    · exact idle hgo (.d4 hL) Z X X
  | quit h =>
    cases f with
    | zero => rw [h.1] at hrun; cases hrun
    | succ k =>
      rcases h with ⟨h,_⟩ | ⟨_,g',es,hm,hgo,hq⟩
      · rw [h] at hrun;cases hrun
      have tch : ∀ e∈es,(MemAct.ofEvent e).touch? = none:=fun e he=>touch_mute (hm e he)
      have rel' : ∀ {r:Nat},RelBy (stA S.Wg) t (S.K+i) r→RelBy (stA S.Wg) (t ++ MemOp.ofEvents (S.K+i) g.frame.fn g.frame.place es) (S.K+i) r:=fun hr=>hr.appOwn _ _ es fun jx x hx => .inl (tch x (Array.mem_of_getElem? hx))
      refine stepW hR ha hM hC hi hg (hgo w) (.refl w) (fun e he=>⟨fun x hx=>(by rw [tch e he] at hx;cases hx),fun e1 => ?_,low_mute (hm e he) _⟩) (by rw [hde]; exact .quit hq)
        (fun _=>let ⟨r,hr⟩:=hC.rel i hi X;⟨r,rel' hr⟩) (pay0 Z fun _=>by omega) hwg (fun tag' ht _ => ?_) (fun e=>(hacq e).app fun i' r hi' hr => ?_) (.inr ⟨hst.symm, .inr ⟨hxx.symm,by rw [hfu]⟩⟩)
      · have:=hm e he
        obtain ⟨l,wt,sy⟩:=e
        simp only at e1
        subst e1
        simp [Event.mute] at this
      · have:=hmode.same (i:=i) k (deafBehind (D i).d es) anc0
        rw [hst] at this
        exact this.retag ht
      · by_cases e':i'=i
        · subst e';exact rel' hr
        · exact hr.appOther (g:=S.K+i) (fun op ho=>by obtain ⟨e,_,rfl⟩:=mem_ofEvents ho;rfl) X
end
end Tor.Co
end
section
namespace Tor.Co
open Go Go.Conc Go.RowKit
open Go.ConcN (WgLive RelBy sumTo upd sumTo_upd upd_ne upd_same RelBy.appOther RelBy.appOwn RelBy.new sumTo_congr le_sumTo sumTo_le)
open Go.ConcR (KK wgBlock WgAt stA smA rd wr mk DC0)
theorem MskK.make {cb:Nat→BCls} {k:Nat} {w:World} (hv : ∀ b,b<w.heap.size→Vb cb k b → ∃ c e f,w.heap[b]? = some (.cells c e f)) (ho : ∀ b,b<w.heap.size→cb b ≠ .own k) :
  ∃ g,MskK cb k g w ∧ ∀ b c e f,b<w.heap.size→Vb cb k b→w.heap[b]? = some (.cells c e f)→g.heap[b]? = some (.cells c e (0,c.size)):=by
 classical
 let fr:Obj→Obj:=fun o=>match o with | .cells c e _ => .cells c e (0,c.size) | o=>o
 let g:World := { w with heap:=w.heap.mapIdx fun b o=>if Vb cb k b then fr o else dum }
 have hg : ∀ b,g.heap[b]? = (w.heap[b]?).map fun o=>if Vb cb k b then fr o else dum:=fun b=>by
  show (w.heap.mapIdx _)[b]? = _
  rw [Array.getElem?_mapIdx]
 have hV : ∀ b c e f,b<w.heap.size→Vb cb k b→w.heap[b]? = some (.cells c e f)→g.heap[b]? = some (.cells c e (0,c.size)):=fun b c e f hb h1 h2=>by
  rw [hg,h2]; simp only [Option.map_some,if_pos h1]; rfl
 refine ⟨g,⟨by show (w.heap.mapIdx _).size=_;simp,rfl,rfl,rfl,rfl,fun b hb hf => ?_,fun b hb h => ?_,fun b hb h1 h2 => ?_⟩,hV⟩
 ·rw [hg,Array.getElem?_eq_getElem hb]; simp only [Option.map_some,if_neg hf.2.2]
 ·obtain ⟨c,e,f,h1⟩:=hv b hb h.2
  exact ⟨c,e,f,h1,hV b c e f hb h.2 h1⟩
 ·exact absurd ⟨hb,ho b hb,fun x=>h2 ⟨hb,x⟩⟩ h1
section
variable {S:Ses} {gs:Array Goroutine} {w w':World} {sl:Option (Nat × Nat)} {t:Trace} {cb:Nat→BCls} {j:Nat} {D:Nat→Wk} {q:Nat→Nat} {tag tag':Tag} {f0 f':Nat} {x0 x':Anc} {a a':Goroutine} {st sm st' sm':Int} {es:Array Event}
abbrev Goal (S:Ses) (gs:Array Goroutine) (w:World) (sl:Option (Nat × Nat)) (t:Trace) (r:Nat) (x:Nat→Anc) (f:Nat):Prop :=
 ∃ m' ops r' x₁ f₁,runT S.P (crowd gs w sl) 0=(.next m',ops)∧Inv S r' x₁ f₁ m' (t ++ ops)∧Sm S.P S.n r' x₁ f₁ r x f
theorem fam0 (j:Nat) (x0 x':Anc) (D:Nat→Wk) (h:Rg S.P x' x0):Fam S.P (S.n+1) (fam j x' D) (fam j x0 D) :=
 ⟨0,by omega,h,fun b hb=>by unfold fam;rw [if_neg hb,if_neg hb]⟩
theorem sm0 (h:phi S.n (Vc j D) tag'<phi S.n (Vc j D) tag∨(phi S.n (Vc j D) tag'=phi S.n (Vc j D) tag∧(Rg S.P x' x0∨(x'=x0∧f'<f0)))) :
  Sm S.P S.n (rk S j D tag') (fam j x' D) (fu S j D q f') (rk S j D tag) (fam j x0 D) (fu S j D q f0):=by
 unfold Sm rk fu
 rcases h with h | ⟨h,h⟩
 ·exact .inl X
 ·refine .inr ⟨by omega,?_⟩
  rcases h with h | ⟨h,h2⟩
  ·exact .inl (fam0 j x0 x' D h)
  ·exact .inr ⟨by rw [h],by omega⟩
theorem step0 (ha:gs[0]? = some a) (hC:Com S gs w t cb j D q) (hgo:stepG S.P true a w = .go a' w' es)
  (c:Chg S cb 0 w w') (hev : ∀ e∈es,EvS S cb w.heap.size j 0 w'.heap.size e) (hCb:0<S.n→w'.heap[S.C]? = w.heap[S.C]?)
  (hM':MSit S (cbN cb w.heap.size 0) tag' j f' (deafBehind (Deaf t 0) es) x' a' w') (hwg':WgAt S.ty S.Wg w' st' sm') (hmode':Mode j D tag' st' sm')
  (hacq':tag' = .fin→AcqK S j (t ++ MemOp.ofEvents 0 a.frame.fn a.frame.place es))
  (hlt:phi S.n (Vc j D) tag'<phi S.n (Vc j D) tag∨(phi S.n (Vc j D) tag'=phi S.n (Vc j D) tag∧(Rg S.P x' x0∨(x'=x0∧f'<f0)))):Goal S gs w sl t (rk S j D tag) (fam j x0 D) (fu S j D q f0):=by
 have hrun:=runT_crowd_go (P:=S.P) (sl:=sl) (i:=0) ha (by simpa using hgo)
 have hsz:=hC.size
 have hk:=hC.k1
 exact ⟨_,_,_,_,_,hrun,⟨_,w',sl,_,j,D,q,tag',f',x',a',st',sm',rfl,by rw [Array.getElem?_setIfInBounds_self_of_lt (by simp;omega)],by rw [Deaf_own]; exact hM',hC.step0 c hev hCb,hwg',hmode',hacq',rfl,rfl,rfl⟩,sm0 hlt⟩
theorem Goal.eps {r:Nat} {x:Nat→Anc} {f:Nat} {x1:Nat→Anc} {f1:Nat} {r1:Nat} (h:Goal S gs w sl t r1 x1 f1) (hlt:r1<r):Goal S gs w sl t r x f :=
 let ⟨m',ops,r',x₁,f₁,h1,h2,h3⟩:=h;⟨m',ops,r',x₁,f₁,h1,h2, .inl (by unfold Sm at h3;omega)⟩
theorem Mode.open_to (hm:Mode j D tag st sm) (ho:isOpen tag) (ho':isOpen tag') (hp:pend tag'=pend tag) (h2 : ∀ vs,tag' ≠ .w2 vs):Mode j D tag' st sm:=by
 cases hm with
 | opn _ h h3 => rw [← hp]; exact .opn ho' h fun vs e => absurd e (h2 vs)
 | reg h _ _ => cases tag <;> first | exact h.elim | exact ho.elim
 | last l h _ _ _ => cases tag <;> first | exact h.elim | exact ho.elim
 | sema h _ => rcases h with rfl | rfl <;> exact ho.elim
 | fin h _ => cases tag <;> first | exact h.elim | exact ho.elim
theorem Mode.openv (hm:Mode j D tag st sm) (ho:isOpen tag):st=((Vc j D+pend tag:Nat):Int)*KK∧sm=0∧OpenSt j D ∧ ∀ vs,tag = .w2 vs→Vc j D≤vs∧1≤vs:=by
 cases hm with
 | opn _ h h3 => exact ⟨rfl, rfl, h, h3⟩
 | reg h _ _ => cases tag <;> first | exact h.elim | exact ho.elim
 | last l h _ _ _ => cases tag <;> first | exact h.elim | exact ho.elim
 | sema h _ => rcases h with rfl | rfl <;> exact ho.elim
 | fin h _ => cases tag <;> first | exact h.elim | exact ho.elim
theorem Mode.finv (hm:Mode j D tag st sm) (ho:isFin tag):st=0∧sm=0∧AllQuit j D:=by
 cases hm with
 | opn h _ _ => cases tag <;> first | exact h.elim | exact ho.elim
 | reg h _ _ => cases tag <;> first | exact h.elim | exact ho.elim
 | last l h _ _ _ => cases tag <;> first | exact h.elim | exact ho.elim
 | sema h _ => rcases h with rfl | rfl <;> exact ho.elim
 | fin _ h => exact ⟨rfl, rfl, h⟩
def ChildOk (S:Ses):Prop := ∀ i,i<S.n → ∀ b9 b10 g,g.heap[b9]? = some (.cells #[(S.bx i).1] S.e9 (0,1))→g.heap[b10]? = some (.cells #[(S.bx i).2] S.e10 (0,1))→Sees S g → @GoI noAsk S.P false (AtStore S i) (S.child b9 b10) g
def cbGo (cb:Nat→BCls) (b9 b10 s b:Nat):BCls:=if b=b9∨b=b10 then .shared s else match cb b with | .own 0 => .dead | c=>c
theorem cbGo_iff {b9 b10 s k b:Nat} (hk:0<k) (hks:k<s) (h9:cb b9 = .own 0) (h10:cb b10 = .own 0):(Vb (cbGo cb b9 b10 s) k b↔Vb cb k b)∧(Fb (cbGo cb b9 b10 s) k b↔Fb cb k b):=by
 have hv:Vb (cbGo cb b9 b10 s) k b↔Vb cb k b:=by
  unfold Vb cbGo
  by_cases hb:b=b9∨b=b10
  ·rw [if_pos hb]
   have h0:cb b = .own 0:=by rcases hb with rfl | rfl <;> assumption
   rw [h0]
   exact ⟨fun ⟨s',e,h⟩=>by cases e;omega,fun ⟨s',e,_⟩=>by cases e⟩
  ·rw [if_neg hb]
   cases hc:cb b with
   | own g => cases g <;> simp
   | _ => simp
 refine ⟨hv,?_⟩
 unfold Fb
 rw [hv]
 refine and_congr ?_ Iff.rfl
 unfold cbGo
 by_cases hb:b=b9∨b=b10
 ·rw [if_pos hb]
  have h0:cb b = .own 0:=by rcases hb with rfl | rfl <;> assumption
  rw [h0]; simp;omega
 ·rw [if_neg hb]
  cases hc:cb b with
  | own g => cases g <;> simp; omega
  | _ => simp
theorem cbGo_ne {b9 b10 s b:Nat} : cbGo cb b9 b10 s b ≠ .own 0:=by
 unfold cbGo
 split
 ·simp
 ·cases hc:cb b with
  | own g => cases g <;> simp
  | _ => simp
theorem WSit.go {i b9 b10 s s' f d:Nat} {x:Anc} {g:Goroutine} (h:WSit S cb i s' f d x g w) (hk:0<S.K+i) (hks:S.K+i<s) (h9:cb b9 = .own 0) (h10:cb b10 = .own 0):WSit S (cbGo cb b9 b10 s) i s' f d x g w:=by
 cases h with
 | work h hg hM => exact .work h hg (Msk.iff hM (fun b hb => by rw [(cbGo_iff hk hks h9 h10).2]) fun b hb => by rw [(cbGo_iff hk hks h9 h10).1])
 | r0 h => exact .r0 h
 | k1 h => exact .k1 h
 | d1 h => exact .d1 h
 | d2 h => exact .d2 h
 | d3 h => exact .d3 h
 | d4 h => exact .d4 h
 | quit h => exact .quit h
theorem Deaf_go {k:Nat} {x y:MemOp} (hx:x.act = .go (S.K+j)) (hy:y.act = .start):Deaf (t ++ #[x,y]) k=Deaf t k:=by
 have:=Deaf_append t k [x,y]
 rw [show ([x,y]:List MemOp).toArray = #[x,y] from rfl] at this
 rw [this]
 simp [deafStep,hx,hy]
theorem stepGo (hch:ChildOk S) (ha:gs[0]? = some a) (hC:Com S gs w t cb j D q) (hwg:WgAt S.ty S.Wg w st sm) {r b9 b10:Nat} (hr:r<S.n) (hj:j=S.n - (r+1)) (hd:Deaf t 0=0) (hb:Bx S cb w j b9 b10) (hmode:Mode j D (.go r) st sm)
  (hg:AtGo S b9 b10 (Scr S r) a):Goal S gs w sl t (rk S j D (.go r)) (fam j x0 D) (fu S j D q f0):=by
 obtain ⟨_,a',hgo,hnext⟩:=hg
 have hk:=hC.k1
 have hsz:=hC.size
 have hlive:WgLive S.ty S.Wg w:=⟨st,sm,hwg⟩
 have hrun:=runT_crowd_spawn (P:=S.P) (sl:=sl) (i:=0) ha (by simpa using hgo w)
 obtain ⟨cb',hcb'⟩ : ∃ cb',cb'=cbGo cb b9 b10 (S.K+j):=⟨_,rfl⟩
 have hold9:S.Wg<b9:=Nat.lt_of_not_le fun h=>hC.cb0 b9 h 0 ((hC.base b9 h).symm.trans hb.c9)
 have hold10:S.Wg<b10:=Nat.lt_of_not_le fun h=>hC.cb0 b10 h 0 ((hC.base b10 h).symm.trans hb.c10)
 have hbase : ∀ b,b≤S.Wg→cb' b=cb b:=fun b hb'=>by
  rw [hcb']; unfold cbGo;rw [if_neg X]
  cases hc:cb b with
  | own g => exact absurd ((hC.base b hb').symm.trans hc) (hC.cb0 b hb' g)
  | _ => rfl
 have hshc : ∀ b s,b<w.heap.size→cb' b = .shared s → ∃ c e f,w.heap[b]? = some (.cells c e f):=fun b s hlt hs=>by
  rw [hcb'] at hs;unfold cbGo at hs
  split at hs
  ·rename_i h;rcases h with rfl | rfl
   ·exact ⟨_,_,_,hb.h9⟩
   ·exact ⟨_,_,_,hb.h10⟩
  ·cases hc:cb b with
   | own g => rw [hc] at hs; cases g <;> cases hs
   | shared s' => exact hC.shc b s' hlt hc
   | _ => rw [hc] at hs; cases hs
 obtain ⟨ĝ,hMk,hsee⟩:=MskK.make (cb:=cb') (k:=S.K+j) (w:=w) (fun b hlt ⟨s,e,_⟩=>hshc b s hlt e) (fun b hlt e=>by
  have hc:cb b = .own (S.K+j):=by
   rw [hcb'] at e;unfold cbGo at e
   split at e
   ·cases e
   ·cases hc:cb b with
    | own g => rw [hc] at e; cases g <;> first | (cases e; done) | exact e
    | _ => rw [hc] at e; cases e
  exact hC.nown b _ hlt (Nat.le_refl _) hc)
 have hV : ∀ b,b=b9∨b=b10→Vb cb' (S.K+j) b:=fun b h=>⟨S.K+j,by rw [hcb']; unfold cbGo;rw [if_pos h], .inr (Nat.le_refl _)⟩
 have hgi : @GoI noAsk S.P false (AtStore S j) (S.child b9 b10) ĝ := hch j X b9 b10 ĝ (hsee b9 _ _ _ hb.l9 (hV _ (.inl Z)) hb.h9) (hsee b10 _ _ _ hb.l10 (hV _ (.inr Z)) hb.h10) fun b c e f hlt hne h1 h2=>by
  have hl:=hC.lt
  exact hsee b c e f X ⟨S.K,by rw [hbase b X,hC.base b X]; exact h1, .inr X⟩ ((hC.stand b hlt hne).trans h2)
 have hxd:Deaf t (S.K+j)=0:=hC.above _ (Nat.le_refl _)
 obtain ⟨x,hx⟩ : ∃ x:MemOp,x = { g:=0,fn:=a.frame.fn,pos:=a.frame.place,act := .go gs.size } := ⟨_,rfl⟩
 obtain ⟨y,hy⟩ : ∃ y:MemOp,y = { g:=gs.size,fn:=(S.child b9 b10).frame.fn,pos:=a.frame.place,act := .start } := ⟨_,rfl⟩
 have hx2:x.g=0∧x.act = .go (S.K+j):=by rw [hx]; exact ⟨rfl,by rw [← hsz]⟩
 have hy2:y.g=S.K+j∧y.act = .start:=by rw [hy]; exact ⟨hsz,rfl⟩
 have hops:(((MemOp.ofEvents 0 a.frame.fn a.frame.place #[]).push { g:=0,fn:=a.frame.fn,pos:=a.frame.place,act := .go gs.size }).push { g:=gs.size,fn:=(S.child b9 b10).frame.fn,pos:=a.frame.place,act := .start }) = #[x,y]:=by rw [hx,hy]; rfl
 rw [hops] at hrun
 have hdf : ∀ k,Deaf (t ++ #[x,y]) k=Deaf t k:=fun k=>Deaf_go (S:=S) (j:=j) hx2.2 hy2.2
 have hnt : ∀ op ∈ #[x,y],op.act.touch? = none:=fun op hop=>by
  simp only [List.mem_toArray,List.mem_cons,List.not_mem_nil,or_false] at hop
  rcases hop with rfl | rfl
  ·rw [hx2.2]; rfl
  ·rw [hy2.2]; rfl
 have hti:TI (clsL S cb' (j+1)) (S.K+(j+1)) (t ++ #[x,y]):=by
  have h1:TI (clsL S cb' j) (S.K+j) t:=hC.ti.re fun l=>by
   cases l with
   | cell a => 
    simp only [clsL,hcb',cbGo]
    by_cases h:a.block=b9∨a.block=b10
    ·rw [if_pos h]
     have h0:cb a.block = .own 0:=by rcases h with e | e <;> rw [e] <;> first | exact hb.c9 | exact hb.c10
     exact .inr (.inr (.inl ⟨S.K+j,Nat.le_refl _,by rw [h0],rfl⟩))
    ·rw [if_neg h]
     cases hc:cb a.block with
     | own g => cases g with
      | zero => exact .inr (.inr (.inr Z))
      | succ g => exact .inl Z
     | _ => exact .inl Z
   | obj b =>
    simp only [clsL,hcb',cbGo]
    by_cases h:b=b9∨b=b10
    ·rw [if_pos h]
     have h0:cb b = .own 0:=by rcases h with e | e <;> rw [e] <;> first | exact hb.c9 | exact hb.c10
     exact .inr (.inr (.inl ⟨S.K+j,Nat.le_refl _,by rw [h0],rfl⟩))
    ·rw [if_neg h]
     cases hc:cb b with
     | own g => cases g with
      | zero => exact .inr (.inr (.inr Z))
      | succ g => exact .inl Z
     | _ => exact .inl Z
   | _ => exact .inl Z
  refine h1.fork X hx2 hy2 hd hxd (fun l s hs => ?_) fun l => ?_
  ·have key : ∀ b,cb' b = .shared s→s≤S.K+j:=fun b e=>by
    rw [hcb'] at e;unfold cbGo at e
    split at e
    ·cases e;exact Nat.le_refl _
    ·cases hc:cb b with
     | own g => rw [hc] at e; cases g <;> cases e
     | shared s' => rw [hc] at e; cases e; exact hC.shr b s hc
     | _ => rw [hc] at e; cases e
   cases l with
   | cell a =>
    cases hc:cb' a.block with
    | shared s' => simp only [clsL, hc] at hs; cases hs; exact key _ hc
    | _ => simp only [clsL, hc] at hs; cases hs
   | obj b =>
    cases hc:cb' b with
    | shared s' => simp only [clsL, hc] at hs; cases hs; exact key _ hc
    | _ => simp only [clsL, hc] at hs; cases hs
   | _ => cases hs
  ·cases l with
   | cell a =>
    simp only [clsL]
    cases hc:cb' a.block with
    | cells =>
     rcases Nat.lt_trichotomy (a.off / 2) j with h | h | h
     ·left;dsimp only;rw [if_pos h,if_pos X]
     ·right;dsimp only;rw [if_neg X,if_pos X,h]; exact ⟨rfl,rfl⟩
     ·left;dsimp only;rw [if_neg X,if_neg X]
    | _ => exact .inl Z
   | _ => exact .inl Z
 have hcom:Com S ((gs.setIfInBounds 0 a').push (S.child b9 b10)) w (t ++ #[x,y]) cb' (j+1) (ConcN.upd D j ⟨8,0,0,⟨false,AtStore S j,S.child b9 b10, ĝ⟩⟩) q:=by
  have get : ∀ i,i≠0→i<gs.size→((gs.setIfInBounds 0 a').push (S.child b9 b10))[i]? = gs[i]? := fun i h0 hi=>by
   rw [Array.getElem?_push,if_neg (by simp;omega),Array.getElem?_setIfInBounds_ne X]
  refine ⟨by simp;omega,hk,by omega,fun i g h0 hi hg => ?_,fun i hi => ?_,fun i hi => ?_,hti,?_,?_,fun i hi hs => ?_,?_,?_,hC.env,?_,hC.lt,fun b hb' => ?_,hC.cb0,fun b s hs => ?_,hC.stand,fun hn => ?_,hC.c0,hshc,fun b k hlt hk => ?_,fun hn => ?_⟩
  ·rw [get i X X] at hg
   rw [hdf]; exact hC.old i g h0 hi hg
  ·rcases Nat.lt_or_ge i j with hij | hij
   ·obtain ⟨g,h1,h2,h3⟩:=hC.wk i hij
    refine ⟨g,by rw [get _ X X]; exact h1,?_,by rw [hdf,upd_ne D _ X]; exact h3⟩
    rw [upd_ne D _ X,hcb']
    exact h2.go X X hb.c9 hb.c10
   ·obtain rfl:i=j:=by omega
    refine ⟨S.child b9 b10,?_,by rw [upd_same]; exact .work hgi (Grow.refl _) hMk,by rw [hdf,upd_same]; exact hxd⟩
    rw [Array.getElem?_push,if_pos (by simp;omega)]
  ·rw [hdf]; exact hC.above i X
  ·exact hC.seg.app fun op hop z hz=>by rw [hnt op hop] at hz;cases hz
  ·refine hC.nrel.app fun op hop e => ?_
   simp only [List.mem_toArray,List.mem_cons,List.not_mem_nil,or_false] at hop
   rcases hop with rfl | rfl
   ·rw [hx2.2] at e;cases e
   ·rw [hy2.2] at e;cases e
  ·have hij:i≠j:=fun e=>by rw [e,upd_same] at hs;simp at hs
   rw [upd_ne D _ hij] at hs
   obtain ⟨r,hr⟩:=hC.rel i X hs
   refine ⟨r,hr.app fun p hp hgp hc => ?_⟩
   obtain ⟨z,hz,_⟩:=hc
   obtain ⟨op,ho,hoz⟩:=touch_of hz
   rcases getElem?_append_cases ho with ⟨hl,_⟩ | ⟨_,hou⟩
   ·omega
   ·rw [hnt op hou] at hoz;cases hoz
  ·refine seen_app hC.seen fun op hop => ?_
   simp only [List.mem_toArray,List.mem_cons,List.not_mem_nil,or_false] at hop
   rcases hop with rfl | rfl
   ·rw [hx2.2]; trivial
   ·rw [hy2.2]; trivial
  ·obtain ⟨u,hu⟩:=hC.pre
   exact ⟨u ++ #[x,y],by rw [hu,Array.append_assoc]⟩
  ·rw [hbase _ (Nat.le_refl _)]; exact hC.sync
  ·rw [hbase b hb']; exact hC.base b hb'
  ·rw [hcb'] at hs;unfold cbGo at hs
   split at hs
   ·cases hs;omega
   ·cases hc:cb b with
    | own g => rw [hc] at hs; cases g <;> cases hs
    | shared s' => rw [hc] at hs; cases hs; have := hC.shr b s hc; omega
    | _ => rw [hc] at hs; cases hs
  ·obtain ⟨h1,h2⟩:=hC.cells hn
   exact ⟨by rw [hbase _ X]; exact h1,h2⟩
  ·intro e
   rw [hcb'] at e;unfold cbGo at e
   split at e
   ·cases e
   ·cases hc:cb b with
    | own g =>
     rw [hc] at e
     cases g with
     | zero => cases e
     | succ g => cases e; exact hC.nown b _ hlt X hc
    | _ => rw [hc] at e; cases e
  ·obtain ⟨c,h1,h2,h3⟩:=hC.pay hn
   refine ⟨c,h1,h2,fun i hi h7 => ?_⟩
   have hij:i≠j:=fun e=>by rw [e,upd_same] at h7;simp at h7
   rw [upd_ne D _ hij] at h7
   exact h3 i X h7
 have hV':Vc (j+1) (ConcN.upd D j ⟨8,0,0,⟨false,AtStore S j,S.child b9 b10, ĝ⟩⟩)=Vc j D+1:=by
  unfold Vc
  rw [sumTo,Go.ConcN.sumTo_upd_out D _ cnt (Nat.le_refl _),upd_same]; rfl
 have hS':Ss (j+1) (ConcN.upd D j ⟨8,0,0,⟨false,AtStore S j,S.child b9 b10, ĝ⟩⟩)=Ss j D+8:=by
  unfold Ss
  rw [sumTo,Go.ConcN.sumTo_upd_out D _ Wk.s (Nat.le_refl _),upd_same]
 obtain ⟨hst,hsm,hop,_⟩:=hmode.openv trivial
 have hop':OpenSt (j+1) (ConcN.upd D j ⟨8,0,0,⟨false,AtStore S j,S.child b9 b10, ĝ⟩⟩):=fun i hi=>by
  by_cases e:i=j
  ·subst e;rw [upd_same]; simp
  ·rw [upd_ne D _ e]; exact hop i X
 have hm' : ∀ tag,isOpen tag→pend tag=0→(∀ vs,tag ≠ .w2 vs)→Mode (j+1) (ConcN.upd D j ⟨8,0,0,⟨false,AtStore S j,S.child b9 b10, ĝ⟩⟩) tag st sm:=fun tag h1 h2 h3=>by
  have:=Mode.opn (j:=j+1) (D:=ConcN.upd D j ⟨8,0,0,⟨false,AtStore S j,S.child b9 b10, ĝ⟩⟩) h1 hop' fun vs e=>absurd e (h3 vs)
  rw [hV',h2] at this
  rw [hst,hsm]; exact this
 have ha':((gs.setIfInBounds 0 a').push (S.child b9 b10))[0]? = some a':=by
  rw [Array.getElem?_push,if_neg (by simp;omega),Array.getElem?_setIfInBounds_self_of_lt X]
 cases r with
 | zero =>
  obtain ⟨f₁,hL⟩:=hnext
  have hjn:j+1=S.n:=by omega
  refine ⟨_,_,_,_,_,hrun,⟨_,w,sl,cb',j+1,_,q, .kw,f₁,anc0,a',st,sm,rfl,ha',?_,hcom,hwg,hm' _ trivial Z (by simp),by simp,rfl,rfl,rfl⟩, .inl ?_⟩
  ·rw [hdf,hd,hjn]; exact .kw (hL w hlive)
  ·unfold rk;rw [hS']; simp only [phi]; omega
 | succ r =>
  obtain ⟨f₁,hL⟩:=hnext
  have hjn:j+1=S.n - (r+1):=by omega
  refine ⟨_,_,_,_,_,hrun,⟨_,w,sl,cb',j+1,_,q, .hd r,f₁,anc0,a',st,sm,rfl,ha',?_,hcom,hwg,hm' _ trivial Z (by simp),by simp,rfl,rfl,rfl⟩, .inl ?_⟩
  ·rw [hdf,hd,hjn]; exact .hd X (fun b _=>by rw [hcb']; exact cbGo_ne) (hL w hlive)
  ·unfold rk;rw [hS']; simp only [phi]; omega
theorem EvS.said {N B:Nat} {e:Event} (h:e=Go.ConcR.mk (.read (smA S.Wg))∨e=Go.ConcR.mk (.write (smA S.Wg))∨e=Go.ConcR.mk (.acquire (stA S.Wg))) (hW:cb S.Wg = .sync) (hN:S.Wg<N) (hB:N≤B):EvS S cb N j 0 B e:=by
 have hc : ∀ a:Addr,a.block=S.Wg→clsL S (cbN cb N 0) j (.cell a) = .sync:=fun a ha=>by simp only [clsL,ha,cbN_old hN,hW]
 have hB':S.Wg<B:=by omega
 rcases h with rfl | rfl | rfl
 ·refine ⟨fun x hx => ?_,by simp [Go.ConcR.mk],hB'⟩
  have:(MemAct.ofEvent (Go.ConcR.mk (.read (smA S.Wg)))).touch? = some ⟨.cell (smA S.Wg),false, .said⟩:=rfl
  rw [this] at hx;cases hx
  exact ⟨.inl ⟨hc _ Z,by simp,fun _=>rfl⟩,fun e=>by cases e⟩
 ·refine ⟨fun x hx => ?_,by simp [Go.ConcR.mk],hB'⟩
  have:(MemAct.ofEvent (Go.ConcR.mk (.write (smA S.Wg)))).touch? = some ⟨.cell (smA S.Wg),true, .said⟩:=rfl
  rw [this] at hx;cases hx
  exact ⟨.inl ⟨hc _ Z,by simp,fun _=>rfl⟩,fun e=>by cases e⟩
 ·exact ⟨fun x hx=>(by cases hx),by simp [Go.ConcR.mk],hB'⟩
theorem stepMain (hn:S.n<2147483648) (hAn : ∀ g,S.Anch g→LGo S.P true S.ty S.Wg (W1 S.P S.ty S.Wg S.Fin S.Anch) g) (hch:ChildOk S) (ha:gs[0]? = some a) (hC:Com S gs w t cb j D q) (hwg:WgAt S.ty S.Wg w st sm) (hrun:a.status = .running) :
  ∀ (k:Nat) (tag:Tag) (f0:Nat) (x0:Anc),phi S.n (Vc j D) tag=k→MSit S cb tag j f0 (Deaf t 0) x0 a w→Mode j D tag st sm→(tag = .fin→AcqK S j t) →
   Goal S gs w sl t (rk S j D tag) (fam j x0 D) (fu S j D q f0)∨(tag = .fin∧S.Fin a):=by
 intro k
 induction k using Nat.strongRecOn with
 | _ k ih =>
 intro tag f0 x0 hk hM hmode hacq
 have hlive:WgLive S.ty S.Wg w:=⟨st,sm,hwg⟩
 have hk0:=hC.k1
 have hVj:=Vc_le j D
 have hjn:=hC.jn
 have hCW:0<S.n→S.C≠S.Wg:=fun h=>by have:=(hC.cells h).2;omega
 have cC : ∀ o v,0<S.n→(w.setCell ⟨S.Wg,o,none⟩ v).heap[S.C]? = w.heap[S.C]? := fun o v h=>setCell_block (hCW h)
 have cS : ∀ o v,w.heap.size≤(w.setCell ⟨S.Wg,o,none⟩ v).heap.size:=fun o v=>Nat.le_of_eq setCell_size.symm
 have bxs : ∀ {b9 b10 jj:Nat},Bx S cb w jj b9 b10→Bx S (cbN cb w.heap.size 0) w jj b9 b10:=fun h=>h.cbN ⟨rfl,rfl⟩ (Nat.le_refl _) 0
 have bxw : ∀ {b9 b10 jj o:Nat} {v:Value},Bx S cb w jj b9 b10→Bx S (cbN cb w.heap.size 0) (w.setCell ⟨S.Wg,o,none⟩ v) jj b9 b10:=fun h=>by
  have hne : ∀ b,cb b = .own 0→b≠S.Wg:=fun b hc e=>by subst e;rw [hC.sync] at hc;cases hc
  exact h.cbN ⟨setCell_block (hne _ h.c9),setCell_block (hne _ h.c10)⟩ (cS _ _) 0
 -- a move without a step
 have eps : ∀ {tag':Tag} {f':Nat} {x':Anc},phi S.n (Vc j D) tag'<phi S.n (Vc j D) tag→MSit S cb tag' j f' (Deaf t 0) x' a w→Mode j D tag' st sm→tag' ≠ .fin→Goal S gs w sl t (rk S j D tag) (fam j x0 D) (fu S j D q f0)∨(tag = .fin∧S.Fin a):=fun {tag' f' x'} hlt hM' hm' hne=>by
  rcases ih _ X tag' f' x' Z hM' hm' (fun e=>absurd e hne) with h | h
  ·exact .inl (h.eps (by unfold rk;omega))
  ·exact absurd h.1 hne
 -- a step that looks at nothing
 have idle : ∀ {a':Goroutine} {f':Nat},stepG S.P true a w = .go a' w #[]→MSit S (cbN cb w.heap.size 0) tag j f' (Deaf t 0) x0 a' w→f'<f0→tag ≠ .fin→Goal S gs w sl t (rk S j D tag) (fam j x0 D) (fu S j D q f0)∨(tag = .fin∧S.Fin a):=fun hgo hM' hf hne =>
  .inl (step0 ha hC hgo (.refl w) (by simp) (fun _=>rfl) hM' hwg hmode (fun e=>absurd e hne) (.inr ⟨rfl, .inr ⟨rfl,hf⟩⟩))
 -- a step that says something
 have one : ∀ {a':Goroutine} {tag':Tag} {f' d':Nat} {x':Anc} {e:Event},stepG S.P true a w = .go a' w #[e]→EvS S cb w.heap.size j 0 w.heap.size e→deafBehind (Deaf t 0) #[e]=d'→MSit S (cbN cb w.heap.size 0) tag' j f' d' x' a' w→Mode j D tag' st sm →
   (tag' = .fin→AcqK S j (t ++ MemOp.ofEvents 0 a.frame.fn a.frame.place #[e]))→phi S.n (Vc j D) tag'<phi S.n (Vc j D) tag→Goal S gs w sl t (rk S j D tag) (fam j x0 D) (fu S j D q f0)∨(tag = .fin∧S.Fin a):=fun hgo hev hd hM' hm' hac hlt =>
  .inl (step0 ha hC hgo (.refl w) (fun e he=>by simp at he;subst he;exact hev) (fun _=>rfl) (by rw [hd]; exact hM') hwg hm' hac (.inl hlt))
 generalize hde:Deaf t 0=d0 at hM idle one eps
 cases hM with
 | @hd r f _ _ hr ho h =>
  rcases h.run hlive with hs | ⟨f',a',rfl,_,hgo,hL⟩
  ·obtain ⟨ĝ,hMk,hsee⟩:=MskK.make (cb:=cb) (k:=0) (w:=w) (fun b hb ⟨s,e,_⟩=>hC.shc b s hb e) ho
   refine eps (tag' := .r9 r) (by simp only [phi]; omega) (.r9 hr (hs.2 ĝ fun b c e f hlt hne h1 h2 => ?_) (Grow.refl _) hMk) (hmode.open_to trivial trivial Z (by simp)) (by simp)
   have hl:=hC.lt
   exact hsee b c e f X ⟨S.K,by rw [hC.base b X]; exact h1, .inl Z⟩ ((hC.stand b hlt hne).trans h2)
  ·exact idle hgo (.hd hr (fun b hb=>by rw [cbN_old hb]; exact ho b hb) hL) X (by simp)
 | @r9 r _ ĝ₀ ĝ _ hr h hg hMk =>
  rcases h.run hg hMk with hs | ⟨_,a', ĝ',w',es,hgo,hG',hM',hrg,hmine,hev⟩
  ·obtain ⟨b9,b10,hne,h9,h10,⟨f',hL⟩,_⟩:=hs ĝ hg
   have key : ∀ (b:Nat) (v:Value) (e:TypeId), ĝ.heap[b]? = some (.cells #[v] e (0,0))→b<w.heap.size∧cb b = .own 0∧w.heap[b]? = some (.cells #[v] e (0,0)):=fun b v e hb=>by
    have hl:b<w.heap.size:=hMk.lt hb
    have hF : ¬ (b<w.heap.size∧Fb cb 0 b):=fun h=>by rw [hMk.fg b hl h] at hb;simp [dum] at hb
    have hV : ¬ (b<w.heap.size∧Vb cb 0 b):=fun h=>by obtain ⟨c,e',f,_,h2⟩:=hMk.fz b hl h;rw [h2] at hb;simp only [Option.some.injEq,Obj.cells.injEq,Prod.mk.injEq] at hb;obtain ⟨rfl,_,_,h3⟩:=hb;simp at h3
    obtain ⟨o,h1,h2,_⟩:=hMk.sm b hl hF hV
    rw [h2] at hb;cases hb
    refine ⟨hl,Classical.byContradiction fun hc=>hF ⟨hl,hc,fun hv=>hV ⟨hl,hv⟩⟩,h1⟩
   obtain ⟨l9,c9,e9⟩:=key _ _ _ h9
   obtain ⟨l10,c10,e10⟩:=key _ _ _ h10
   exact eps (tag' := .ka r) (by simp only [phi]; omega) (.ka hr ⟨hne,l9,l10,c9,c10,e9,e10⟩ (hL w hlive)) (hmode.open_to trivial trivial Z (by simp)) (by simp)
  ·have n0:0<S.n:=by omega
   have hWgF:S.Wg<w.heap.size∧Fb cb 0 S.Wg:=⟨hC.lt,by rw [hC.sync]; simp,fun ⟨s,e,_⟩=>by rw [hC.sync] at e;cases e⟩
   have hlt:S.C<w.heap.size:=by have:=(hC.cells n0).2;have:=hC.lt;omega
   have hCF:S.C<w.heap.size∧Fb cb 0 S.C:=⟨hlt,by rw [(hC.cells n0).1]; simp,fun ⟨s,e,_⟩=>by rw [(hC.cells n0).1] at e;cases e⟩
   have hWg':w'.heap[S.Wg]? = w.heap[S.Wg]? := hmine.block _ hC.lt (.inl hWgF)
   have hd0:deafBehind (Deaf t 0) es=0:=by rw [hde]; exact deafBehind_still (fun e he=>⟨(evOk_low (hev e he)).2.1,(evOk_low (hev e he)).2.2.1⟩) 0
   refine .inl (step0 ha hC hgo (st':=st) (sm':=sm) (tag' := .r9 r) ⟨hmine.os,hmine.tape,hmine.output,hmine.size,fun b hb hne _ _ => ?_,fun _=>⟨st,sm,hwg.of_block hWg'⟩⟩ (fun e he => .of (hev e he) X) (fun _=>hmine.block _ hlt (.inl hCF))
    (by rw [hd0]; exact .r9 hr hG' (Grow.refl _) hM') (hwg.of_block hWg') hmode (by simp) (.inr ⟨rfl, .inl hrg⟩))
   by_cases hv:Vb cb 0 b
   ·exact hmine.block b hb (.inr ⟨hb,hv⟩)
   ·exact hmine.block b hb (.inl ⟨hb,hne,hv⟩)
 | @ka r f b9 b10 _ _ hr hb h =>
  rcases h.run hlive with ⟨_,a',hgo,f',hL⟩ | ⟨f',a',rfl,_,hgo,hL⟩
  ·exact one (tag' := .a1 r) (hgo w) (.bk (.inl Z) hC.sync hC.lt (Nat.le_refl _)) Z (.a1 hr (bxs hb) (hL w hlive)) (hmode.open_to trivial trivial Z (by simp)) (by simp) (by simp only [phi]; omega)
  ·exact idle hgo (.ka hr (bxs hb) hL) X (by simp)
 | @a1 r f b9 b10 _ _ hr hb h =>
  rcases h.run hlive with ⟨_,hall⟩ | ⟨f',a',rfl,_,hgo,hL⟩
  ·obtain ⟨rfl,rfl,hop,_⟩:=hmode.openv trivial
   obtain ⟨a',hgo,f',hL⟩:=hall (Vc (S.n - (r+1)) D) X
   have hw1:WgAt S.ty S.Wg w ((Vc (S.n - (r+1)) D:Nat)*KK) 0:=by simpa [pend] using hwg
   have hst':WgAt S.ty S.Wg (w.setCell (stA S.Wg) (.int .u64 (((Vc (S.n - (r+1)) D:Nat)+1)*KK))) (((Vc (S.n - (r+1)) D:Nat)+1)*KK) 0:=hw1.setSt _
   refine .inl (step0 ha hC (hgo w hw1) (tag' := .sd r) (Chg.wg ⟨_,_,hst'⟩) (fun e he => ?_) (cC _ _) (f':=f') (x':=anc0) ?_ hst' ?_ (by simp) (.inl (by simp only [phi]; omega)))
   ·simp at he;rcases he with rfl | rfl <;> exact .bk (.inr (.inr ⟨_,_,rfl,rfl⟩)) hC.sync hC.lt (cS _ _)
   ·rw [hde]; exact .sd hr (bxw hb) (hL _ ⟨_,_,hst'⟩)
   ·have:=Mode.opn (j:=S.n - (r+1)) (D:=D) (tag := .sd r) trivial hop (by simp)
    simpa [pend] using this
  ·exact idle hgo (.a1 hr (bxs hb) hL) X (by simp)
 | @sd r f b9 b10 _ _ hr hb h =>
  rcases h.run hlive with hs | ⟨f',a',rfl,_,hgo,hL⟩
  ·rcases hs with ⟨_,a',hgo,f',hL⟩ | hs
   ·exact one (tag' := .ke r) (hgo w) (.said (.inl Z) hC.sync hC.lt (Nat.le_refl _)) Z (.ke hr (bxs hb) (hL w hlive)) (hmode.open_to trivial trivial Z (by simp)) (by simp) (by simp only [phi]; omega)
   ·exact eps (tag' := .ke r) (by simp only [phi]; omega) (.ke hr hb (f:=0) (fun _ _=>hs)) (hmode.open_to trivial trivial Z (by simp)) (by simp)
  ·exact idle hgo (.sd hr (bxs hb) hL) X (by simp)
 | @ke r f b9 b10 _ _ hr hb h =>
  rcases h.run hlive with ⟨_,a',hgo,f',hL⟩ | ⟨f',a',rfl,_,hgo,hL⟩
  ·exact one (tag' := .go r) (hgo w) (.bk (.inr (.inl Z)) hC.sync hC.lt (Nat.le_refl _)) Z (.go hr (bxs hb) (hL w hlive)) (hmode.open_to trivial trivial Z (by simp)) (by simp) (by simp only [phi]; omega)
  ·exact idle hgo (.ke hr (bxs hb) hL) X (by simp)
 | @go r f b9 b10 _ _ hr hb h =>
  rcases h.run hlive with hs | ⟨f',a',rfl,_,hgo,hL⟩
  ·exact .inl (stepGo hch ha hC hwg hr Z hde hb hmode hs)
  ·exact idle hgo (.go hr (bxs hb) hL) X (by simp)
 | @kw f _ _ h =>
  rcases h.run hlive with ⟨_,a',hgo,f',hL⟩ | ⟨f',a',rfl,_,hgo,hL⟩
  ·exact one (tag' := .an) (hgo w) (.bk (.inl Z) hC.sync hC.lt (Nat.le_refl _)) Z (.an (hL w hlive)) (hmode.open_to trivial trivial Z (by simp)) (by simp) (by simp only [phi]; omega)
  ·exact idle hgo (.kw hL) X (by simp)
 | @an f _ _ h =>
  rcases h.run hlive with hs | ⟨f',a',rfl,_,hgo,hL⟩
  ·obtain ⟨f',hL⟩:=hAn _ hs
   exact eps (tag' := .w1) (by simp only [phi]; omega) (.w1 (hL w hlive)) (hmode.open_to trivial trivial Z (by simp)) (by simp)
  ·exact idle hgo (.an hL) X (by simp)
 | @w1 f _ _ h =>
  rcases h.run hlive with ⟨_,hall⟩ | ⟨f',a',rfl,_,hgo,hL⟩
  ·obtain ⟨rfl,rfl,hop,_⟩:=hmode.openv trivial
   have hw1:WgAt S.ty S.Wg w ((Vc S.n D:Nat)*KK) 0:=by simpa [pend] using hwg
   obtain ⟨a',hgo,h0,h1⟩:=hall (Vc S.n D) X
   by_cases hv:Vc S.n D=0
   ·obtain ⟨f',hL⟩:=h0 hv
    refine one (tag' := .kew) (hgo w hw1) (.bk (.inr (.inr ⟨_,_,rfl,rfl⟩)) hC.sync hC.lt (Nat.le_refl _)) Z (.kew (hL w hlive)) ?_ (by simp) (by simp only [phi]; omega)
    have hq:AllQuit S.n D:=fun i hi=>by
     have:=hop i hi
     rcases Nat.lt_or_ge (D i).s 5 with h5 | h5
     ·omega
     ·exfalso
      have:=le_sumTo (f:=fun i=>cnt (D i)) hi
      have c1:cnt (D i)=1:=by simp [cnt,h5]
      simp only [Vc] at hv
      omega
    have:=Mode.fin (j:=S.n) (D:=D) (tag := .kew) trivial hq
    rw [hv]; simpa [pend] using this
   ·obtain ⟨f',hL⟩:=h1 hv
    refine one (tag' := .w2 (Vc S.n D)) (hgo w hw1) (.bk (.inr (.inr ⟨_,_,rfl,rfl⟩)) hC.sync hC.lt (Nat.le_refl _)) Z (.w2 (hL w hlive)) ?_ (by simp) (by simp only [phi]; omega)
    exact .opn (tag := .w2 (Vc S.n D)) trivial hop fun vs e=>by cases e;omega
  ·exact idle hgo (.w1 hL) X (by simp)
 | @w2 vs f _ _ h =>
  obtain ⟨rfl,rfl,hop,hvs⟩:=hmode.openv trivial
  obtain ⟨hv1,hv2⟩:=hvs vs Z
  have hw1:WgAt S.ty S.Wg w ((Vc S.n D:Nat)*KK) 0:=by simpa [pend] using hwg
  rcases h.run hlive with ⟨_,⟨a1,hgo1,f1,hL1⟩,a2,hgo2,f2,hL2⟩ | ⟨f',a',rfl,_,hgo,hL⟩
  ·by_cases hv:Vc S.n D=vs
   ·rw [hv] at hw1
    have hst':=hw1.setSt ((vs:Nat)*KK+1)
    refine .inl (step0 ha hC (hgo1 w hw1) (tag' := .sw) (Chg.wg ⟨_,_,hst'⟩) (fun e he => ?_) (cC _ _) (f':=f1) (x':=anc0) ?_ hst' ?_ (by simp) (.inl (by simp only [phi]; omega)))
    ·simp at he;rcases he with rfl | rfl <;> exact .bk (.inr (.inr ⟨_,_,rfl,rfl⟩)) hC.sync hC.lt (cS _ _)
    ·rw [hde]; exact .sw (hL1 _ ⟨_,_,hst'⟩)
    ·have:=Mode.reg (j:=S.n) (D:=D) (tag := .sw) trivial hop X
     rw [hv] at this;exact this
   ·refine one (tag' := .an) (hgo2 w (Vc S.n D) X hv hw1) (.bk (.inr (.inr ⟨_,_,rfl,rfl⟩)) hC.sync hC.lt (Nat.le_refl _)) Z (.an (hL2 w hlive)) (hmode.open_to trivial trivial Z (by simp)) (by simp) (by simp only [phi]; omega)
  ·exact idle hgo (.w2 hL) X (by simp)
 | @sw f _ _ h =>
  rcases h.run hlive with ⟨_,a',hgo,f',hL⟩ | ⟨f',a',rfl,_,hgo,hL⟩
  ·refine one (tag' := .w3) (hgo w) (.said (.inr (.inl Z)) hC.sync hC.lt (Nat.le_refl _)) Z (.w3 (hL w hlive)) ?_ (by simp) (by simp only [phi]; omega)
   cases hmode with
   | opn h _ _ => exact h.elim
   | reg _ h2 h3 => exact .reg trivial h2 h3
   | last l _ h2 h3 h4 => exact .last l trivial h2 h3 h4
   | sema _ h2 => exact .sema (.inr Z) h2
   | fin h _ => exact h.elim
  ·exact idle hgo (.sw hL) X (by simp)
 | @w3 f _ _ h =>
  rcases h.run hlive with hs | ⟨f',a',rfl,_,hgo,hL⟩
  ·obtain ⟨_,_,hblk,a',hgo,f',hL⟩:=id hs
   have toblk:(∃ s,WgAt S.ty S.Wg w s 0)→Mode S.n D .blk st sm→Goal S gs w sl t (rk S S.n D .w3) (fam S.n anc0 D) (fu S S.n D q (f+1))∨(Tag.w3 = .fin∧S.Fin a):=fun hz hm' =>
    .inl (step0 ha hC (hblk w hz) (.refl w) (by simp) (fun _=>rfl) (tag' := .blk) (f':=0) (x':=anc0) (by rw [show deafBehind (Deaf t 0) #[]=1 from hde]; exact .blk hs) hwg hm' (by simp) (.inr ⟨rfl, .inr ⟨rfl,by omega⟩⟩))
   cases hmode with
   | opn h _ _ => exact h.elim
   | reg h1 h2 h3 => exact toblk ⟨_, hwg⟩ (.reg trivial h2 h3)
   | last l h1 h2 h3 h4 => exact toblk ⟨_, hwg⟩ (.last l trivial h2 h3 h4)
   | sema _ hq =>
    have hst':=hwg.setSm 0
    refine .inl (step0 ha hC (hgo w hwg) (tag' := .w4) (Chg.wg ⟨_,_,hst'⟩) (fun e he => ?_) (cC _ _) (f':=f') (x':=anc0) ?_ hst' (.fin trivial hq) (by simp) (.inl (by simp only [phi]; omega)))
    ·simp [semEvents] at he
     rcases he with rfl | rfl | rfl | rfl
     ·exact .bk (.inl Z) hC.sync hC.lt (cS _ _)
     ·exact .bk (.inr (.inr ⟨_,_,rfl,rfl⟩)) hC.sync hC.lt (cS _ _)
     ·exact .bk (.inr (.inr ⟨_,_,rfl,rfl⟩)) hC.sync hC.lt (cS _ _)
     ·exact .bk (.inr (.inl Z)) hC.sync hC.lt (cS _ _)
    ·rw [hde]; exact .w4 (hL _ ⟨_,_,hst'⟩)
   | fin h _ => exact h.elim
  ·exact idle hgo (.w3 hL) X (by simp)
 | blk h => cases hrun
 | @w4 f _ _ h =>
  obtain ⟨rfl,rfl,hq⟩:=hmode.finv trivial
  rcases h.run hlive with ⟨_,a',hgo,f',hL⟩ | ⟨f',a',rfl,_,hgo,hL⟩
  ·exact one (tag' := .kew) (hgo w hwg) (.bk (.inr (.inr ⟨_,_,rfl,rfl⟩)) hC.sync hC.lt (Nat.le_refl _)) Z (.kew (hL w hlive)) (.fin trivial hq) (by simp) (by simp only [phi]; omega)
  ·exact idle hgo (.w4 hL) X (by simp)
 | @kew f _ _ h =>
  obtain ⟨rfl,rfl,hq⟩:=hmode.finv trivial
  rcases h.run hlive with ⟨_,a',hgo,f',hL⟩ | ⟨f',a',rfl,_,hgo,hL⟩
  ·exact one (tag' := .aq) (hgo w) (.bk (.inr (.inl Z)) hC.sync hC.lt (Nat.le_refl _)) Z (.aq (hL w hlive)) (.fin trivial hq) (by simp) (by simp only [phi]; omega)
  ·exact idle hgo (.kew hL) X (by simp)
 | @aq f _ _ h =>
  obtain ⟨rfl,rfl,hq⟩:=hmode.finv trivial
  rcases h.run hlive with ⟨_,a',hgo,f',hL⟩ | ⟨f',a',rfl,_,hgo,hL⟩
  ·refine one (tag' := .fin) (hgo w) (.said (.inr (.inr Z)) hC.sync hC.lt (Nat.le_refl _)) Z (.fin (hL w hlive)) (.fin trivial hq) (fun _ => ?_) (by simp only [phi]; omega)
   have hop:MemOp.ofEvents 0 a.frame.fn a.frame.place #[mk (.acquire (stA S.Wg))] = #[{ g:=0,fn:=a.frame.fn,pos:=a.frame.place,act := .mark (.acquire (stA S.Wg)) }]:=by simp [MemOp.ofEvents,Go.ConcR.mk,MemAct.ofEvent]
   rw [hop]
   have hlast : ∀ z:MemOp,(t ++ #[z])[t.size]? = some z:=fun z=>by rw [Array.getElem?_append_right (Nat.le_refl _)]; simp
   refine ⟨t.size,by rw [act?_of (hlast _)],by simp [Trace.g?,hlast],⟨0,by simp [Trace.g?,hlast],by rw [deaf_old (Nat.le_refl _)]; exact hde⟩,fun i hi => ?_⟩
   obtain ⟨r,hr⟩:=hC.rel i hi (by rw [hq i hi]; omega)
   exact ⟨r,hr.appOther (g:=0) (fun op ho=>by simp at ho;rw [ho]) X,lt_of_act? hr.act⟩
  ·exact idle hgo (.aq hL) X (by simp)
 | @fin f _ _ h =>
  rcases h.run hlive with hs | ⟨f',a',rfl,_,hgo,hL⟩
  ·exact .inr ⟨rfl,hs⟩
  ·refine .inl (step0 ha hC hgo (.refl w) (by simp) (fun _=>rfl) (tag' := .fin) (f':=f') (x':=anc0) ?_ hwg hmode (fun _ => ?_) (.inr ⟨rfl, .inr ⟨rfl,by omega⟩⟩))
   ·rw [show deafBehind (Deaf t 0) #[]=0 from hde]; exact .fin hL
   ·simpa [MemOp.ofEvents] using hacq Z
end
end Tor.Co
end
section
namespace Tor.Co
open Go Go.Conc Go.RowKit
open Go.ConcN (WgLive RelBy sumTo upd sumTo_upd upd_ne upd_same sumTo_congr le_sumTo sumTo_le)
open Go.ConcR (KK wgBlock WgAt stA smA rd wr mk DC0)
def FinS (S:Ses) (m:Machine) (t:Trace):Prop :=
 ∃ (gs:Array Goroutine) (w:World) (sl:Option (Nat × Nat)) (cb:Nat→BCls) (D:Nat→Wk) (q:Nat→Nat) (a:Goroutine),m=crowd gs w sl∧gs[0]? = some a∧S.Fin a∧Com S gs w t cb S.n D q∧AllQuit S.n D∧AcqK S S.n t∧Deaf t 0=0
section
variable {S:Ses} {gs:Array Goroutine} {w:World} {sl:Option (Nat × Nat)} {t:Trace} {cb:Nat→BCls} {j:Nat} {D:Nat→Wk} {q:Nat→Nat} {tag:Tag} {f0 d0:Nat} {x0:Anc} {a:Goroutine} {st sm:Int}
theorem MSit.bound (h:MSit S cb tag j f0 d0 x0 a w):j+pend tag≤S.n:=by
 cases h <;> simp only [pend] <;> omega
theorem someone_runs (hR:Runs S) (ha:gs[0]? = some a) (hM:MSit S cb tag j f0 d0 x0 a w) (hC:Com S gs w t cb j D q) (hmode:Mode j D tag st sm) : ∃ (i:Nat) (g:Goroutine),gs[i]? = some g∧g.status = .running:=by
 rcases hM.status hR with ⟨hs,_⟩ | ⟨_,rfl⟩
 ·exact ⟨0,a,ha,hs⟩
 ·cases hmode with
  | opn h1 _ _ => exact h1.elim
  | reg _ _ h3 =>
   obtain ⟨i,hi,h5⟩:=exists_counted h3
   obtain ⟨g,hg,hs,_⟩:=hC.wk i hi
   exact ⟨_,g,hg,hs.running X⟩
  | last l _ h2 h3 _ =>
   obtain ⟨g,hg,hs,_⟩:=hC.wk l h2
   exact ⟨_,g,hg,hs.running X⟩
  | sema h _ => rcases h with h | h <;> cases h
  | fin h1 _ => exact h1.elim
theorem all_awake (hR:Runs S) (ha:gs[0]? = some a) (hM:MSit S cb tag j f0 d0 x0 a w) (hC:Com S gs w t cb j D q) : ∀ g∈gs,awake g:=by
 intro g hg
 obtain ⟨i,hi⟩:=Array.mem_iff_getElem?.1 hg
 have hlt:=(Array.getElem?_eq_some_iff.1 hi).1
 have hsz:=hC.size
 rcases Nat.eq_zero_or_pos i with rfl | h0
 ·rw [ha] at hi;cases hi
  rcases hM.status hR with ⟨hs,_⟩ | ⟨hs,_⟩
  ·exact awake_of (.inl hs)
  ·exact awake_of (.inr (.inl hs))
 ·rcases Nat.lt_or_ge i S.K with hl | hl
  ·exact awake_of ((hC.old i g h0 hl hi).status.elim .inl fun x => .inr (.inr x))
  ·obtain ⟨i',rfl⟩ : ∃ i',i=S.K+i':=⟨i - S.K,by omega⟩
   obtain ⟨g',hg',hs,_⟩:=hC.wk i' X
   rw [hi] at hg';cases hg'
   exact awake_of (hs.status.elim .inl fun x => .inr (.inr x))
theorem ses_step (hR:Runs S) (hn:S.n<2147483648) (hAn : ∀ g,S.Anch g→LGo S.P true S.ty S.Wg (W1 S.P S.ty S.Wg S.Fin S.Anch) g) (hch:ChildOk S) : ∀ r x f m t,Inv S r x f m t →
  FinS S m t ∨ ∃ m' ops r' x' f',stepT S.P m=(.next m',ops)∧Inv S r' x' f' m' (t ++ ops)∧(r'<r∨(r'=r∧(Fam S.P (S.n+1) x' x∨(x'=x∧f'<f)))):=by
 rintro r x f m t ⟨gs,w,sl,cb,j,D,q,tag,f0,x0,a,st,sm,rfl,ha,hM,hC,hwg,hmode,hacq,rfl,rfl,rfl⟩
 have hk:=hC.k1
 have hsz:=hC.size
 by_cases hfin:tag = .fin∧S.Fin a
 ·obtain ⟨rfl,hF⟩:=hfin
  generalize hd:Deaf t 0=d0 at hM
  cases hM with
  | fin h => exact .inl ⟨gs, w, sl, cb, D, q, a, rfl, ha, hF, hC, (hmode.finv trivial).2.2, hacq Z, hd⟩
 obtain ⟨i,g,d,sl',hg,hrun,hstep⟩:=crowd_pick (P:=S.P) (w:=w) (sl:=sl) (all_awake hR ha hM hC) (someone_runs hR ha hM hC hmode)
 rw [hstep]
 have hlt:=(Array.getElem?_eq_some_iff.1 hg).1
 rcases Nat.eq_zero_or_pos i with rfl | h0
 ·rw [ha] at hg;cases hg
  rcases stepMain (sl:=sl') hn hAn hch ha (hC.at d) (w:=w.at d) hwg hrun _ tag f0 x0 Z (hM.at d) hmode hacq with h | h
  ·exact .inr h
  ·exact absurd h hfin
 rcases Nat.lt_or_ge i S.K with hl | hl
 ·-- one that only leaves
  have hq:=hC.old i g h0 hl hg
  have hi0:(i == 0)=false:=by simp;omega
  cases hqi:q i with
  | zero => rw [hqi] at hq; rw [hq.1] at hrun; cases hrun
  | succ k =>
   rw [hqi] at hq
   rcases hq with ⟨hf,_⟩ | ⟨_,g',es,hm,hgo,hq'⟩
   ·rw [hf] at hrun;cases hrun
   have hrunT:=runT_crowd_go (P:=S.P) (sl:=sl') (i:=i) hg (by rw [hi0]; exact hgo (w.at d))
   have hC':=(hC.at d).stepO (g:=g) h0 hl (fn:=g.frame.fn) (pos:=g.frame.place) hm hq'
   obtain ⟨tag',f'',hM',hf'',htag,_⟩:=((hM.at d).chg (.refl (w.at d)) h0 hC.sync fun hn=>(hC.cells hn).1).woken hR g g' (w.at d)
   have hd0:Deaf (t ++ MemOp.ofEvents i g.frame.fn g.frame.place es) 0=Deaf t 0:=Deaf_other t (g':=i) X _ fun op ho=>by obtain ⟨e,_,rfl⟩:=mem_ofEvents ho;rfl
   have hsum:sumTo S.K (ConcN.upd q i k)+(k+1)=sumTo S.K q+k:=by
    have:=sumTo_upd q k id hl
    simpa [hqi] using this
   refine .inr ⟨_,_,_,_,_,hrunT,⟨_,w.at d,sl',_,j,D,ConcN.upd q i k,tag',f'',x0,woken S.P g g' (w.at d) a,st,sm,rfl,?_,?_,hC',hwg,hmode.retag htag,fun e => ?_,rfl,rfl,rfl⟩, .inr ⟨?_, .inr ⟨rfl,?_⟩⟩⟩
   ·rw [Array.getElem?_setIfInBounds_ne X,Array.getElem?_map,ha]; rfl
   ·rw [hd0]; exact hM'
   ·rcases htag with rfl | ⟨_,rfl⟩
    ·exact (hacq e).app fun i' r _ hr=>hr.appOther (g:=i) (fun op ho=>by obtain ⟨e,_,rfl⟩:=mem_ofEvents ho;rfl) X
    ·cases e
   ·unfold rk;rw [phi_retag S.n _ htag]
   ·unfold fu
    omega
 ·obtain ⟨i',rfl⟩ : ∃ i',i=S.K+i':=⟨i - S.K,by omega⟩
  exact .inr (stepWorker (sl:=sl') hR hn ha (hM.at d) (hC.at d) (w:=w.at d) hwg hmode hM.bound hacq X hg hrun)
theorem ses_runs (hR:Runs S) (hn:S.n<2147483648) (hAn : ∀ g,S.Anch g→LGo S.P true S.ty S.Wg (W1 S.P S.ty S.Wg S.Fin S.Anch) g) (hch:ChildOk S) {r:Nat} {x:Nat→Anc} {f:Nat} {m:Machine} {t:Trace} (h:Inv S r x f m t) :
  ∃ N m' t',runNT S.P N m t=(.next m',t')∧FinS S m' t' :=
 run_lex (fun _ _ _ _ _ h=>h.acc) (ses_step hR hn hAn hch) r x f m t h
end
structure Joined (S:Ses) (Shun:Loc→Prop) (gs:Array Goroutine) (w:World) (t:Trace) (a:Goroutine) (q:Nat→Nat):Prop where
 main:gs[0]? = some a
 fin:S.Fin a
 leave:Leavers S.P t gs q
 past:Past (fun l=>Shun l ∨ ∃ a,l = .cell a∧a.block=S.Wg) w.heap.size t
 env:w.os=S.w0.os∧w.tape=S.w0.tape∧w.output=S.w0.output
 lt:S.Wg<w.heap.size
 stand : ∀ b,b<S.Wg→b≠S.C→w.heap[b]? = S.w0.heap[b]?
 pay:0<S.n → ∃ c,w.heap[S.C]? = some (.cells c S.eC (0,0))∧c.size=2*S.n ∧ ∀ i,i<S.n→c[2*i]? = some (S.pv i).1∧c[2*i+1]? = some (S.pv i).2
theorem FinS.joined {S:Ses} {Shun:Loc→Prop} {B0:Nat} {m:Machine} {t:Trace} (hP:Past Shun B0 S.t0) (h:FinS S m t) : ∃ gs w sl a q,m=crowd gs w sl∧Joined S Shun gs w t a q:=by
 obtain ⟨gs,w,sl,cb,D,q,a,rfl,ha,hF,hC,hq,hac,hd⟩:=h
 have hk:=hC.k1
 have hsz:=hC.size
 refine ⟨gs,w,sl,a,fun i=>if i<S.K then q i else (D (i - S.K)).f,rfl,ha,hF,⟨fun i g h0 hg => ?_,fun i hi=>hC.above i X⟩,?_,hC.env,hC.lt,hC.stand,fun hn => ?_⟩
 ·have hlt:=(Array.getElem?_eq_some_iff.1 hg).1
  rcases Nat.lt_or_ge i S.K with hl | hl
  ·rw [if_pos hl]; exact hC.old i g h0 hl hg
  ·rw [if_neg X]
   obtain ⟨g',hg',hs,hde⟩:=hC.wk (i - S.K) X
   rw [show S.K+(i - S.K)=i by omega] at hg' hde
   rw [hg] at hg';cases hg'
   have h1:=hq (i - S.K) X
   rw [hde]
   generalize (D (i - S.K)).s=s at hs h1
   subst h1
   generalize (D (i - S.K)).f=f at hs
   generalize (D (i - S.K)).d=dd at hs
   generalize (D (i - S.K)).x=xx at hs
   cases hs with
   | quit h => exact h
 ·obtain ⟨u,hu⟩:=hC.pre
  obtain ⟨p,h1,h2,h3,h4⟩:=hac
  subst hu
  refine Tor.Co.joined hP hC.seg hk hC.ti.nr hd hC.seen h1 h2 h3 hC.nrel fun i op x hi ho hx hne => ?_
  obtain ⟨h5,h6⟩:=(hC.seg.who i op x hi ho hx).resolve_left hne
  obtain ⟨r,hr,hrp⟩:=h4 (op.g - S.K) X
  rw [show S.K+(op.g - S.K)=op.g by omega] at hr
  exact ⟨r,hr,hrp⟩
 ·obtain ⟨c,h1,h2,h3⟩:=hC.pay hn
  exact ⟨c,h1,h2,fun i hi=>h3 i hi (by rw [hq i hi]; omega)⟩
theorem ses_start {S:Ses} {Shun:Loc→Prop} {gs:Array Goroutine} {sl:Option (Nat × Nat)} {a:Goroutine} {q:Nat→Nat} (hK:gs.size=S.K) (ha:gs[0]? = some a) (hL:Leavers S.P S.t0 gs q) (hP:Past Shun S.Wg S.t0)
  (hW:S.w0.heap.size=S.Wg+1) (hwg:WgAt S.ty S.Wg S.w0 0 0) (hs:Scr S S.n a)
  (h0:S.cb0 S.Wg = .sync) (hc:0<S.n→S.cb0 S.C = .cells∧S.C<S.Wg) (hc0:S.n=0→S.C=S.Wg)
  (hcb : ∀ b,b≠S.Wg→(0<S.n→b≠S.C)→S.cb0 b = .dead∨(S.cb0 b = .shared S.K∧b<S.Wg∧(∃ c e f,S.w0.heap[b]? = some (.cells c e f)) ∧ ∀ l,onB l b → ¬ Shun l)) (hsC:0<S.n → ∀ l,onB l S.C → ¬ Shun l)
  (hpay:0<S.n → ∃ c,S.w0.heap[S.C]? = some (.cells c S.eC (0,0))∧c.size=2*S.n) : ∃ r x f,Inv S r x f (crowd gs S.w0 sl) S.t0:=by
 have hk:0<S.K:=by have:=(Array.getElem?_eq_some_iff.1 ha).1;omega
 have hlive:WgLive S.ty S.Wg S.w0:=⟨_,_,hwg⟩
 have hcls : ∀ b,S.cb0 b = .sync∧b=S.Wg∨(S.cb0 b = .cells∧b=S.C∧0<S.n)∨S.cb0 b = .dead∨(S.cb0 b = .shared S.K∧b<S.Wg∧(∃ c e f,S.w0.heap[b]? = some (.cells c e f)) ∧ ∀ l,onB l b → ¬ Shun l):=fun b=>by
  by_cases h1:b=S.Wg
  ·subst h1;exact .inl ⟨h0,rfl⟩
  ·by_cases h2:0<S.n∧b=S.C
   ·obtain ⟨h2,rfl⟩:=h2;exact .inr (.inl ⟨(hc h2).1,rfl,h2⟩)
   ·exact .inr (.inr (hcb b h1 fun hn e=>h2 ⟨hn,e⟩))
 have known : ∀ l b,onB l b → ¬ Shun l→Perm S.t0 0 l:=fun l b hb hns i x hx hl=>by
  have hm:x.loc.isMemory=true:=by rw [hl]; rcases hb with ⟨a,rfl,_⟩ | rfl <;> rfl
  rcases hP.known i x hx hm with h | h
  ·exact h
  ·exact absurd (hl▸h.1) hns
 have hti:TI (clsL S S.cb0 0) (S.K+0) S.t0:=by
  refine ⟨fun l g hl => ?_,fun l s g hl hg => ?_,fun i op x hi hx hsy => ?_,hP.clean⟩
  ·cases l with
   | cell a =>
    simp only [clsL] at hl
    rcases hcls a.block with ⟨h,_⟩ | ⟨h,hb,hn⟩ | h | ⟨h,_⟩ <;> rw [h] at hl <;> try (cases hl;done)
    simp only [Nat.not_lt_zero,if_false,Cls.own.injEq] at hl
    subst hl
    exact known _ a.block (.inl ⟨a,rfl,rfl⟩) (hsC hn _ (.inl ⟨a,rfl,hb⟩))
   | obj b =>
    simp only [clsL] at hl
    rcases hcls b with ⟨h,_⟩ | ⟨h,hb,hn⟩ | h | ⟨h,_⟩ <;> rw [h] at hl <;> cases hl
   | _ => cases hl
  ·cases l with
   | cell a =>
    simp only [clsL] at hl
    rcases hcls a.block with ⟨h,_⟩ | ⟨h,hb,hn⟩ | h | ⟨h,_,_,h4⟩ <;> rw [h] at hl <;> try (cases hl;done)
    cases hl
    have:g=0:=hg.resolve_right X
    subst this
    exact Go.ConcN.PermW.of (known _ a.block (.inl ⟨a,rfl,rfl⟩) (h4 _ (.inl ⟨a,rfl,rfl⟩)))
   | obj b =>
    simp only [clsL] at hl
    rcases hcls b with ⟨h,_⟩ | ⟨h,hb,hn⟩ | h | ⟨h,_,_,h4⟩ <;> rw [h] at hl <;> try (cases hl;done)
    cases hl
    have:g=0:=hg.resolve_right X
    subst this
    exact Go.ConcN.PermW.of (known _ b (.inr Z) (h4 _ (.inr Z)))
   | _ => cases hl
  ·have hu : ∀ b,onB x.loc b→S.cb0 b = .sync→b=S.Wg:=fun b _ h=>by
    rcases hcls b with ⟨_,h1⟩ | ⟨h1,_⟩ | h1 | ⟨h1,_⟩
    ·exact h1
    all_goals rw [h] at h1;cases h1
   have hb:onB x.loc S.Wg∧x.loc.isMemory=true:=by
    cases hl:x.loc with
    | cell a =>
     rw [hl] at hsy
     simp only [clsL] at hsy
     cases hc:S.cb0 a.block <;> rw [hc] at hsy <;> try (cases hsy;done)
     have:=hu a.block (by rw [hl]; exact .inl ⟨a,rfl,rfl⟩) hc
     exact ⟨.inl ⟨a,rfl,this⟩,rfl⟩
    | obj b =>
     rw [hl] at hsy
     simp only [clsL] at hsy
     cases hc:S.cb0 b <;> rw [hc] at hsy <;> cases hsy
    | _ => rw [hl] at hsy; cases hsy
   have hut:=low_untouched (l:=x.loc) hP.seen (fun b hb' => ?_) hb.2
   ·exact absurd Z (hut i x (by rw [touchAt_of hi]; exact hx))
   ·obtain ⟨h1,h2⟩:=hb
    rcases h1 with ⟨a,e1,e2⟩ | e1 <;> rcases hb' with ⟨a',e3,e4⟩ | e3 <;> rw [e1] at e3 <;> cases e3
    ·omega
    ·omega
 have hC:Com S gs S.w0 S.t0 S.cb0 0 (fun _=>⟨0,0,0,anc0⟩) q:=by
  refine ⟨by omega,hk,Nat.zero_le _,fun i g h0 _ hg=>hL.old i g h0 hg,fun i hi=>absurd hi X,fun i hi=>hL.above i X,hti,⟨fun i op x hi ho => ?_,fun i op x hi ho => ?_⟩,fun i hi => ?_,fun i hi=>absurd hi X,fun op ho=>MemAct.low_mono X (hP.seen op ho),
   ⟨#[],by simp⟩,⟨rfl,rfl,rfl⟩,h0,by omega,fun _ _=>rfl,fun b _ g e => ?_,fun b s e => ?_,fun _ _ _=>rfl,hc,hc0,fun b s _ e => ?_,fun b k _ _ e => ?_,fun hn => ?_⟩
  ·have:=(Array.getElem?_eq_some_iff.1 ho).1;omega
  ·have:=(Array.getElem?_eq_some_iff.1 ho).1;omega
  ·obtain ⟨op,ho,hoa⟩:=Option.map_eq_some_iff.1 hi
   have:=hP.seen op (Array.mem_of_getElem? ho)
   rw [hoa] at this
   exact absurd this (Nat.lt_irrefl _)
  ·rcases hcls b with ⟨h,_⟩ | ⟨h,_⟩ | h | ⟨h,_⟩ <;> rw [h] at e <;> cases e
  ·rcases hcls b with ⟨h,_⟩ | ⟨h,_⟩ | h | ⟨h,_⟩ <;> rw [h] at e <;> cases e
   omega
  ·rcases hcls b with ⟨h,_⟩ | ⟨h,_⟩ | h | ⟨h,_,h3,_⟩ <;> rw [h] at e <;> try (cases e;done)
   exact h3
  ·rcases hcls b with ⟨h,_⟩ | ⟨h,_⟩ | h | ⟨h,_⟩ <;> rw [h] at e <;> cases e
  ·obtain ⟨c,h1,h2⟩:=hpay hn
   exact ⟨c,h1,h2,fun i hi=>absurd hi X⟩
 have hmode : ∀ tag,isOpen tag→pend tag=0→(∀ vs,tag ≠ .w2 vs)→Mode 0 (fun _=>(⟨0,0,0,anc0⟩:Wk)) tag 0 0:=fun tag h1 h2 h3=>by
  have:=Mode.opn (j:=0) (D:=fun _=>(⟨0,0,0,anc0⟩:Wk)) h1 (fun i hi=>by omega) (fun vs e=>absurd e (h3 vs))
  simpa [Vc,sumTo,h2] using this
 have hd:=hP.hears
 cases hn:S.n with
 | zero =>
  rw [hn] at hs
  obtain ⟨f,hL'⟩:=hs
  have hM:MSit S S.cb0 .kw S.n f 0 anc0 a S.w0 := .kw (hL' S.w0 hlive)
  rw [hn] at hM
  exact ⟨_,_,_,gs,S.w0,sl,S.cb0,0,_,q, .kw,f,anc0,a,0,0,rfl,ha,by rw [hd]; exact hM,hC,hwg,hmode _ trivial Z (by simp),by simp,rfl,rfl,rfl⟩
 | succ r =>
  rw [hn] at hs
  obtain ⟨f,hL'⟩:=hs
  have hM:MSit S S.cb0 (.hd r) (S.n - (r+1)) f 0 anc0 a S.w0 := .hd X (fun b _ e=>by rcases hcls b with ⟨h,_⟩ | ⟨h,_⟩ | h | ⟨h,_⟩ <;> rw [h] at e <;> cases e) (hL' S.w0 hlive)
  rw [show S.n - (r+1)=0 by omega] at hM
  exact ⟨_,_,_,gs,S.w0,sl,S.cb0,0,_,q, .hd r,f,anc0,a,0,0,rfl,ha,by rw [hd]; exact hM,hC,hwg,hmode _ trivial Z (by simp),by simp,rfl,rfl,rfl⟩
end Tor.Co
end
section
namespace Tor.Co
open Go Go.Conc Go.RowKit
open Go.ConcN (WgLive sumTo upd sumTo_upd upd_ne upd_same)
open Go.ConcR (KK wgBlock WgAt stA smA rd wr mk DC0)
structure DD where
 n:Nat
 C:Nat
 eC:TypeId
 e9:TypeId
 e10:TypeId
 pv:Nat→Value × Value
 bx:Nat→Value × Value
structure Piece where
 c:Code
 z:Code
 good:DD→Act→World→Prop
 after:Act→Act→Prop
 grow : ∀ {d a w w₁},good d a w→Grow w w₁→good d a w₁
 pays : ∀ {d a w},good d a w→0<d.n → ∃ c,w.heap[d.C]? = some (.cells c d.eC (0,0))∧c.size=2*d.n
structure AfterW (d:DD) (w w':World):Prop where
 os:w'.os=w.os
 tape:w'.tape=w.tape
 output:w'.output=w.output
 size:w.heap.size≤w'.heap.size
 block : ∀ b,b<w.heap.size→(0<d.n→b≠d.C)→w'.heap[b]? = w.heap[b]?
 pay:0<d.n → ∃ c,w'.heap[d.C]? = some (.cells c d.eC (0,0))∧c.size=2*d.n ∧ ∀ i,i<d.n→c[2*i]? = some (d.pv i).1∧c[2*i+1]? = some (d.pv i).2
theorem AfterW.grow {d:DD} {w w₁ w':World} (hC:0<d.n→d.C<w.heap.size) (h:AfterW d w₁ w') (k:Grow w w₁):AfterW d w w' :=
 ⟨h.os.trans k.os,h.tape.trans k.tape,h.output.trans k.output,Nat.le_trans k.size h.size,fun b hb hne=>(h.block b (Nat.lt_of_lt_of_le hb k.size) hne).trans (k.block b hb),h.pay⟩
@[reducible] def pieceK (T:Piece):Kc where
 asks c z a w R:=c=T.c∧z=T.z ∧ ∃ d,T.good d a w ∧ ∀ a' w',T.after a a'→AfterW d w w'→R a' w'
 grow:=fun ⟨h1,h2,d,h3,h4⟩ k=>⟨h1,h2,d,T.grow h3 k,fun a' w' h5 h6=>h4 a' w' h5 (h6.grow (fun hn=>by obtain ⟨c,hc,_⟩:=T.pays h3 hn;exact (Array.getElem?_eq_some_iff.1 hc).1) k)⟩
inductive QuietTo (P:Program):Goroutine→Goroutine→Prop
 | refl {g} : QuietTo P g g
 | step {g g' g''} : g.status = .running → (∀ w, stepG P true g w = .go g' w #[]) → QuietTo P g' g'' → QuietTo P g g''
structure PieceOk (P:Program) (ty:TypeId) (T:Piece):Prop where
 sml : ∀ {d a w},T.good d a w→d.n<2147483648
 ok : ∀ {d a ĝ},T.good d a ĝ → ∀ (b:Frame) (k:List Item) (cs:List Frame),b.roundOf=none→b.kind ≠ .early → ∃ g1, ∃ g2:Nat→Goroutine,QuietTo P (G (b.atR a (.code T.c :: k)) cs) g1∧g1.status = .running ∧
  (∀ w,stepG P true g1 w = .go (g2 w.heap.size) (w.alloc (wgBlock ty 0 0)) #[]) ∧ ∀ Wg, ∃ child:Nat→Nat→Goroutine, ∃ Anch:Goroutine→Prop, ∀ S:Ses,S.P=P→S.ty=ty→S.Wg=Wg→S.n=d.n→(0<d.n→S.C=d.C)→S.eC=d.eC→S.e9=d.e9→S.e10=d.e10→S.pv=d.pv→S.bx=d.bx→S.child=child→S.Anch=Anch →
   S.Fin=(fun g => ∃ a',T.after a a'∧g=G (b.atR a' (.code T.z :: k)) cs) →
   (∀ gg,Sees S gg → ∀ b' c e f,c ≠ #[] → ĝ.heap[b']? = some (.cells c e f)→(0<d.n→b'≠d.C)→gg.heap[b']? = some (.cells c e (0,c.size))) →
   Scr S S.n (g2 Wg)∧ChildOk S∧(∀ g,Anch g→g.status = .running∧LGo P true ty Wg (W1 P ty Wg S.Fin Anch) g)
structure BI (P:Program) (F₀:Nat→Prop) (W:World) (g:Goroutine) (ĝ₀:World) (gs:Array Goroutine) (w:World) (t:Trace) (q:Nat→Nat) (Shun:Loc→Prop) (F:Nat→Prop) (ĝ : World):Prop where
 main:gs[0]? = some g
 leave:Leavers P t gs q
 past:Past Shun w.heap.size t
 grow:Grow ĝ₀ ĝ
 msk:Msk F (fun _=>False) ĝ w
 lt : ∀ b,F b→b<w.heap.size
 shun : ∀ l,Shun l → ∃ b,onB l b∧F b
 keep : ∀ b,F₀ b→w.heap[b]? = W.heap[b]?
 sub : ∀ b,F₀ b→F b
 sup : ∀ b,b<W.heap.size→F b→F₀ b
 wsz:W.heap.size≤w.heap.size
def EndP (P:Program) (F₀:Nat→Prop) (W:World) (R:Value→World→Prop) (v:Value) (w':World):Prop := ∃ ĝ F,R v ĝ ∧ Msk F (fun _=>False) ĝ w'∧(∀ b,F₀ b→w'.heap[b]? = W.heap[b]?)∧(∀ b,b<W.heap.size→F b→F₀ b)
def AtRet (P:Program) (R:Value→World→Prop) (g:Goroutine) (ĝ : World):Prop :=
 ∃ (b:Frame) (fn:Func) (ts:Array Value) (todo:List Item),g=G { b.atR { tmps:=ts,defers := [] } todo with mode := .returning } []∧b.kind = .normal∧P.funcs[b.fn]? = some fn∧P.inits.idxOf? b.fn=none ∧ ∃ v,(results fn ts).run P ĝ = .ok v ĝ ∧ R v ĝ
abbrev Ends (P:Program) (m:Machine) (t:Trace) (Post:Value→World→Prop):Prop := ∃ N last o w' t',runNT P (N+1) m t=(.ended o w',t')∧runN P N m = .next last∧step P last = .ended o w'∧Go.Conc.Good P Post last o w' t'
theorem Ends.from {P:Program} {m m':Machine} {t t':Trace} {Post:Value→World→Prop} {N:Nat} (h:runNT P N m t=(.next m',t')) (k:Ends P m' t' Post):Ends P m t Post:=by
 obtain ⟨M,last,o,w',t'',h1,h2,h3,h4⟩:=k
 refine ⟨N+M,last,o,w',t'',?_,?_,h3,h4⟩
 ·rw [Nat.add_assoc,runNT_add,h]; exact h1
 ·rw [runN_add, ← runNT_fst P _ _ t,h]; exact h2
theorem evL_of {F:Nat→Prop} {Shun:Loc→Prop} {B:Nat} {e:Event} (hs : ∀ l,Shun l → ∃ b,onB l b∧F b) (h:EvOk F (fun _=>False) B e):EvL Shun B e:=by
 obtain ⟨h1,h2,h3,_⟩:=evOk_low h
 refine ⟨fun x hx hsh => ?_,h2,h3,h1⟩
 obtain ⟨l,wt,sy⟩:=e
 rcases h with h | ⟨_,b,hb,hF,_,_⟩
 ·simp only at h
  subst h
  cases hx
 ·exfalso
  obtain ⟨b',hb',hF'⟩:=hs _ hsh
  have hxl:x.loc=l:=by
   simp only at hb
   rcases hb with ⟨a,rfl,_⟩ | rfl
   ·have:(MemAct.ofEvent ⟨.cell a,wt,sy⟩).touch? = some ⟨.cell a,wt,if sy then .atomic else .plain⟩:=rfl
    rw [this] at hx;cases hx;rfl
   ·cases wt <;> cases sy <;> simp [MemAct.ofEvent,MemAct.touch?] at hx <;> rw [← hx]
  rw [hxl] at hb'
  simp only at hb
  have:b=b':=by
   rcases hb with ⟨a,rfl,rfl⟩ | rfl <;> rcases hb' with ⟨a',e1,rfl⟩ | e1 <;> cases e1 <;> rfl
  exact hF (this▸hF')
theorem Mine.keepF {F:Nat→Prop} {w w':World} (h:Mine F (fun _=>False) w w') {b:Nat} (hb:b<w.heap.size) (hF:F b):w'.heap[b]? = w.heap[b]? := h.block b hb (.inl hF)
section
variable {P:Program} {F₀:Nat→Prop} {W:World} {g:Goroutine} {ĝ₀:World} {gs:Array Goroutine} {w:World} {sl:Option (Nat × Nat)} {t:Trace} {q:Nat→Nat} {Shun:Loc→Prop} {F:Nat→Prop} {ĝ : World} {R:Value→World→Prop}
theorem BI.awake (h:BI P F₀ W g ĝ₀ gs w t q Shun F ĝ) (hr:g.status = .running) : ∀ x∈gs,awake x:=by
 intro x hx
 obtain ⟨i,hi⟩:=Array.mem_iff_getElem?.1 hx
 rcases Nat.eq_zero_or_pos i with rfl | h0
 ·rw [h.main] at hi;cases hi;exact awake_of (.inl hr)
 ·exact awake_of ((h.leave.old i x h0 hi).status.elim .inl fun x => .inr (.inr x))
theorem Msk.at {BU:Nat→Prop} (h:Msk F BU ĝ w) (d:Nat):Msk F BU (ĝ.at d) (w.at d):=⟨h.size,h.os,h.tape,rfl,h.output,h.fg,h.fz,h.sm⟩
theorem BI.at (h:BI P F₀ W g ĝ₀ gs w t q Shun F ĝ) (d:Nat):BI P F₀ W g ĝ₀ gs (w.at d) t q Shun F (ĝ.at d) :=
 ⟨h.main,h.leave,h.past,h.grow.trans ⟨rfl,rfl,rfl,Nat.le_refl _,fun _ _=>rfl⟩,h.msk.at d,h.lt,h.shun,h.keep,h.sub,h.sup,h.wsz⟩
theorem BI.slip (h:BI P F₀ W g ĝ₀ gs w t q Shun F ĝ) (hr:g.status = .running) {i:Nat} {x:Goroutine} (h0:0<i) (hx:gs[i]? = some x) (hxr:x.status = .running) :
  ∃ gs' t' q',runT P (crowd gs w sl) i=(.next (crowd gs' w sl),t')∧BI P F₀ W g ĝ₀ gs' w (t ++ t') q' Shun F ĝ ∧ sumTo gs'.size q'<sumTo gs.size q:=by
 have hq:=h.leave.old i x h0 hx
 have hi0:(i == 0)=false:=by simp;omega
 have hlt:i<gs.size:=(Array.getElem?_eq_some_iff.1 hx).1
 cases hqi:q i with
 | zero => rw [hqi] at hq; rw [hq.1] at hxr; cases hxr
 | succ k =>
  rw [hqi] at hq
  rcases hq with ⟨hf,_⟩ | ⟨_,g',es,hm,hgo,hq'⟩
  ·rw [hf] at hxr;cases hxr
  have hrunT:=runT_crowd_go (P:=P) (sl:=sl) (i:=i) hx (by rw [hi0]; exact hgo w)
  have hsum:sumTo gs.size (ConcN.upd q i k)+(k+1)=sumTo gs.size q+k:=by
   have:=sumTo_upd q k id hlt
   simpa [hqi] using this
  refine ⟨_,_,ConcN.upd q i k,hrunT,⟨?_,⟨fun j y hj hy => ?_,fun j hj => ?_⟩,h.past.mute X hm,h.grow,h.msk,h.lt,h.shun,h.keep,h.sub,h.sup,h.wsz⟩,by simp;omega⟩
  ·rw [Array.getElem?_setIfInBounds_ne X,Array.getElem?_map,h.main]
   simp [woken_run hr]
  ·by_cases hji:i=j
   ·subst hji
    rw [Array.getElem?_setIfInBounds_self_of_lt (by simpa using hlt)] at hy
    cases hy
    rw [upd_same,Deaf_own]
    exact hq'
   ·rw [Array.getElem?_setIfInBounds_ne hji,Array.getElem?_map] at hy
    obtain ⟨z,hz,rfl⟩:=Option.map_eq_some_iff.1 hy
    have hqj:=h.leave.old j z hj hz
    rw [woken_quitsD hqj,upd_ne q k (Ne.symm hji),Deaf_other t hji _ (fun op hop=>by obtain ⟨e,_,rfl⟩:=mem_ofEvents hop;rfl)]
    exact hqj
  ·rw [Deaf_other t (g':=i) (by simp at hj;omega) _ (fun op hop=>by obtain ⟨e,_,rfl⟩:=mem_ofEvents hop;rfl)]
   exact h.leave.above j (by simpa using hj)
theorem BI.step (h:BI P F₀ W g ĝ₀ gs w t q Shun F ĝ) {g':Goroutine} {ĝ' w':World} {es:Array Event} (hgo:stepG P true g w = .go g' w' es) (hm:Msk F (fun _=>False) ĝ' w') (hmi:Mine F (fun _=>False) w w') (hev : ∀ e∈es,EvOk F (fun _=>False) w'.heap.size e) :
  ∃ gs' t',runT P (crowd gs w sl) 0=(.next (crowd gs' w' sl),t')∧BI P F₀ W g' ĝ' gs' w' (t ++ t') q Shun F ĝ'∧gs'.size=gs.size:=by
 have hrunT:=runT_crowd_go (P:=P) (sl:=sl) (i:=0) h.main (show stepG P (0 == 0) g w=_ from hgo)
 have hlt:0<gs.size:=(Array.getElem?_eq_some_iff.1 h.main).1
 refine ⟨_,_,hrunT,⟨by simp [hlt],⟨fun j x hj hx => ?_,fun j hj => ?_⟩,(h.past.mono hmi.size).own (fun e he=>evL_of h.shun (hev e he)),Grow.refl _,hm,fun b hb=>Nat.lt_of_lt_of_le (h.lt b hb) hmi.size,h.shun,fun b hb => ?_,h.sub,h.sup,Nat.le_trans h.wsz hmi.size⟩,by simp⟩
 ·have hne:0≠j:=by omega
  rw [Array.getElem?_setIfInBounds_ne hne,Array.getElem?_map] at hx
  obtain ⟨y,hy,rfl⟩:=Option.map_eq_some_iff.1 hx
  have hq:=h.leave.old j y hj hy
  rw [woken_quitsD hq,Deaf_other t X _ (fun op hop=>by obtain ⟨e,_,rfl⟩:=mem_ofEvents hop;rfl)]
  exact hq
 ·rw [Deaf_other t (g':=0) (by simp at hj;omega) _ (fun op hop=>by obtain ⟨e,_,rfl⟩:=mem_ofEvents hop;rfl)]
  exact h.leave.above j (by simpa using hj)
 ·rw [hmi.keepF (h.lt b (h.sub b hb)) (h.sub b hb)]; exact h.keep b hb
theorem BI.ends (h:BI P F₀ W g ĝ₀ gs w t q Shun F ĝ) (hs : ∀ w₁,Grow ĝ₀ w₁→AtRet P R g w₁):Ends P (crowd gs w sl) t (EndP P F₀ W R):=by
 obtain ⟨M,hM⟩ : ∃ M,sumTo gs.size q≤M:=⟨_,Nat.le_refl _⟩
 induction M generalizing gs w t q ĝ sl with
 | zero | succ M ih =>
  have hr:g.status = .running:=by obtain ⟨b,fn,ts,todo,rfl,_⟩:=hs _ h.grow;rfl
  obtain ⟨i,x,d,sl',hi,hx,hst⟩:=crowd_pick (P:=P) (w:=w) (sl:=sl) (h.awake hr) ⟨0,g,h.main,hr⟩
  have h':=h.at d
  rcases Nat.eq_zero_or_pos i with rfl | hpos
  ·rw [h.main] at hi;cases hi
   obtain ⟨b,fn,ts,todo,rfl,hk,hf,hin,v,hrun,hR⟩:=hs _ h'.grow
   obtain ⟨w',r1,r2,r3,r4⟩:=frame P (pl_results fn ts) h'.msk (fun b hb=>h'.lt b (hb.resolve_right id)) (show (results fn ts).runT P (ĝ.at d) #[]=(.ok v (ĝ.at d),(results fn ts).events P (ĝ.at d) #[]) by rw [Sem.runT_eq,hrun])
   have hend:stepG P true (G { b.atR { tmps:=ts,defers := [] } todo with mode := .returning } []) (w.at d) = .ended (.done v) w' (seen P b.fn ((results fn ts).events P (ĝ.at d) #[])):=by
    rw [Sem.runT_eq] at r1
    have e1:(results fn ts).run P (w.at d) = .ok v w':=(Prod.mk.inj r1).1
    have e2:(results fn ts).events P (w.at d) #[]=(results fn ts).events P (ĝ.at d) #[]:=(Prod.mk.inj r1).2
    simp [G,stepG,unwind,doReturn,Frame.atR,hk,hf,e1,e2,hin,GStep.after]
   have hes : ∀ e∈seen P b.fn ((results fn ts).events P (ĝ.at d) #[]),EvL Shun w'.heap.size e:=fun e he=>evL_of h.shun ((r4 e (mem_seen he)).resolve_left (by simp))
   have hrunT:=runT_many_ended (P:=P) (sl:=sl') (i:=0) h.main (show stepG P (0 == 0) _ (w.at d)=_ from hend)
   have hP':=(h'.past.mono r3.size).own (fn:=(G { b.atR { tmps:=ts,defers := [] } todo with mode := .returning } []).frame.fn) (pos:=(G { b.atR { tmps:=ts,defers := [] } todo with mode := .returning } []).frame.place) hes
   refine ⟨0,_,_,_,_,by simp only [runNT,hst,hrunT],rfl,by simp only [Go.step,hst,hrunT],v,rfl,⟨ĝ.at d,F,hR,r2,fun b hb => ?_,h.sup⟩,hP'.clean,hP'.over,⟨fun x hx => ?_,rfl⟩,fun j x hx hj => ?_⟩
   ·rw [r3.keepF (h'.lt b (h.sub b hb)) (h.sub b hb)]; exact h.keep b hb
   ·obtain ⟨j,hj⟩:=List.mem_iff_getElem?.1 hx
    rw [List.getElem?_drop] at hj
    exact ⟨_,(h.leave.old (1+j) x X (by simpa [crowd] using hj)).leaves⟩
   ·have hq:=h.leave.old j x X hx
    refine ⟨q j,?_⟩
    have e:(t ++ MemOp.ofEvents 0 (G { b.atR { tmps:=ts,defers := [] } todo with mode := .returning } []).frame.fn (G { b.atR { tmps:=ts,defers := [] } todo with mode := .returning } []).frame.place (seen P b.fn ((results fn ts).events P (ĝ.at d) #[]))).deaf j _=Deaf t j :=
     Deaf_other t (g:=j) (g':=0) X _ (fun op hop=>by obtain ⟨e,_,rfl⟩:=mem_ofEvents hop;rfl)
    rw [e]
    exact hq.hears _
  ·obtain ⟨gs',t',q',h1,h2,h3⟩:=h'.slip (sl:=sl') hr hpos hi hx
   first
    | exact absurd h3 X
    | exact Ends.from (N := 1) (by simp only [runNT, hst, h1]) (ih (sl := sl') h2 X)
end
end Tor.Co
end
section
namespace Tor.Co
open Go Go.Conc Go.RowKit
open Go.ConcN (WgLive sumTo upd sumTo_upd upd_ne upd_same)
open Go.ConcR (KK wgBlock WgAt stA smA rd wr mk DC0)
section
variable {P:Program} {ty:TypeId} {T:Piece} {F₀:Nat→Prop} {W:World} {g:Goroutine} {ĝ₀:World} {gs:Array Goroutine} {w:World} {sl:Option (Nat × Nat)} {t:Trace} {q:Nat→Nat} {Shun:Loc→Prop} {F:Nat→Prop} {ĝ : World} {R:Value→World→Prop}
theorem QuietTo.goes {g1:Goroutine} {g2:Nat→Goroutine} (h:QuietTo P g g1) (hr:g1.status = .running) (ha : ∀ w,stepG P true g1 w = .go (g2 w.heap.size) (w.alloc (wgBlock ty 0 0)) #[]) :
  ∃ n, ∀ w,Goes P true AtRel (fun _ _ es=>es = #[]) (fun g' w'=>g'=g2 w.heap.size ∧ ∃ dr,w'=(w.alloc (wgBlock ty 0 0)).at dr) n g w:=by
 induction h with
 | refl =>
  refine ⟨1,fun w=>Goes.step hr fun w₁ ⟨d,hd⟩ => ?_⟩
  rw [ha w₁]
  subst hd
  refine ⟨rfl,fun w₂ ⟨d₂,hd₂⟩=>⟨rfl,d₂,?_⟩⟩
  subst hd₂; rfl
 | step hr' hs _ ih =>
  obtain ⟨n,hn⟩:=ih hr ha
  refine ⟨n+1,fun w=>Goes.step hr' fun w₁ ⟨d,hd⟩ => ?_⟩
  rw [hs w₁]
  exact ⟨rfl,Goes.rely atRel_trans (hn w) ⟨d,hd⟩⟩
theorem ask_run (hT:PieceOk P ty T) {b:Frame} {a:Act} {k:List Item} {cs:List Frame} {d:DD} (h:BI P F₀ W (G (b.atR a (.code T.c :: k)) cs) ĝ₀ gs w t q Shun F ĝ) (hb:b.roundOf=none) (hk:b.kind ≠ .early) (hg:T.good d a ĝ) :
  ∃ N gs' w' sl' t' q' Shun' F' ĝ' a',runNT P N (crowd gs w sl) t=(.next (crowd gs' w' sl'),t')∧T.after a a'∧AfterW d ĝ ĝ'∧BI P F₀ W (G (b.atR a' (.code T.z :: k)) cs) ĝ' gs' w' t' q' Shun' F' ĝ':=by
 classical
 obtain ⟨g1,g2,hq,hr1,hal,hok⟩:=hT.ok hg b k cs hb hk
 obtain ⟨n,hgo⟩:=hq.goes (ty:=ty) hr1 hal
 obtain ⟨N1,gs1,a1,w1,sl1,t1,q1,hrun1,hsz1,hm1,⟨rfl,dr,hw1⟩,hL1,hP1⟩:=walk_beside (B:=w.heap.size) (Shun:=Shun) (fun _ _ es hes e he=>by rw [hes] at he;simp at he) _ n gs _ w sl t q (Nat.le_refl _) h.main h.leave h.past (hgo w)
 obtain ⟨Wg,hWg⟩ : ∃ Wg,Wg=w.heap.size:=⟨_,rfl⟩
 rw [← hWg] at hm1 hP1
 obtain ⟨child,Anch,hok⟩:=hok Wg
 have hgs : ĝ.heap.size=Wg:=h.msk.size.trans hWg.symm
 have hw1s:w1.heap.size=Wg+1:=by rw [hw1,hWg]; exact World.size_alloc _ _
 have hw1o : ∀ x,x<Wg→w1.heap[x]? = w.heap[x]? := fun x hx=>by rw [hw1]; exact Below.heap_alloc w _ x X
 have hw1n:w1.heap[Wg]? = some (wgBlock ty 0 0):=by rw [hw1,hWg]; exact World.alloc_heap_new w _
 have hpay:=T.pays hg
 have hCl:0<d.n→d.C<Wg ∧ ¬ F d.C:=fun hn=>by
  obtain ⟨c,h1,h2⟩:=hpay hn
  refine ⟨by rw [← hgs]; exact (Array.getElem?_eq_some_iff.1 h1).1,fun hF => ?_⟩
  have:=h.msk.fg d.C (h.lt _ hF) hF
  rw [this] at h1
  simp only [dum,Option.some.injEq,Obj.cells.injEq] at h1
  obtain ⟨rfl,_⟩:=h1
  simp at h2
  omega
 obtain ⟨S,hS⟩ : ∃ S:Ses,S = { P:=P,ty:=ty,Wg:=Wg,C:=if d.n=0 then Wg else d.C,K:=gs1.size,n:=d.n,eC:=d.eC,e9:=d.e9,e10:=d.e10,pv:=d.pv,bx:=d.bx,cb0:=fun x=>if x=Wg then .sync else if 0<d.n∧x=d.C then .cells else if x<Wg ∧ ¬ F x∧(∃ c e f,w.heap[x]? = some (.cells c e f)) then .shared gs1.size else .dead,w0:=w1,t0:=t1,child:=child,Fin:=fun g => ∃ a',T.after a a'∧g=G (b.atR a' (.code T.z :: k)) cs,Anch:=Anch } := ⟨_,rfl⟩
 have eP:S.P=P:=by rw [hS]
 have ety:S.ty=ty:=by rw [hS]
 have eWg:S.Wg=Wg:=by rw [hS]
 have eK:S.K=gs1.size:=by rw [hS]
 have en:S.n=d.n:=by rw [hS]
 have ew:S.w0=w1:=by rw [hS]
 have et:S.t0=t1:=by rw [hS]
 have eC0:S.C=if d.n=0 then Wg else d.C:=by rw [hS]
 have eC:0<d.n→S.C=d.C:=fun hn=>by rw [eC0,if_neg X]
 have eec:S.eC=d.eC:=by rw [hS]
 have epv:S.pv=d.pv:=by rw [hS]
 have eF:S.Fin=fun g => ∃ a',T.after a a'∧g=G (b.atR a' (.code T.z :: k)) cs:=by rw [hS]
 have ecb : ∀ x,S.cb0 x=if x=Wg then .sync else if 0<d.n∧x=d.C then .cells else if x<Wg ∧ ¬ F x∧(∃ c e f,w.heap[x]? = some (.cells c e f)) then .shared gs1.size else .dead:=fun x=>by rw [hS]
 have hvis : ∀ gg,Sees S gg → ∀ b' c e f,c ≠ #[] → ĝ.heap[b']? = some (.cells c e f)→(0<d.n→b'≠d.C)→gg.heap[b']? = some (.cells c e (0,c.size)):=fun gg hsee b' c e f hc hb' hne=>by
  have hlt:b'<Wg:=by rw [← hgs]; exact (Array.getElem?_eq_some_iff.1 hb').1
  have hF : ¬ F b':=fun hF=>by
   rw [h.msk.fg b' (h.lt _ hF) hF] at hb'
   simp only [dum,Option.some.injEq,Obj.cells.injEq] at hb'
   exact hc hb'.1.symm
  obtain ⟨o,h1,h2,_⟩:=h.msk.sm b' X hF id
  rw [hb'] at h2;cases h2
  refine hsee b' c e f X (fun e => ?_) ?_ (by rw [ew,hw1o b' hlt]; exact h1)
  ·rw [eC0] at e
   split at e
   ·omega
   ·exact hne X e
  ·rw [ecb,if_neg X,if_neg (fun x=>hne x.1 x.2),if_pos ⟨hlt,hF,c,e,f,h1⟩,eK]
 obtain ⟨hscr,hch,hAn⟩:=hok S eP ety eWg en eC eec (by rw [hS]) (by rw [hS]) epv (by rw [hS]) (by rw [hS]) (by rw [hS]) eF hvis
 have hkk:0<gs1.size:=(Array.getElem?_eq_some_iff.1 hm1).1
 have hcbC : ∀ x,x≠S.Wg→(0<S.n→x≠S.C)→S.cb0 x = .dead∨(S.cb0 x = .shared S.K∧x<S.Wg∧(∃ c e f,S.w0.heap[x]? = some (.cells c e f)) ∧ ∀ l,onB l x → ¬ Shun l):=fun x h1 h2=>by
  rw [eWg] at h1
  rw [en] at h2
  rw [ecb,if_neg h1,if_neg (fun y=>h2 y.1 (by rw [eC y.1]; exact y.2))]
  by_cases hx:x<Wg ∧ ¬ F x∧(∃ c e f,w.heap[x]? = some (.cells c e f))
  ·rw [if_pos hx,eK,eWg,ew,hw1o x hx.1]
   refine .inr ⟨rfl,hx.1,hx.2.2,fun l hl hsh => ?_⟩
   obtain ⟨b',hb',hF⟩:=h.shun l hsh
   have:x=b':=by
    rcases hl with ⟨a,rfl,rfl⟩ | rfl <;> rcases hb' with ⟨a',e1,rfl⟩ | e1 <;> cases e1 <;> rfl
   exact hx.2.1 (this▸hF)
  ·rw [if_neg hx]; exact .inl Z
 obtain ⟨rr,xx,ff,hInv⟩:=ses_start (S:=S) (Shun:=Shun) (gs:=gs1) (sl:=sl1) (a:=g2 Wg) (q:=q1) eK.symm hm1 (by rw [eP,et]; exact hL1) (by rw [eWg,et]; exact hP1) (by rw [ew,eWg]; exact hw1s) (by rw [ew,ety,eWg]; exact hw1n) hscr
  (by rw [ecb,eWg,if_pos Z]) (fun hn=>by
   rw [en] at hn
   refine ⟨?_,by rw [eC hn,eWg]; exact (hCl hn).1⟩
   rw [ecb,eC hn,if_neg (by have:=(hCl hn).1;omega),if_pos ⟨hn,rfl⟩]) (fun hn=>by rw [eC0,eWg,if_pos (en▸hn)])
  hcbC (fun hn l hl hsh=>by
   rw [en] at hn
   obtain ⟨b',hb',hF⟩:=h.shun l hsh
   rw [eC hn] at hl
   have:d.C=b':=by
    rcases hl with ⟨a,e0,e2⟩ | e0 <;> rcases hb' with ⟨a',e1,e3⟩ | e1 <;> rw [e0] at e1 <;> cases e1
    ·exact e2.symm.trans e3
    ·rfl
   exact (hCl hn).2 (this▸hF)) (fun hn=>by
   rw [en] at hn
   obtain ⟨c,h1,h2⟩:=hpay hn
   obtain ⟨o,h3,h4,_⟩:=h.msk.sm d.C (by have:=(hCl hn).1;omega) (hCl hn).2 id
   rw [h1] at h4;cases h4
   exact ⟨c,by rw [ew,eC hn,eec,hw1o _ (hCl hn).1]; exact h3,by rw [en]; exact h2⟩)
 have hR:Runs S:=⟨fun g hF=>by rw [eF] at hF;obtain ⟨a',_,rfl⟩:=hF;rfl,fun g hA=>(hAn g ((show S.Anch=Anch by rw [hS])▸hA)).1⟩
 obtain ⟨N2,m2,t2,hrun2,hfin⟩:=ses_runs hR (by rw [en]; exact hT.sml hg) (fun g hA=>by
  have e1:S.Anch=Anch:=by rw [hS]
  have:=(hAn g (e1▸hA)).2
  rw [eP,ety,eWg,e1]; exact this) hch hInv
 obtain ⟨gs2,w2,sl2,a2,q2,rfl,hJ⟩:=hfin.joined (Shun:=Shun) (B0:=S.Wg) (by rw [eWg,et]; exact hP1)
 have hfin2:=hJ.fin
 rw [eF] at hfin2
 obtain ⟨a',haft,rfl⟩:=hfin2
 have hlt2:=hJ.lt
 have hst:=hJ.stand
 have hp2:=hJ.pay
 have henv:=hJ.env
 have hL2:=hJ.leave
 have hP2:=hJ.past
 rw [eWg] at hlt2 hst hP2
 rw [ew] at hst henv
 rw [en] at hp2
 rw [eP] at hL2 hrun2
 rw [ew,et] at hrun2
 have hst2 : ∀ x,x<Wg→(0<d.n→x≠d.C)→w2.heap[x]? = w.heap[x]? := fun x hx hne=>by
  rw [hst x hx (fun e => ?_),hw1o x hx]
  rw [eC0] at e
  split at e
  ·omega
  ·exact hne X e
 obtain ⟨H0,hH0,hH1,hH2⟩ : ∃ H0:Array Obj,H0.size=Wg∧(∀ x,x<Wg→(0<d.n→x≠d.C)→H0[x]? = ĝ.heap[x]?)∧(0<d.n→H0[d.C]? = w2.heap[d.C]?):=by
  by_cases hn:0<d.n
  ·obtain ⟨c,h1,_⟩:=hp2 hn
   rw [eC hn] at h1
   refine ⟨ĝ.heap.setIfInBounds d.C (.cells c S.eC (0,0)),by simp [hgs],fun x hx hne=>Array.getElem?_setIfInBounds_ne fun e=>hne hn e.symm,fun _ => ?_⟩
   rw [Array.getElem?_setIfInBounds_self_of_lt (by rw [hgs]; exact (hCl hn).1),h1]
  ·exact ⟨ĝ.heap,hgs,fun _ _ _=>rfl,fun h=>absurd h hn⟩
 let ĝ':World := { w2 with heap:=H0 ++ Array.replicate (w2.heap.size - Wg) dum }
 have go : ∀ x,x<Wg → ĝ'.heap[x]? = H0[x]? := fun x hx=>by
  show (H0 ++ _)[x]? = _
  rw [Array.getElem?_append_left X]
 have gn : ∀ x,Wg≤x→x<w2.heap.size → ĝ'.heap[x]? = some dum:=fun x h1 h2=>by
  show (H0 ++ _)[x]? = _
  rw [Array.getElem?_append_right X,Array.getElem?_replicate,if_pos X]
 have hFC : ∀ x,F x→0<d.n→x≠d.C:=fun x hF hn e=>(hCl hn).2 (e▸hF)
 have hFl : ∀ x,F x→x<Wg:=fun x hF=>by rw [hWg]; exact h.lt x hF
 have hmsk:Msk (fun x=>F x∨(Wg≤x∧x<w2.heap.size)) (fun _=>False) ĝ' w2:=by
  refine ⟨?_,rfl,rfl,rfl,rfl,fun x hx hF => ?_,fun x _ hV=>hV.elim,fun x hx hF _ => ?_⟩
  ·show (H0 ++ _).size=_
   simp;omega
  ·rcases hF with hF | hF
   ·rw [go x (hFl x hF),hH1 x (hFl x hF) (hFC x hF)]; exact h.msk.fg x (h.lt x hF) hF
   ·exact gn x hF.1 hF.2
  ·have hlt:x<Wg:=Nat.lt_of_not_le fun hle=>hF (.inr ⟨hle,hx⟩)
   have hFx : ¬ F x:=fun y=>hF (.inl y)
   by_cases hxC:0<d.n∧x=d.C
   ·obtain ⟨hn,rfl⟩:=hxC
    obtain ⟨c,h1,_⟩:=hp2 hn
    rw [eC hn] at h1
    exact ⟨_,h1,by rw [go _ hlt,hH2 hn]; exact h1,rfl⟩
   ·have hne:0<d.n→x≠d.C:=fun hn e=>hxC ⟨hn,e⟩
    obtain ⟨o,h1,h2,h3⟩:=h.msk.sm x X hFx id
    exact ⟨o,by rw [hst2 x hlt hne]; exact h1,by rw [go x hlt,hH1 x hlt hne]; exact h2,h3⟩
 refine ⟨N1+N2,gs2,w2,sl2,t2,q2,_,_, ĝ',a',by rw [runNT_add,hrun1]; exact hrun2,haft,⟨?_,?_,?_,?_,fun x hx hne => ?_,fun hn => ?_⟩,⟨hJ.main,hL2,hP2,Grow.refl _,hmsk,fun x hF => ?_,fun l hl => ?_,fun x hx => ?_,fun x hx => .inl (h.sub x hx),fun x hx hF => ?_,?_⟩⟩
 ·exact henv.1.trans ((by rw [hw1]; rfl:w1.os=w.os).trans h.msk.os.symm)
 ·exact henv.2.1.trans ((by rw [hw1]; rfl:w1.tape=w.tape).trans h.msk.tape.symm)
 ·exact henv.2.2.trans ((by rw [hw1]; rfl:w1.output=w.output).trans h.msk.output.symm)
 ·rw [hgs]; show Wg≤(H0 ++ _).size;simp;omega
 ·rw [hgs] at hx
  rw [go x hx,hH1 x hx hne]
 ·obtain ⟨c,h1,h2,h3⟩:=hp2 hn
  rw [eC hn,eec] at h1
  rw [epv] at h3
  exact ⟨c,by rw [go _ (hCl hn).1,hH2 hn]; exact h1,h2,h3⟩
 ·rcases hF with hF | hF
  ·have:=hFl x hF;omega
  ·exact hF.2
 ·rcases hl with hl | ⟨a,rfl,ha⟩
  ·obtain ⟨b',h1,h2⟩:=h.shun l hl;exact ⟨b',h1, .inl h2⟩
  ·exact ⟨a.block, .inl ⟨a,rfl,rfl⟩, .inr X⟩
 ·have hF:=h.sub x hx
  rw [hst2 x (hFl x hF) (hFC x hF)]; exact h.keep x hx
 ·rcases hF with hF | hF
  ·exact h.sup x hx hF
  ·have:=h.wsz;omega
 ·have:=h.wsz;omega
theorem law_runs (hT:PieceOk P ty T) (h : @GoI (pieceK T) P true (AtRet P R) g ĝ₀) : ∀ {gs:Array Goroutine} {w:World} {sl:Option (Nat × Nat)} {t:Trace} {q:Nat→Nat} {Shun:Loc→Prop} {F:Nat→Prop} {ĝ : World},
  BI P F₀ W g ĝ₀ gs w t q Shun F ĝ → Ends P (crowd gs w sl) t (EndP P F₀ W R):=by
 induction h with
 | stop h => exact fun hB => hB.ends h
 | @step g ĝ₀ hr h1 h2 ih =>
  intro gs w sl t q Shun F ĝ hB
  obtain ⟨M,hM⟩ : ∃ M,sumTo gs.size q≤M:=⟨_,Nat.le_refl _⟩
  induction M generalizing gs w t q ĝ sl with
  | zero | succ M ihM =>
   obtain ⟨i,x,d,sl',hi,hx,hst⟩:=crowd_pick (P:=P) (w:=w) (sl:=sl) (hB.awake hr) ⟨0,g,hB.main,hr⟩
   have hB':=hB.at d
   rcases Nat.eq_zero_or_pos i with rfl | hpos
   ·obtain ⟨g', ĝ',es,e1,hf⟩:=h1 _ hB'.grow
    obtain ⟨w',es',e2,hm,hmi,hev⟩:=hf F (fun _=>False) _ hB'.msk (fun b hb=>hB'.lt b (hb.resolve_right id))
    obtain ⟨gs',t',e3,hB'',_⟩:=hB'.step (sl:=sl') e2 hm hmi hev
    exact Ends.from (N:=1) (by simp only [runNT,hst,e3]) (ih _ _ _ _ hB'.grow e1 (sl:=sl') hB'')
   ·obtain ⟨gs',t',q',e1,e2,e3⟩:=hB'.slip (sl:=sl') hr hpos hi hx
    first
     | exact absurd e3 X
     | exact Ends.from (N := 1) (by simp only [runNT, hst, e1]) (ihM (sl := sl') e2 X)
 | @ask b a k cs w₀ c z R' hb hk hasks _ ih =>
  intro gs w sl t q Shun F ĝ hB
  obtain ⟨rfl,rfl,d,hg,hR'⟩:=hasks
  obtain ⟨N,gs',w',sl',t',q',Shun',F', ĝ',a',e1,e2,e3,hB'⟩:=ask_run (sl:=sl) hT hB hb hk (T.grow hg hB.grow)
  have hC:0<d.n→d.C<w₀.heap.size:=fun hn=>by obtain ⟨c,hc,_⟩:=T.pays hg hn;exact (Array.getElem?_eq_some_iff.1 hc).1
  exact Ends.from e1 (ih a' ĝ' (hR' a' ĝ' e2 (e3.grow hC hB.grow)) (sl:=sl') hB')
end
end Tor.Co
end
section
namespace Tor.Co
open Go Go.Conc Go.ConcN Go.RowKit Go.Conc.Lib Go.ConcR.Gen Go.ConcN.Gen
open Go.ConcR (KK wgBlock WgAt stA smA rd wr mk DC0)
set_option maxRecDepth 100000 in
theorem addPos {P:Program} {L:WgLink} (H:WgLib P L) {Wg:Nat} {b₀:Frame} {a₀:Act} {ops₀:Array Oper} {i₀:Nat} {rest₀:List Nat} {k₀:List Item} {cs:List Frame} {Ret:Goroutine→Prop}
  (hT:LGo P true L.tWg Wg Ret (G (b₀.at (a₀.put ((ops₀[i₀]?).bind (·.dst)) (.tuple #[])) (.inRegion ops₀ rest₀ :: k₀)) cs)) :
  LGo P true L.tWg Wg (KdA P L.tWg Wg Ret) (G ((base L.add).at { tmps := #[.pointer (some ⟨Wg,0,none⟩), .int .i64 1] ++ Array.replicate 115 undef,defers := [] } [.code (body_add L)]) (b₀.at a₀ (.inRegion ops₀ (i₀ :: rest₀) :: k₀) :: cs)):=by
 obtain ⟨mT,hT⟩:=hT
 refine ⟨50,fun w hK => ?_⟩
 unfold Lg
 lib_facts
 simp only [body_add,addFn,Option.getD_some]
 walk_nrm
 u_c stepG_seq rl hK
 u_cond true rl hK
 u_c stepG_seq rl hK
 u_c stepG_seq rl hK
 u_reg rl hK
 u_op rl hK
 u_op rl hK
 u_c stepG_region_end rl hK
 u_cond false rl hK
 u_c stepG_skip rl hK
 u_c stepG_seq rl hK
 u_reg rl hK
 refine Goes.stop (fun w₁ h₁ => ?_)
 clear h₁ hK
 refine ⟨rfl,_,fun w=>stepG_mark0 .disable (by simp) Z Z (by k_ne) Z H.f_disable (x_disable_n L) (x_disable_b L) (x_disable_x L) (x_disable_f L),50,fun w hK => ?_⟩
 unfold Lg
 walk_nrm
 u_c stepG_region_end rl hK
 u_reg rl hK
 u_defer rl hK
 u_c stepG_region_end rl hK
 u_c stepG_seq rl hK
 u_reg rl hK
 u_op rl hK
 u_c stepG_region_end rl hK
 u_c stepG_seq rl hK
 u_c stepG_seq rl hK
 u_reg rl hK
 u_bub rl hK
 u_c stepG_region_end rl hK
 u_cond false rl hK
 u_c stepG_skip rl hK
 u_c stepG_seq rl hK
 u_reg rl hK
 u_op rl hK
 u_op rl hK
 u_op rl hK
 u_op rl hK
 u_op rl hK
 u_op rl hK
 u_call H.f_uAdd (nm_uAdd L) uAddFn rl hK
 u_c stepG_seq rl hK
 u_reg rl hK
 u_op rl hK
 u_c stepG_region_end rl hK
 u_c stepG_seq rl hK
 u_reg rl hK
 u_op rl hK
 u_op rl hK
 u_op rl hK
 u_op rl hK
 refine Goes.stop (fun w₁ h₁ => ?_)
 clear h₁ hK
 refine ⟨rfl,fun v hv => ?_⟩
 rcases Nat.eq_zero_or_pos v with rfl | hvp
 ·have z:(((0:Nat):Int)+1)*KK=KK:=by simp
  rw [z]
  have e0:IntKind.u64.wrap (0+4294967296)=KK:=by decide
  refine ⟨_,fun w hw=>(stepG_add_atomic Z Z (by k_ne) Z H.f_addU64 (x_addU64_n L) (x_addU64_b L) (x_addU64_x L) .u64 (x_addU64_f L) Z Z (show WgAt L.tWg Wg w 0 0 by simpa using hw).cellSt (hw.thaw 0)).trans (by rw [e0]; rfl),110,fun w hK => ?_⟩
  unfold Lg
  simp only [KK]
  walk_nrm
  u_op rl hK
  u_c stepG_region_end rl hK
  u_c stepG_ret' rl hK
  u_leave1 H.f_uAdd rl hK
  u_op rl hK
  u_c stepG_region_end rl hK
  u_c stepG_seq rl hK
  u_c stepG_seq rl hK
  u_reg rl hK
  u_op rl hK
  u_op rl hK
  u_op rl hK
  u_op rl hK
  u_skip rl hK
  u_skip rl hK
  u_op rl hK
  u_c stepG_region_end rl hK
  u_cond false rl hK
  u_c stepG_skip rl hK
  u_c stepG_seq rl hK
  u_reg rl hK
  u_op rl hK
  u_op rl hK
  u_op rl hK
  u_op rl hK
  u_c stepG_region_end rl hK
  u_c stepG_seq rl hK
  u_reg rl hK
  u_op rl hK
  u_op rl hK
  u_op rl hK
  u_op rl hK
  u_c stepG_region_end rl hK
  u_c stepG_seq rl hK
  u_c stepG_seq rl hK
  u_reg rl hK
  u_op rl hK
  u_op rl hK
  u_op rl hK
  u_op rl hK
  u_op rl hK
  u_op rl hK
  u_op rl hK
  u_op rl hK
  u_op rl hK
  u_op rl hK
  u_c stepG_region_end rl hK
  u_cond true rl hK
  u_reg rl hK
  u_op rl hK
  u_op rl hK
  u_op rl hK
  u_conv H.underlying_tPU32 H.room_tU32 (WgLive.cell1 hK).choose_spec rl hK
  refine Goes.stop (fun w₁ h₁ => .inl ?_)
  clear h₁ hK
  refine ⟨rfl,_,fun w=>stepG_markAt .read (by simp) Z Z (by k_ne) Z H.f_raceRead (x_raceRead_n L) (x_raceRead_b L) (x_raceRead_x L) (x_raceRead_f L) (by simp [Act.eval,smA]),110,fun w hK => ?_⟩
  unfold Lg
  walk_nrm
  u_c stepG_region_end rl hK
  u_c stepG_seq rl hK
  u_c stepG_seq rl hK
  u_reg rl hK
  u_op rl hK
  u_op rl hK
  u_c stepG_region_end rl hK
  u_cond false rl hK
  u_c stepG_skip rl hK
  u_c stepG_seq rl hK
  u_c stepG_seq rl hK
  u_reg rl hK
  u_op rl hK
  u_op rl hK
  u_op rl hK
  u_skip rl hK
  u_skip rl hK
  u_op rl hK
  u_op rl hK
  u_skip rl hK
  u_skip rl hK
  u_skip rl hK
  u_skip rl hK
  u_op rl hK
  u_c stepG_region_end rl hK
  u_cond false rl hK
  u_c stepG_skip rl hK
  u_c stepG_seq rl hK
  u_c stepG_seq rl hK
  u_reg rl hK
  u_op rl hK
  u_op rl hK
  u_op rl hK
  u_skip rl hK
  u_skip rl hK
  u_op rl hK
  u_c stepG_region_end rl hK
  u_cond true rl hK
  u_c stepG_ret' rl hK
  refine Goes.stop (fun w₁ h₁ => ?_)
  clear h₁ hK
  refine ⟨rfl,_,fun w=>stepG_unwind_entry (v := .tuple #[]) (evs := #[mk .enable]) Z H.f_enable (x_enable_n L) (x_enable_b L) (x_enable_x L) (x_enable_f L) (by simp [Extern.Race.none_]) (by simp [mk]) (by simp [mk]),mT+1,fun w hK => ?_⟩
  unfold Lg
  walk_nrm
  u_leave0 H.f_add rl hK
  exact hT _ hK
 ·obtain ⟨S,hS⟩ : ∃ S:Int,S=((v:Int)+1)*KK:=⟨_,rfl⟩
  have eS:IntKind.u64.wrap ((v:Int)*KK+4294967296)=S:=by rw [IntKind.wrap_u64,hS]; simp only [KK]; omega
  rw [← hS]
  have a1:S / 4294967296=(v:Int)+1:=by rw [hS]; simp only [KK]; omega
  have b1:bits .and .u64 S 2147483648=0:=by rw [hS]; have:=st_flag (v+1) 0 X X;simpa [KK] using this
  have b2:bits .and .u64 S 2147483647=0:=by rw [hS]; have:=st_waiters (v+1) 0 X X;simpa [KK] using this
  have c1:IntKind.i32.wrap ((v:Int)+1)=(v:Int)+1:=by rw [IntKind.wrap_i32]; omega
  have q3:decide ((v:Int)+1<0)=false:=decide_eq_false X
  have q4:decide (0<(v:Int)+1)=true:=decide_eq_true X
  have q5:((v:Int)+1 == 0)=false:=by simp;omega
  have q6:((v:Int)+1 == 1)=false:=by simp;omega
  clear hS
  refine ⟨_,fun w hw=>(stepG_add_atomic Z Z (by k_ne) Z H.f_addU64 (x_addU64_n L) (x_addU64_b L) (x_addU64_x L) .u64 (x_addU64_f L) Z Z hw.cellSt (hw.thaw 0)).trans (by rw [eS]; rfl),110,fun w hK => ?_⟩
  unfold Lg
  walk_nrm
  u_op rl hK
  u_c stepG_region_end rl hK
  u_c stepG_ret' rl hK
  u_leave1 H.f_uAdd rl hK
  u_op rl hK
  u_c stepG_region_end rl hK
  u_c stepG_seq rl hK
  u_c stepG_seq rl hK
  u_reg rl hK
  u_op rl hK
  u_op rl hK
  u_op rl hK
  u_op rl hK
  u_skip rl hK
  u_skip rl hK
  u_op rl hK
  u_c stepG_region_end rl hK
  u_cond false rl hK
  u_c stepG_skip rl hK
  u_c stepG_seq rl hK
  u_reg rl hK
  u_op rl hK
  u_op rl hK
  u_op rl hK
  u_op rl hK
  u_c stepG_region_end rl hK
  u_c stepG_seq rl hK
  u_reg rl hK
  u_op rl hK
  u_op rl hK
  u_op rl hK
  u_op rl hK
  u_c stepG_region_end rl hK
  u_c stepG_seq rl hK
  u_c stepG_seq rl hK
  u_reg rl hK
  u_op rl hK
  u_op rl hK
  u_op rl hK
  u_op rl hK
  u_op rl hK
  u_op rl hK
  u_op rl hK
  u_op rl hK
  u_op rl hK
  u_op rl hK
  u_c stepG_region_end rl hK
  u_cond false rl hK
  u_c stepG_skip rl hK
  u_c stepG_seq rl hK
  u_c stepG_seq rl hK
  u_reg rl hK
  u_op rl hK
  u_op rl hK
  u_c stepG_region_end rl hK
  u_cond false rl hK
  u_c stepG_skip rl hK
  u_c stepG_seq rl hK
  u_c stepG_seq rl hK
  u_reg rl hK
  u_op rl hK
  u_op rl hK
  u_op rl hK
  u_skip rl hK
  u_skip rl hK
  u_op rl hK
  u_op rl hK
  u_skip rl hK
  u_skip rl hK
  u_skip rl hK
  u_skip rl hK
  u_op rl hK
  u_c stepG_region_end rl hK
  u_cond false rl hK
  u_c stepG_skip rl hK
  u_c stepG_seq rl hK
  u_c stepG_seq rl hK
  u_reg rl hK
  u_op rl hK
  u_op rl hK
  u_op rl hK
  u_skip rl hK
  u_skip rl hK
  u_op rl hK
  u_c stepG_region_end rl hK
  u_cond true rl hK
  u_c stepG_ret' rl hK
  refine Goes.stop (fun w₁ h₁ => .inr ?_)
  clear h₁ hK
  refine ⟨rfl,_,fun w=>stepG_unwind_entry (v := .tuple #[]) (evs := #[mk .enable]) Z H.f_enable (x_enable_n L) (x_enable_b L) (x_enable_x L) (x_enable_f L) (by simp [Extern.Race.none_]) (by simp [mk]) (by simp [mk]),mT+1,fun w hK => ?_⟩
  unfold Lg
  walk_nrm
  u_leave0 H.f_add rl hK
  exact hT _ hK
end Tor.Co
end
section
namespace Tor.Co
open Go Go.Conc Go.ConcN Go.RowKit Go.Conc.Lib Go.ConcR.Gen Go.ConcN.Gen
open Go.ConcR (KK wgBlock WgAt stA smA rd wr mk DC0)
def AnchW (L:WgLink) (Wg:Nat) (c:Frame) (cs:List Frame) (g:Goroutine):Prop :=
 ∃ T:Array Value,g=G ((base L.wait).at ⟨T, []⟩ [.code (L7 L), .inLoop (L7 L), .inBlock 0]) (c :: cs)∧T.size=84∧T[0]? = some (.pointer (some ⟨Wg,0,none⟩))
section
variable {P:Program} {L:WgLink} {Wg:Nat} {b₀:Frame} {a₀:Act} {ops₀:Array Oper} {i₀:Nat} {rest₀:List Nat} {k₀:List Item} {cs:List Frame} {Ret:Goroutine→Prop}
set_option maxRecDepth 100000 in
theorem waitStart (H:WgLib P L) :
  LGo P true L.tWg Wg (Says P true L.tWg Wg .disable (AnchW L Wg (b₀.at a₀ (.inRegion ops₀ (i₀ :: rest₀) :: k₀)) cs)) (G ((base L.wait).at { tmps := #[.pointer (some ⟨Wg,0,none⟩)] ++ Array.replicate 83 undef,defers := [] } [.code (body_wait L)]) (b₀.at a₀ (.inRegion ops₀ (i₀ :: rest₀) :: k₀) :: cs)):=by
 refine ⟨50,fun w hK => ?_⟩
 unfold Lg
 lib_facts
 simp only [body_wait,waitFn,Option.getD_some]
 walk_nrm
 u_c stepG_seq rl hK
 u_cond true rl hK
 u_reg rl hK
 refine Goes.stop (fun w₁ h₁ => ?_)
 clear h₁ hK
 refine ⟨rfl,_,fun w=>stepG_mark0 .disable (by simp) Z Z (by k_ne) Z H.f_disable (x_disable_n L) (x_disable_b L) (x_disable_x L) (x_disable_f L),50,fun w hK => ?_⟩
 unfold Lg
 walk_nrm
 u_c stepG_region_end rl hK
 u_c stepG_block rl hK
 u_c stepG_loop rl hK
 exact Goes.stop (fun w₁ h₁=>⟨_,rfl,rfl,rfl⟩)
set_option maxRecDepth 100000 in
theorem waitRound (H:WgLib P L) (hT:LGo P true L.tWg Wg Ret (G (b₀.at (a₀.put ((ops₀[i₀]?).bind (·.dst)) (.tuple #[])) (.inRegion ops₀ rest₀ :: k₀)) cs)) {g:Goroutine} (h:AnchW L Wg (b₀.at a₀ (.inRegion ops₀ (i₀ :: rest₀) :: k₀)) cs g) :
  LGo P true L.tWg Wg (W1 P L.tWg Wg Ret (AnchW L Wg (b₀.at a₀ (.inRegion ops₀ (i₀ :: rest₀) :: k₀)) cs)) g:=by
 obtain ⟨mT,hT⟩:=hT
 lib_facts
 obtain ⟨T,rfl,hT84,t0⟩:=h
 obtain ⟨v0,v1,v2,v3,v4,v5,v6,v7,v8,v9,v10,v11,v12,v13,v14,v15,v16,v17,v18,v19,v20,v21,v22,v23,v24,v25,v26,v27,v28,v29,v30,v31,v32,v33,v34,v35,v36,v37,v38,v39,v40,v41,v42,v43,v44,v45,v46,v47,v48,v49,v50,v51,v52,v53,v54,v55,v56,v57,v58,v59,v60,v61,v62,v63,v64,v65,v66,v67,v68,v69,v70,v71,v72,v73,v74,v75,v76,v77,v78,v79,v80,v81,v82,v83,rfl⟩:=array84 T hT84
 simp only [List.getElem?_toArray,List.getElem?_cons_zero,Option.some.injEq] at t0
 subst t0
 refine ⟨30,fun w hK => ?_⟩
 unfold Lg
 simp only [L7,body_wait,waitFn,Option.getD_some]
 u_c stepG_block rl hK
 u_c stepG_seq rl hK
 u_reg rl hK
 u_op rl hK
 u_op rl hK
 u_op rl hK
 u_call H.f_uLoad (nm_uLoad L) uLoadFn rl hK
 u_c stepG_seq rl hK
 u_reg rl hK
 u_op rl hK
 u_c stepG_region_end rl hK
 u_c stepG_seq rl hK
 u_reg rl hK
 u_op rl hK
 u_op rl hK
 u_op rl hK
 refine Goes.stop (fun w₁ h₁ => ?_)
 clear h₁ hK
 refine ⟨rfl,fun v hv => ?_⟩
 rcases Nat.eq_zero_or_pos v with rfl | hvp
 ·have z:((0:Nat):Int)*KK=0:=by simp
  rw [z]
  refine ⟨_,fun w hw=>stepG_load_atomic (v:=0) Z Z (by k_ne) Z H.f_loadU64 (x_loadU64_n L) (x_loadU64_b L) (x_loadU64_x L) .u64 (x_loadU64_f L) Z hw.cellSt,fun _=>⟨60,fun w hK => ?_⟩,fun h=>absurd Z h⟩
  unfold Lg
  walk_nrm
  u_op rl hK
  u_c stepG_region_end rl hK
  u_c stepG_ret' rl hK
  u_leave1 H.f_uLoad rl hK
  u_op rl hK
  u_c stepG_region_end rl hK
  u_c stepG_seq rl hK
  u_reg rl hK
  u_op rl hK
  u_op rl hK
  u_op rl hK
  u_op rl hK
  u_c stepG_region_end rl hK
  u_c stepG_seq rl hK
  u_reg rl hK
  u_op rl hK
  u_op rl hK
  u_op rl hK
  u_op rl hK
  u_c stepG_region_end rl hK
  u_c stepG_seq rl hK
  u_c stepG_seq rl hK
  u_reg rl hK
  u_op rl hK
  u_op rl hK
  u_c stepG_region_end rl hK
  u_cond true rl hK
  u_c stepG_seq rl hK
  u_cond true rl hK
  u_c stepG_seq rl hK
  u_reg rl hK
  refine Goes.stop (fun w₁ h₁ => ?_)
  clear h₁ hK
  refine ⟨rfl,_,fun w=>stepG_mark0 .enable (by simp) Z Z (by k_ne) Z H.f_enable (x_enable_n L) (x_enable_b L) (x_enable_x L) (x_enable_f L),50,fun w hK => ?_⟩
  unfold Lg
  walk_nrm
  u_c stepG_region_end rl hK
  u_reg rl hK
  u_op rl hK
  u_conv H.underlying_tWgP H.room_tWg (WgLive.cell0 hK).choose_spec rl hK
  refine Goes.stop (fun w₁ h₁ => ?_)
  clear h₁ hK
  refine ⟨rfl,_,fun w=>stepG_markAt .acquire (by simp) Z Z (by k_ne) Z H.f_acquire (x_acquire_n L) (x_acquire_b L) (x_acquire_x L) (x_acquire_f L) (by simp [Act.eval,stA]),mT+20,fun w hK => ?_⟩
  unfold Lg
  walk_nrm
  u_c stepG_region_end rl hK
  u_c stepG_seq rl hK
  u_c stepG_seq rl hK
  u_reg rl hK
  u_op rl hK
  u_op rl hK
  u_op rl hK
  u_op rl hK
  u_op rl hK
  u_op rl hK
  u_op rl hK
  u_op rl hK
  u_skip rl hK
  u_skip rl hK
  u_op rl hK
  u_c stepG_region_end rl hK
  u_cond false rl hK
  u_c stepG_skip rl hK
  u_c stepG_ret' rl hK
  u_leave0 H.f_wait rl hK
  exact hT _ hK
 ·obtain ⟨S,hS⟩ : ∃ S:Int,(v:Int)*KK=S:=⟨_,rfl⟩
  have a1:S / 4294967296=(v:Int):=by rw [← hS]; simp only [KK]; omega
  have b1:bits .and .u64 S 2147483648=0:=by rw [← hS]; have:=st_flag v 0 X X;simpa [KK] using this
  have b2:bits .and .u64 S 2147483647=0:=by rw [← hS]; have:=st_waiters v 0 X X;simpa [KK] using this
  have c1:IntKind.i32.wrap (v:Int)=(v:Int):=by rw [IntKind.wrap_i32]; omega
  have w1:IntKind.u64.wrap (S+1)=S+1:=by rw [IntKind.wrap_u64, ← hS]; simp only [KK]; omega
  have q3:decide ((v:Int)<0)=false:=decide_eq_false X
  have q4:decide (0<(v:Int))=true:=decide_eq_true X
  have q5:((v:Int) == 0)=false:=by simp;omega
  have q6:decide ((v:Int)=0)=false:=decide_eq_false X
  rw [hS]
  refine ⟨_,fun w hw=>stepG_load_atomic (v:=S) Z Z (by k_ne) Z H.f_loadU64 (x_loadU64_n L) (x_loadU64_b L) (x_loadU64_x L) .u64 (x_loadU64_f L) Z hw.cellSt,fun h0=>absurd h0 X,fun _=>⟨70,fun w hK => ?_⟩⟩
  unfold Lg
  walk_nrm
  u_op rl hK
  u_c stepG_region_end rl hK
  u_c stepG_ret' rl hK
  u_leave1 H.f_uLoad rl hK
  u_op rl hK
  u_c stepG_region_end rl hK
  u_c stepG_seq rl hK
  u_reg rl hK
  u_op rl hK
  u_op rl hK
  u_op rl hK
  u_op rl hK
  u_c stepG_region_end rl hK
  u_c stepG_seq rl hK
  u_reg rl hK
  u_op rl hK
  u_op rl hK
  u_op rl hK
  u_op rl hK
  u_c stepG_region_end rl hK
  u_c stepG_seq rl hK
  u_c stepG_seq rl hK
  u_reg rl hK
  u_op rl hK
  u_op rl hK
  u_c stepG_region_end rl hK
  u_cond false rl hK
  u_c stepG_skip rl hK
  u_c stepG_seq rl hK
  u_reg rl hK
  u_op rl hK
  u_op rl hK
  u_op rl hK
  u_op rl hK
  u_op rl hK
  u_op rl hK
  u_call H.f_uCas (nm_uCas L) uCasFn rl hK
  u_c stepG_seq rl hK
  u_reg rl hK
  u_op rl hK
  u_c stepG_region_end rl hK
  u_c stepG_seq rl hK
  u_reg rl hK
  u_op rl hK
  u_op rl hK
  u_op rl hK
  u_op rl hK
  u_op rl hK
  refine Goes.stop (fun w₂ h₂ => ?_)
  clear h₂ hK
  refine ⟨rfl,?_,?_⟩
  ·rw [hS]
   refine ⟨_,fun w hw=>(stepG_cas_hit (v:=S) (n:=S+1) Z Z (by k_ne) Z H.f_casU64 (x_casU64_n L) (x_casU64_b L) (x_casU64_x L) .u64 (x_casU64_f L) Z Z Z hw.cellSt (hw.thaw 0)).trans (by rfl),70,fun w hK => ?_⟩
   unfold Lg
   walk_nrm
   u_op rl hK
   u_c stepG_region_end rl hK
   u_c stepG_ret' rl hK
   u_leave1 H.f_uCas rl hK
   u_c stepG_region_end rl hK
   u_cond true rl hK
   u_c stepG_seq rl hK
   u_c stepG_seq rl hK
   u_reg rl hK
   u_op rl hK
   u_op rl hK
   u_op rl hK
   u_op rl hK
   u_c stepG_region_end rl hK
   u_cond true rl hK
   u_reg rl hK
   u_op rl hK
   u_op rl hK
   u_op rl hK
   u_conv H.underlying_tPU32 H.room_tU32 (WgLive.cell1 hK).choose_spec rl hK
   refine Goes.stop (fun w₂ h₂ => ?_)
   clear h₂ hK
   refine ⟨rfl,_,fun w=>stepG_markAt .write (by simp) Z Z (by k_ne) Z H.f_raceWrite (x_raceWrite_n L) (x_raceWrite_b L) (x_raceWrite_x L) (x_raceWrite_f L) (by simp [Act.eval,smA]),70,fun w hK => ?_⟩
   unfold Lg
   walk_nrm
   u_c stepG_region_end rl hK
   u_c stepG_seq rl hK
   u_reg rl hK
   u_op rl hK
   u_c stepG_region_end rl hK
   u_c stepG_seq rl hK
   u_c stepG_seq rl hK
   u_reg rl hK
   u_op rl hK
   u_op rl hK
   u_op rl hK
   u_op rl hK
   u_skip rl hK
   u_op rl hK
   u_c stepG_region_end rl hK
   u_cond false rl hK
   u_c stepG_skip rl hK
   u_c stepG_seq rl hK
   u_reg rl hK
   u_op rl hK
   u_op rl hK
   u_op rl hK
   u_op rl hK
   refine Goes.stop (fun w₂ h₂ => ?_)
   clear h₂ hK
   refine ⟨rfl,rfl,fun w ⟨st,hw⟩=>stepG_semacquire_wait Z Z Z H.f_semacquire (x_semacquire_n L) (x_semacquire_b L) (x_semacquire_x L) (x_semacquire_f L) (by simp [Act.eval,smA]) hw.cellSm,?_⟩
   refine ⟨_,fun w hf=>(stepG_semacquire (n:=1) Z Z (by k_ne) Z H.f_semacquire (x_semacquire_n L) (x_semacquire_b L) (x_semacquire_x L) (x_semacquire_f L) (by simp [Act.eval,smA]) hf.cellSm (by k_ne) (hf.thaw 1)).trans (by rfl),30,fun w hK => ?_⟩
   unfold Lg
   walk_nrm
   u_c stepG_region_end rl hK
   u_c stepG_seq rl hK
   u_reg rl hK
   u_op rl hK
   u_op rl hK
   u_op rl hK
   u_call H.f_uLoad (nm_uLoad L) uLoadFn rl hK
   u_c stepG_seq rl hK
   u_reg rl hK
   u_op rl hK
   u_c stepG_region_end rl hK
   u_c stepG_seq rl hK
   u_reg rl hK
   u_op rl hK
   u_op rl hK
   u_op rl hK
   refine Goes.stop (fun w₂ h₂ => ?_)
   clear h₂ hK
   refine ⟨rfl,_,fun w hw=>stepG_load_atomic (v:=0) Z Z (by k_ne) Z H.f_loadU64 (x_loadU64_n L) (x_loadU64_b L) (x_loadU64_x L) .u64 (x_loadU64_f L) Z hw.cellSt,50,fun w hK => ?_⟩
   unfold Lg
   walk_nrm
   u_op rl hK
   u_c stepG_region_end rl hK
   u_c stepG_ret' rl hK
   u_leave1 H.f_uLoad rl hK
   u_op rl hK
   u_op rl hK
   u_c stepG_region_end rl hK
   u_c stepG_seq rl hK
   u_cond true rl hK
   u_c stepG_seq rl hK
   u_reg rl hK
   refine Goes.stop (fun w₂ h₂ => ?_)
   clear h₂ hK
   refine ⟨rfl,_,fun w=>stepG_mark0 .enable (by simp) Z Z (by k_ne) Z H.f_enable (x_enable_n L) (x_enable_b L) (x_enable_x L) (x_enable_f L),50,fun w hK => ?_⟩
   unfold Lg
   walk_nrm
   u_c stepG_region_end rl hK
   u_reg rl hK
   u_op rl hK
   u_conv H.underlying_tWgP H.room_tWg (WgLive.cell0 hK).choose_spec rl hK
   refine Goes.stop (fun w₂ h₂ => ?_)
   clear h₂ hK
   refine ⟨rfl,_,fun w=>stepG_markAt .acquire (by simp) Z Z (by k_ne) Z H.f_acquire (x_acquire_n L) (x_acquire_b L) (x_acquire_x L) (x_acquire_f L) (by simp [Act.eval,stA]),mT+10,fun w hK => ?_⟩
   unfold Lg
   walk_nrm
   u_c stepG_region_end rl hK
   u_c stepG_seq rl hK
   u_c stepG_seq rl hK
   u_reg rl hK
   u_op rl hK
   u_c stepG_region_end rl hK
   u_cond false rl hK
   u_c stepG_skip rl hK
   u_c stepG_ret' rl hK
   u_leave0 H.f_wait rl hK
   exact hT _ hK
  ·refine ⟨_,fun w v' hv' hne hw=>stepG_cas_miss (v:=(v':Int)*KK) (old:=S) (n:=S+1) Z Z (by k_ne) Z H.f_casU64 (x_casU64_n L) (x_casU64_b L) (x_casU64_x L) .u64 (x_casU64_f L) Z Z Z hw.cellSt (hw.thaw 0) (by rw [← hS]; simp only [KK]; omega),20,fun w hK => ?_⟩
   unfold Lg
   walk_nrm
   u_op rl hK
   u_c stepG_region_end rl hK
   u_c stepG_ret' rl hK
   u_leave1 H.f_uCas rl hK
   u_c stepG_region_end rl hK
   u_cond false rl hK
   u_c stepG_skip rl hK
   u_c stepG_inBlock rl hK
   u_c stepG_inLoop rl hK
   exact Goes.stop (fun w₁ h₁=>⟨_,rfl,rfl,rfl⟩)
end
end Tor.Co
end
section
namespace Tor.Co
open Go Go.Conc Go.ConcN Go.RowKit Go.Conc.Lib Go.ConcR.Gen Go.ConcN.Gen
open Go.ConcR (KK wgBlock WgAt stA smA rd wr mk DC0)
set_option maxRecDepth 100000 in
theorem addNeg {P:Program} {L:WgLink} (H:WgLib P L) {Wg:Nat} {b₀:Frame} {a₀:Act} {ops₀:Array Oper} {i₀:Nat} {rest₀:List Nat} {k₀:List Item} {cs:List Frame} {qt:Nat}
  (hT:QuitsD P qt 0 (G (b₀.at (a₀.put ((ops₀[i₀]?).bind (·.dst)) (.tuple #[])) (.inRegion ops₀ rest₀ :: k₀)) cs)) :
  LGo P false L.tWg Wg (R0 P L.tWg Wg) (G ((base L.add).at { tmps := #[.pointer (some ⟨Wg,0,none⟩), .int .i64 (-1)] ++ Array.replicate 115 undef,defers := [] } [.code (body_add L)]) (b₀.at a₀ (.inRegion ops₀ (i₀ :: rest₀) :: k₀) :: cs)):=by
 refine ⟨20,fun w hK => ?_⟩
 unfold Lg
 lib_facts
 simp only [body_add,addFn,Option.getD_some]
 walk_nrm
 u_c stepG_seq rl hK
 u_cond true rl hK
 u_c stepG_seq rl hK
 u_c stepG_seq rl hK
 u_reg rl hK
 u_op rl hK
 u_op rl hK
 u_c stepG_region_end rl hK
 u_cond true rl hK
 u_reg rl hK
 u_op rl hK
 u_conv H.underlying_tWgP H.room_tWg (WgLive.cell0 hK).choose_spec rl hK
 refine Goes.stop (fun w₁ h₁ => ?_)
 replace hK:=rl hK h₁
 clear h₁
 refine ⟨rfl,_,fun w=>stepG_markAt .releaseMerge (by simp) Z Z (by k_ne) Z H.f_relMerge (x_relMerge_n L) (x_relMerge_b L) (x_relMerge_x L) (x_relMerge_f L) (by simp [Act.eval,stA]),10,fun w hK => ?_⟩
 unfold Lg
 walk_nrm
 u_c stepG_region_end rl hK
 u_c stepG_seq rl hK
 u_reg rl hK
 refine Goes.stop (fun w₁ h₁ => ?_)
 refine ⟨rfl,_,fun w=>stepG_mark0 .disable (by simp) Z Z (by k_ne) Z H.f_disable (x_disable_n L) (x_disable_b L) (x_disable_x L) (x_disable_f L),50,fun w hK => ?_⟩
 unfold Lg
 walk_nrm
 u_c stepG_region_end rl hK
 u_reg rl hK
 u_defer rl hK
 u_c stepG_region_end rl hK
 u_c stepG_seq rl hK
 u_reg rl hK
 u_op rl hK
 u_c stepG_region_end rl hK
 u_c stepG_seq rl hK
 u_c stepG_seq rl hK
 u_reg rl hK
 u_bub rl hK
 u_c stepG_region_end rl hK
 u_cond false rl hK
 u_c stepG_skip rl hK
 u_c stepG_seq rl hK
 u_reg rl hK
 u_op rl hK
 u_op rl hK
 u_op rl hK
 u_op rl hK
 u_op rl hK
 u_op rl hK
 u_call H.f_uAdd (nm_uAdd L) uAddFn rl hK
 u_c stepG_seq rl hK
 u_reg rl hK
 u_op rl hK
 u_c stepG_region_end rl hK
 u_c stepG_seq rl hK
 u_reg rl hK
 u_op rl hK
 u_op rl hK
 u_op rl hK
 u_op rl hK
 refine Goes.stop (fun w₁ h₁ => ?_)
 clear h₁ hK
 refine ⟨rfl,fun v wt hwt hv => ?_⟩
 have e0:IntKind.u64.wrap (KK+18446744069414584320)=0:=by decide
 have e1:IntKind.u64.wrap (KK+1+18446744069414584320)=1:=by decide
 rcases Nat.eq_zero_or_pos v with rfl | hvp <;> (obtain rfl | rfl:wt=0∨wt=1:=by omega)
 ·have z:((0:Nat):Int)*KK+((0:Nat):Int)=0:=by simp
  rw [z]
  refine ⟨_,fun w hw=>(stepG_add_atomic Z Z (by k_ne) Z H.f_addU64 (x_addU64_n L) (x_addU64_b L) (x_addU64_x L) .u64 (x_addU64_f L) Z Z (show WgAt L.tWg Wg w KK 0 by simpa using hw).cellSt (hw.thaw 0)).trans (by rw [e0]; rfl),fun hl=>absurd hl.2 U,fun _=>⟨qt+89,?_⟩⟩
  walk_nrm
  (refine QuitsD.value _ Z Z (by k_ne) (fun _=>by go_simp;first | (w_num;rfl) | rfl) (fun _=>by simp [go_sem, *]) ?_;walk_nrm)
  q_c stepG_region_end
  q_c stepG_ret'
  q_leave1 H.f_uAdd
  (refine QuitsD.value _ Z Z (by k_ne) (fun _=>by go_simp;first | (w_num;rfl) | rfl) (fun _=>by simp [go_sem, *]) ?_;walk_nrm)
  q_c stepG_region_end
  q_c stepG_seq
  q_c stepG_seq
  q_reg
  (refine QuitsD.value _ Z Z (by k_ne) (fun _=>by go_simp;first | (w_num;rfl) | rfl) (fun _=>by simp [go_sem, *]) ?_;walk_nrm)
  (refine QuitsD.value _ Z Z (by k_ne) (fun _=>by go_simp;first | (w_num;rfl) | rfl) (fun _=>by simp [go_sem, *]) ?_;walk_nrm)
  (refine QuitsD.value _ Z Z (by k_ne) (fun _=>by go_simp;first | (w_num;rfl) | rfl) (fun _=>by simp [go_sem, *]) ?_;walk_nrm)
  (refine QuitsD.value _ Z Z (by k_ne) (fun _=>by go_simp;first | (w_num;rfl) | rfl) (fun _=>by simp [go_sem, *]) ?_;walk_nrm)
  q_skip
  q_skip
  (refine QuitsD.value _ Z Z (by k_ne) (fun _=>by go_simp;first | (w_num;rfl) | rfl) (fun _=>by simp [go_sem, *]) ?_;walk_nrm)
  q_c stepG_region_end
  q_cond false
  q_c stepG_skip
  q_c stepG_seq
  q_reg
  (refine QuitsD.value _ Z Z (by k_ne) (fun _=>by go_simp;first | (w_num;rfl) | rfl) (fun _=>by simp [go_sem, *]) ?_;walk_nrm)
  (refine QuitsD.value _ Z Z (by k_ne) (fun _=>by go_simp;first | (w_num;rfl) | rfl) (fun _=>by simp [go_sem, *]) ?_;walk_nrm)
  (refine QuitsD.value _ Z Z (by k_ne) (fun _=>by go_simp;first | (w_num;rfl) | rfl) (fun _=>by simp [go_sem, *]) ?_;walk_nrm)
  (refine QuitsD.value _ Z Z (by k_ne) (fun _=>by go_simp;first | (w_num;rfl) | rfl) (fun _=>by simp [go_sem, *]) ?_;walk_nrm)
  q_c stepG_region_end
  q_c stepG_seq
  q_reg
  (refine QuitsD.value _ Z Z (by k_ne) (fun _=>by go_simp;first | (w_num;rfl) | rfl) (fun _=>by simp [go_sem, *]) ?_;walk_nrm)
  (refine QuitsD.value _ Z Z (by k_ne) (fun _=>by go_simp;first | (w_num;rfl) | rfl) (fun _=>by simp [go_sem, *]) ?_;walk_nrm)
  (refine QuitsD.value _ Z Z (by k_ne) (fun _=>by go_simp;first | (w_num;rfl) | rfl) (fun _=>by simp [go_sem, *]) ?_;walk_nrm)
  (refine QuitsD.value _ Z Z (by k_ne) (fun _=>by go_simp;first | (w_num;rfl) | rfl) (fun _=>by simp [go_sem, *]) ?_;walk_nrm)
  q_c stepG_region_end
  q_c stepG_seq
  q_c stepG_seq
  q_reg
  (refine QuitsD.value _ Z Z (by k_ne) (fun _=>by go_simp;first | (w_num;rfl) | rfl) (fun _=>by simp [go_sem, *]) ?_;walk_nrm)
  (refine QuitsD.value _ Z Z (by k_ne) (fun _=>by go_simp;first | (w_num;rfl) | rfl) (fun _=>by simp [go_sem, *]) ?_;walk_nrm)
  (refine QuitsD.value _ Z Z (by k_ne) (fun _=>by go_simp;first | (w_num;rfl) | rfl) (fun _=>by simp [go_sem, *]) ?_;walk_nrm)
  (refine QuitsD.value _ Z Z (by k_ne) (fun _=>by go_simp;first | (w_num;rfl) | rfl) (fun _=>by simp [go_sem, *]) ?_;walk_nrm)
  (refine QuitsD.value _ Z Z (by k_ne) (fun _=>by go_simp;first | (w_num;rfl) | rfl) (fun _=>by simp [go_sem, *]) ?_;walk_nrm)
  q_skip
  q_skip
  q_skip
  q_skip
  (refine QuitsD.value _ Z Z (by k_ne) (fun _=>by go_simp;first | (w_num;rfl) | rfl) (fun _=>by simp [go_sem, *]) ?_;walk_nrm)
  q_c stepG_region_end
  q_cond false
  q_c stepG_skip
  q_c stepG_seq
  q_c stepG_seq
  q_reg
  (refine QuitsD.value _ Z Z (by k_ne) (fun _=>by go_simp;first | (w_num;rfl) | rfl) (fun _=>by simp [go_sem, *]) ?_;walk_nrm)
  (refine QuitsD.value _ Z Z (by k_ne) (fun _=>by go_simp;first | (w_num;rfl) | rfl) (fun _=>by simp [go_sem, *]) ?_;walk_nrm)
  q_c stepG_region_end
  q_cond false
  q_c stepG_skip
  q_c stepG_seq
  q_c stepG_seq
  q_reg
  (refine QuitsD.value _ Z Z (by k_ne) (fun _=>by go_simp;first | (w_num;rfl) | rfl) (fun _=>by simp [go_sem, *]) ?_;walk_nrm)
  (refine QuitsD.value _ Z Z (by k_ne) (fun _=>by go_simp;first | (w_num;rfl) | rfl) (fun _=>by simp [go_sem, *]) ?_;walk_nrm)
  (refine QuitsD.value _ Z Z (by k_ne) (fun _=>by go_simp;first | (w_num;rfl) | rfl) (fun _=>by simp [go_sem, *]) ?_;walk_nrm)
  q_skip
  q_skip
  (refine QuitsD.value _ Z Z (by k_ne) (fun _=>by go_simp;first | (w_num;rfl) | rfl) (fun _=>by simp [go_sem, *]) ?_;walk_nrm)
  (refine QuitsD.value _ Z Z (by k_ne) (fun _=>by go_simp;first | (w_num;rfl) | rfl) (fun _=>by simp [go_sem, *]) ?_;walk_nrm)
  q_skip
  q_skip
  q_skip
  q_skip
  (refine QuitsD.value _ Z Z (by k_ne) (fun _=>by go_simp;first | (w_num;rfl) | rfl) (fun _=>by simp [go_sem, *]) ?_;walk_nrm)
  q_c stepG_region_end
  q_cond false
  q_c stepG_skip
  q_c stepG_seq
  q_c stepG_seq
  q_reg
  (refine QuitsD.value _ Z Z (by k_ne) (fun _=>by go_simp;first | (w_num;rfl) | rfl) (fun _=>by simp [go_sem, *]) ?_;walk_nrm)
  (refine QuitsD.value _ Z Z (by k_ne) (fun _=>by go_simp;first | (w_num;rfl) | rfl) (fun _=>by simp [go_sem, *]) ?_;walk_nrm)
  (refine QuitsD.value _ Z Z (by k_ne) (fun _=>by go_simp;first | (w_num;rfl) | rfl) (fun _=>by simp [go_sem, *]) ?_;walk_nrm)
  (refine QuitsD.value _ Z Z (by k_ne) (fun _=>by go_simp;first | (w_num;rfl) | rfl) (fun _=>by simp [go_sem, *]) ?_;walk_nrm)
  (refine QuitsD.value _ Z Z (by k_ne) (fun _=>by go_simp;first | (w_num;rfl) | rfl) (fun _=>by simp [go_sem, *]) ?_;walk_nrm)
  (refine QuitsD.value _ Z Z (by k_ne) (fun _=>by go_simp;first | (w_num;rfl) | rfl) (fun _=>by simp [go_sem, *]) ?_;walk_nrm)
  q_c stepG_region_end
  q_cond true
  q_c stepG_ret'
  q_enable
  q_leave0 H.f_add
  exact hT
 ·have z:((0:Nat):Int)*KK+((1:Nat):Int)=1:=by simp
  rw [z]
  refine ⟨_,fun w hw=>(stepG_add_atomic Z Z (by k_ne) Z H.f_addU64 (x_addU64_n L) (x_addU64_b L) (x_addU64_x L) .u64 (x_addU64_f L) Z Z (show WgAt L.tWg Wg w (KK+1) 0 by simpa using hw).cellSt (hw.thaw 0)).trans (by rw [e1]; rfl),fun _=>⟨120,fun w hK => ?_⟩,fun hl=>absurd ⟨rfl,rfl⟩ hl⟩
  unfold Lg
  walk_nrm
  u_op rl hK
  u_c stepG_region_end rl hK
  u_c stepG_ret' rl hK
  u_leave1 H.f_uAdd rl hK
  u_op rl hK
  u_c stepG_region_end rl hK
  u_c stepG_seq rl hK
  u_c stepG_seq rl hK
  u_reg rl hK
  u_op rl hK
  u_op rl hK
  u_op rl hK
  u_op rl hK
  u_skip rl hK
  u_skip rl hK
  u_op rl hK
  u_c stepG_region_end rl hK
  u_cond false rl hK
  u_c stepG_skip rl hK
  u_c stepG_seq rl hK
  u_reg rl hK
  u_op rl hK
  u_op rl hK
  u_op rl hK
  u_op rl hK
  u_c stepG_region_end rl hK
  u_c stepG_seq rl hK
  u_reg rl hK
  u_op rl hK
  u_op rl hK
  u_op rl hK
  u_op rl hK
  u_c stepG_region_end rl hK
  u_c stepG_seq rl hK
  u_c stepG_seq rl hK
  u_reg rl hK
  u_op rl hK
  u_op rl hK
  u_op rl hK
  u_op rl hK
  u_op rl hK
  u_skip rl hK
  u_skip rl hK
  u_skip rl hK
  u_skip rl hK
  u_op rl hK
  u_c stepG_region_end rl hK
  u_cond false rl hK
  u_c stepG_skip rl hK
  u_c stepG_seq rl hK
  u_c stepG_seq rl hK
  u_reg rl hK
  u_op rl hK
  u_op rl hK
  u_c stepG_region_end rl hK
  u_cond false rl hK
  u_c stepG_skip rl hK
  u_c stepG_seq rl hK
  u_c stepG_seq rl hK
  u_reg rl hK
  u_op rl hK
  u_op rl hK
  u_op rl hK
  u_op rl hK
  u_op rl hK
  u_op rl hK
  u_op rl hK
  u_skip rl hK
  u_skip rl hK
  u_skip rl hK
  u_skip rl hK
  u_op rl hK
  u_c stepG_region_end rl hK
  u_cond false rl hK
  u_c stepG_skip rl hK
  u_c stepG_seq rl hK
  u_c stepG_seq rl hK
  u_reg rl hK
  u_op rl hK
  u_op rl hK
  u_op rl hK
  u_op rl hK
  u_op rl hK
  u_op rl hK
  u_c stepG_region_end rl hK
  u_cond false rl hK
  u_c stepG_skip rl hK
  u_c stepG_seq rl hK
  u_c stepG_seq rl hK
  u_reg rl hK
  u_op rl hK
  u_op rl hK
  u_op rl hK
  u_call H.f_uLoad (nm_uLoad L) uLoadFn rl hK
  u_c stepG_seq rl hK
  u_reg rl hK
  u_op rl hK
  u_c stepG_region_end rl hK
  u_c stepG_seq rl hK
  u_reg rl hK
  u_op rl hK
  u_op rl hK
  u_op rl hK
  refine Goes.stop (fun w₂ h₂ => ?_)
  clear h₂ hK
  refine ⟨rfl,_,fun w hw=>stepG_load_atomic Z Z (by k_ne) Z H.f_loadU64 (x_loadU64_n L) (x_loadU64_b L) (x_loadU64_x L) .u64 (x_loadU64_f L) Z hw.cellSt,40,fun w hK => ?_⟩
  unfold Lg
  walk_nrm
  u_op rl hK
  u_c stepG_region_end rl hK
  u_c stepG_ret' rl hK
  u_leave1 H.f_uLoad rl hK
  u_op rl hK
  u_op rl hK
  u_c stepG_region_end rl hK
  u_cond false rl hK
  u_c stepG_skip rl hK
  u_c stepG_seq rl hK
  u_reg rl hK
  u_op rl hK
  u_op rl hK
  u_op rl hK
  u_call H.f_uStore (nm_uStore L) uStoreFn rl hK
  u_reg rl hK
  u_op rl hK
  u_op rl hK
  u_op rl hK
  u_op rl hK
  refine Goes.stop (fun w₃ h₃ => ?_)
  clear h₃ hK
  refine ⟨rfl,_,fun w hw=>stepG_store_atomic Z Z (by k_ne) Z H.f_storeU64 (x_storeU64_n L) (x_storeU64_b L) (x_storeU64_x L) (x_storeU64_f L) Z Z hw.cellSt (hw.thaw 0),50,fun w hK => ?_⟩
  unfold Lg
  walk_nrm
  u_c stepG_region_end rl hK
  u_c stepG_end rl hK
  u_leave0 H.f_uStore rl hK
  u_c stepG_region_end rl hK
  u_c stepG_seq rl hK
  u_c stepG_seq rl hK
  u_reg rl hK
  u_op rl hK
  u_c stepG_region_end rl hK
  u_cond false rl hK
  u_c stepG_skip rl hK
  u_c stepG_block rl hK
  u_c stepG_loop rl hK
  u_c stepG_seq rl hK
  u_c stepG_seq rl hK
  u_reg rl hK
  u_op rl hK
  u_op rl hK
  u_c stepG_region_end rl hK
  u_cond true rl hK
  u_c stepG_skip rl hK
  u_c stepG_seq rl hK
  u_c stepG_block rl hK
  u_reg rl hK
  u_op rl hK
  u_op rl hK
  u_op rl hK
  refine Goes.stop (fun w₄ h₄ => ?_)
  clear h₄ hK
  refine ⟨rfl,mayWake_entry Z Z H.f_semrelease (x_semrelease_b L),_,fun w hw=>(stepG_semrelease Z Z (by k_ne) Z H.f_semrelease (x_semrelease_n L) (x_semrelease_b L) (x_semrelease_x L) (x_semrelease_f L) (by simp [Act.eval,smA]) hw.cellSm (hw.thaw 1)).trans (by rfl),qt+19,?_⟩
  walk_nrm
  q_c stepG_region_end
  q_c stepG_inBlock
  q_reg
  (refine QuitsD.value _ Z Z (by k_ne) (fun _=>by go_simp;first | (w_num;rfl) | rfl) (fun _=>by simp [go_sem, *]) ?_;walk_nrm)
  (refine QuitsD.value _ Z Z (by k_ne) (fun _=>by go_simp;first | (w_num;rfl) | rfl) (fun _=>by simp [go_sem, *]) ?_;walk_nrm)
  (refine QuitsD.value _ Z Z (by k_ne) (fun _=>by go_simp;first | (w_num;rfl) | rfl) (fun _=>by simp [go_sem, *]) ?_;walk_nrm)
  q_c stepG_region_end
  q_c stepG_inLoop
  q_c stepG_seq
  q_c stepG_seq
  q_reg
  (refine QuitsD.value _ Z Z (by k_ne) (fun _=>by go_simp;first | (w_num;rfl) | rfl) (fun _=>by simp [go_sem, *]) ?_;walk_nrm)
  (refine QuitsD.value _ Z Z (by k_ne) (fun _=>by go_simp;first | (w_num;rfl) | rfl) (fun _=>by simp [go_sem, *]) ?_;walk_nrm)
  q_c stepG_region_end
  q_cond false
  q_exit
  q_c stepG_end
  q_enable
  q_leave0 H.f_add
  exact hT
 ·have z:((v:Nat):Int)*KK+((0:Nat):Int)=(v:Int)*KK+0:=by simp
  rw [z]
  have eS:IntKind.u64.wrap (((v:Nat)+1)*KK+0+18446744069414584320)=(v:Int)*KK+0:=by rw [IntKind.wrap_u64]; simp only [KK]; omega
  obtain ⟨S,hS⟩ : ∃ S:Int,S=(v:Int)*KK+0:=⟨_,rfl⟩
  rw [← hS] at eS ⊢
  have a1:S / 4294967296=(v:Int):=by rw [hS]; simp only [KK]; omega
  have a2:0≤S∧S<9223372036854775808:=by rw [hS]; simp only [KK]; omega
  have b1:bits .and .u64 S 2147483648=0:=by rw [hS]; have:=st_flag v 0 X X;simpa [KK] using this
  have b2:bits .and .u64 S 2147483647=0:=by rw [hS]; have:=st_waiters v 0 X X;simpa [KK] using this
  have c1:IntKind.i32.wrap (v:Int)=(v:Int):=by rw [IntKind.wrap_i32]; omega
  have q3:decide ((v:Int)<0)=false:=decide_eq_false X
  have q4:decide (0<(v:Int))=true:=decide_eq_true X
  have q5:((v:Int) == 0)=false:=by simp;omega
  clear hS z
  refine ⟨_,fun w hw=>(stepG_add_atomic Z Z (by k_ne) Z H.f_addU64 (x_addU64_n L) (x_addU64_b L) (x_addU64_x L) .u64 (x_addU64_f L) Z Z (show WgAt L.tWg Wg w (((v:Nat)+1)*KK+0) 0 by simpa using hw).cellSt (hw.thaw 0)).trans (by rw [eS]; rfl),fun hl=>absurd hl.1 X,fun _=>⟨qt+89,?_⟩⟩
  walk_nrm
  (refine QuitsD.value _ Z Z (by k_ne) (fun _=>by go_simp;first | (w_num;rfl) | rfl) (fun _=>by simp [go_sem, *]) ?_;walk_nrm)
  q_c stepG_region_end
  q_c stepG_ret'
  q_leave1 H.f_uAdd
  (refine QuitsD.value _ Z Z (by k_ne) (fun _=>by go_simp;first | (w_num;rfl) | rfl) (fun _=>by simp [go_sem, *]) ?_;walk_nrm)
  q_c stepG_region_end
  q_c stepG_seq
  q_c stepG_seq
  q_reg
  (refine QuitsD.value _ Z Z (by k_ne) (fun _=>by go_simp;first | (w_num;rfl) | rfl) (fun _=>by simp [go_sem, *]) ?_;walk_nrm)
  (refine QuitsD.value _ Z Z (by k_ne) (fun _=>by go_simp;first | (w_num;rfl) | rfl) (fun _=>by simp [go_sem, *]) ?_;walk_nrm)
  (refine QuitsD.value _ Z Z (by k_ne) (fun _=>by go_simp;first | (w_num;rfl) | rfl) (fun _=>by simp [go_sem, *]) ?_;walk_nrm)
  (refine QuitsD.value _ Z Z (by k_ne) (fun _=>by go_simp;first | (w_num;rfl) | rfl) (fun _=>by simp [go_sem, *]) ?_;walk_nrm)
  q_skip
  q_skip
  (refine QuitsD.value _ Z Z (by k_ne) (fun _=>by go_simp;first | (w_num;rfl) | rfl) (fun _=>by simp [go_sem, *]) ?_;walk_nrm)
  q_c stepG_region_end
  q_cond false
  q_c stepG_skip
  q_c stepG_seq
  q_reg
  (refine QuitsD.value _ Z Z (by k_ne) (fun _=>by go_simp;first | (w_num;rfl) | rfl) (fun _=>by simp [go_sem, *]) ?_;walk_nrm)
  (refine QuitsD.value _ Z Z (by k_ne) (fun _=>by go_simp;first | (w_num;rfl) | rfl) (fun _=>by simp [go_sem, *]) ?_;walk_nrm)
  (refine QuitsD.value _ Z Z (by k_ne) (fun _=>by go_simp;first | (w_num;rfl) | rfl) (fun _=>by simp [go_sem, *]) ?_;walk_nrm)
  (refine QuitsD.value _ Z Z (by k_ne) (fun _=>by go_simp;first | (w_num;rfl) | rfl) (fun _=>by simp [go_sem, *]) ?_;walk_nrm)
  q_c stepG_region_end
  q_c stepG_seq
  q_reg
  (refine QuitsD.value _ Z Z (by k_ne) (fun _=>by go_simp;first | (w_num;rfl) | rfl) (fun _=>by simp [go_sem, *]) ?_;walk_nrm)
  (refine QuitsD.value _ Z Z (by k_ne) (fun _=>by go_simp;first | (w_num;rfl) | rfl) (fun _=>by simp [go_sem, *]) ?_;walk_nrm)
  (refine QuitsD.value _ Z Z (by k_ne) (fun _=>by go_simp;first | (w_num;rfl) | rfl) (fun _=>by simp [go_sem, *]) ?_;walk_nrm)
  (refine QuitsD.value _ Z Z (by k_ne) (fun _=>by go_simp;first | (w_num;rfl) | rfl) (fun _=>by simp [go_sem, *]) ?_;walk_nrm)
  q_c stepG_region_end
  q_c stepG_seq
  q_c stepG_seq
  q_reg
  (refine QuitsD.value _ Z Z (by k_ne) (fun _=>by go_simp;first | (w_num;rfl) | rfl) (fun _=>by simp [go_sem, *]) ?_;walk_nrm)
  (refine QuitsD.value _ Z Z (by k_ne) (fun _=>by go_simp;first | (w_num;rfl) | rfl) (fun _=>by simp [go_sem, *]) ?_;walk_nrm)
  (refine QuitsD.value _ Z Z (by k_ne) (fun _=>by go_simp;first | (w_num;rfl) | rfl) (fun _=>by simp [go_sem, *]) ?_;walk_nrm)
  (refine QuitsD.value _ Z Z (by k_ne) (fun _=>by go_simp;first | (w_num;rfl) | rfl) (fun _=>by simp [go_sem, *]) ?_;walk_nrm)
  (refine QuitsD.value _ Z Z (by k_ne) (fun _=>by go_simp;first | (w_num;rfl) | rfl) (fun _=>by simp [go_sem, *]) ?_;walk_nrm)
  q_skip
  q_skip
  q_skip
  q_skip
  (refine QuitsD.value _ Z Z (by k_ne) (fun _=>by go_simp;first | (w_num;rfl) | rfl) (fun _=>by simp [go_sem, *]) ?_;walk_nrm)
  q_c stepG_region_end
  q_cond false
  q_c stepG_skip
  q_c stepG_seq
  q_c stepG_seq
  q_reg
  (refine QuitsD.value _ Z Z (by k_ne) (fun _=>by go_simp;first | (w_num;rfl) | rfl) (fun _=>by simp [go_sem, *]) ?_;walk_nrm)
  (refine QuitsD.value _ Z Z (by k_ne) (fun _=>by go_simp;first | (w_num;rfl) | rfl) (fun _=>by simp [go_sem, *]) ?_;walk_nrm)
  q_c stepG_region_end
  q_cond false
  q_c stepG_skip
  q_c stepG_seq
  q_c stepG_seq
  q_reg
  (refine QuitsD.value _ Z Z (by k_ne) (fun _=>by go_simp;first | (w_num;rfl) | rfl) (fun _=>by simp [go_sem, *]) ?_;walk_nrm)
  (refine QuitsD.value _ Z Z (by k_ne) (fun _=>by go_simp;first | (w_num;rfl) | rfl) (fun _=>by simp [go_sem, *]) ?_;walk_nrm)
  (refine QuitsD.value _ Z Z (by k_ne) (fun _=>by go_simp;first | (w_num;rfl) | rfl) (fun _=>by simp [go_sem, *]) ?_;walk_nrm)
  q_skip
  q_skip
  (refine QuitsD.value _ Z Z (by k_ne) (fun _=>by go_simp;first | (w_num;rfl) | rfl) (fun _=>by simp [go_sem, *]) ?_;walk_nrm)
  (refine QuitsD.value _ Z Z (by k_ne) (fun _=>by go_simp;first | (w_num;rfl) | rfl) (fun _=>by simp [go_sem, *]) ?_;walk_nrm)
  q_skip
  q_skip
  q_skip
  q_skip
  (refine QuitsD.value _ Z Z (by k_ne) (fun _=>by go_simp;first | (w_num;rfl) | rfl) (fun _=>by simp [go_sem, *]) ?_;walk_nrm)
  q_c stepG_region_end
  q_cond false
  q_c stepG_skip
  q_c stepG_seq
  q_c stepG_seq
  q_reg
  (refine QuitsD.value _ Z Z (by k_ne) (fun _=>by go_simp;first | (w_num;rfl) | rfl) (fun _=>by simp [go_sem, *]) ?_;walk_nrm)
  (refine QuitsD.value _ Z Z (by k_ne) (fun _=>by go_simp;first | (w_num;rfl) | rfl) (fun _=>by simp [go_sem, *]) ?_;walk_nrm)
  (refine QuitsD.value _ Z Z (by k_ne) (fun _=>by go_simp;first | (w_num;rfl) | rfl) (fun _=>by simp [go_sem, *]) ?_;walk_nrm)
  q_skip
  q_skip
  (refine QuitsD.value _ Z Z (by k_ne) (fun _=>by go_simp;first | (w_num;rfl) | rfl) (fun _=>by simp [go_sem, *]) ?_;walk_nrm)
  q_c stepG_region_end
  q_cond true
  q_c stepG_ret'
  q_enable
  q_leave0 H.f_add
  exact hT
 ·have z:((v:Nat):Int)*KK+((1:Nat):Int)=(v:Int)*KK+1:=by simp
  rw [z]
  have eS:IntKind.u64.wrap (((v:Nat)+1)*KK+1+18446744069414584320)=(v:Int)*KK+1:=by rw [IntKind.wrap_u64]; simp only [KK]; omega
  obtain ⟨S,hS⟩ : ∃ S:Int,S=(v:Int)*KK+1:=⟨_,rfl⟩
  rw [← hS] at eS ⊢
  have a1:S / 4294967296=(v:Int):=by rw [hS]; simp only [KK]; omega
  have a2:0≤S∧S<9223372036854775808:=by rw [hS]; simp only [KK]; omega
  have b1:bits .and .u64 S 2147483648=0:=by rw [hS]; have:=st_flag v 1 X X;simpa [KK] using this
  have b2:bits .and .u64 S 2147483647=1:=by rw [hS]; have:=st_waiters v 1 X X;simpa [KK] using this
  have c1:IntKind.i32.wrap (v:Int)=(v:Int):=by rw [IntKind.wrap_i32]; omega
  have q3:decide ((v:Int)<0)=false:=decide_eq_false X
  have q4:decide (0<(v:Int))=true:=decide_eq_true X
  have q5:((v:Int) == 0)=false:=by simp;omega
  clear hS z
  refine ⟨_,fun w hw=>(stepG_add_atomic Z Z (by k_ne) Z H.f_addU64 (x_addU64_n L) (x_addU64_b L) (x_addU64_x L) .u64 (x_addU64_f L) Z Z (show WgAt L.tWg Wg w (((v:Nat)+1)*KK+1) 0 by simpa using hw).cellSt (hw.thaw 0)).trans (by rw [eS]; rfl),fun hl=>absurd hl.1 X,fun _=>⟨qt+89,?_⟩⟩
  walk_nrm
  (refine QuitsD.value _ Z Z (by k_ne) (fun _=>by go_simp;first | (w_num;rfl) | rfl) (fun _=>by simp [go_sem, *]) ?_;walk_nrm)
  q_c stepG_region_end
  q_c stepG_ret'
  q_leave1 H.f_uAdd
  (refine QuitsD.value _ Z Z (by k_ne) (fun _=>by go_simp;first | (w_num;rfl) | rfl) (fun _=>by simp [go_sem, *]) ?_;walk_nrm)
  q_c stepG_region_end
  q_c stepG_seq
  q_c stepG_seq
  q_reg
  (refine QuitsD.value _ Z Z (by k_ne) (fun _=>by go_simp;first | (w_num;rfl) | rfl) (fun _=>by simp [go_sem, *]) ?_;walk_nrm)
  (refine QuitsD.value _ Z Z (by k_ne) (fun _=>by go_simp;first | (w_num;rfl) | rfl) (fun _=>by simp [go_sem, *]) ?_;walk_nrm)
  (refine QuitsD.value _ Z Z (by k_ne) (fun _=>by go_simp;first | (w_num;rfl) | rfl) (fun _=>by simp [go_sem, *]) ?_;walk_nrm)
  (refine QuitsD.value _ Z Z (by k_ne) (fun _=>by go_simp;first | (w_num;rfl) | rfl) (fun _=>by simp [go_sem, *]) ?_;walk_nrm)
  q_skip
  q_skip
  (refine QuitsD.value _ Z Z (by k_ne) (fun _=>by go_simp;first | (w_num;rfl) | rfl) (fun _=>by simp [go_sem, *]) ?_;walk_nrm)
  q_c stepG_region_end
  q_cond false
  q_c stepG_skip
  q_c stepG_seq
  q_reg
  (refine QuitsD.value _ Z Z (by k_ne) (fun _=>by go_simp;first | (w_num;rfl) | rfl) (fun _=>by simp [go_sem, *]) ?_;walk_nrm)
  (refine QuitsD.value _ Z Z (by k_ne) (fun _=>by go_simp;first | (w_num;rfl) | rfl) (fun _=>by simp [go_sem, *]) ?_;walk_nrm)
  (refine QuitsD.value _ Z Z (by k_ne) (fun _=>by go_simp;first | (w_num;rfl) | rfl) (fun _=>by simp [go_sem, *]) ?_;walk_nrm)
  (refine QuitsD.value _ Z Z (by k_ne) (fun _=>by go_simp;first | (w_num;rfl) | rfl) (fun _=>by simp [go_sem, *]) ?_;walk_nrm)
  q_c stepG_region_end
  q_c stepG_seq
  q_reg
  (refine QuitsD.value _ Z Z (by k_ne) (fun _=>by go_simp;first | (w_num;rfl) | rfl) (fun _=>by simp [go_sem, *]) ?_;walk_nrm)
  (refine QuitsD.value _ Z Z (by k_ne) (fun _=>by go_simp;first | (w_num;rfl) | rfl) (fun _=>by simp [go_sem, *]) ?_;walk_nrm)
  (refine QuitsD.value _ Z Z (by k_ne) (fun _=>by go_simp;first | (w_num;rfl) | rfl) (fun _=>by simp [go_sem, *]) ?_;walk_nrm)
  (refine QuitsD.value _ Z Z (by k_ne) (fun _=>by go_simp;first | (w_num;rfl) | rfl) (fun _=>by simp [go_sem, *]) ?_;walk_nrm)
  q_c stepG_region_end
  q_c stepG_seq
  q_c stepG_seq
  q_reg
  (refine QuitsD.value _ Z Z (by k_ne) (fun _=>by go_simp;first | (w_num;rfl) | rfl) (fun _=>by simp [go_sem, *]) ?_;walk_nrm)
  (refine QuitsD.value _ Z Z (by k_ne) (fun _=>by go_simp;first | (w_num;rfl) | rfl) (fun _=>by simp [go_sem, *]) ?_;walk_nrm)
  (refine QuitsD.value _ Z Z (by k_ne) (fun _=>by go_simp;first | (w_num;rfl) | rfl) (fun _=>by simp [go_sem, *]) ?_;walk_nrm)
  (refine QuitsD.value _ Z Z (by k_ne) (fun _=>by go_simp;first | (w_num;rfl) | rfl) (fun _=>by simp [go_sem, *]) ?_;walk_nrm)
  (refine QuitsD.value _ Z Z (by k_ne) (fun _=>by go_simp;first | (w_num;rfl) | rfl) (fun _=>by simp [go_sem, *]) ?_;walk_nrm)
  q_skip
  q_skip
  q_skip
  q_skip
  (refine QuitsD.value _ Z Z (by k_ne) (fun _=>by go_simp;first | (w_num;rfl) | rfl) (fun _=>by simp [go_sem, *]) ?_;walk_nrm)
  q_c stepG_region_end
  q_cond false
  q_c stepG_skip
  q_c stepG_seq
  q_c stepG_seq
  q_reg
  (refine QuitsD.value _ Z Z (by k_ne) (fun _=>by go_simp;first | (w_num;rfl) | rfl) (fun _=>by simp [go_sem, *]) ?_;walk_nrm)
  (refine QuitsD.value _ Z Z (by k_ne) (fun _=>by go_simp;first | (w_num;rfl) | rfl) (fun _=>by simp [go_sem, *]) ?_;walk_nrm)
  q_c stepG_region_end
  q_cond false
  q_c stepG_skip
  q_c stepG_seq
  q_c stepG_seq
  q_reg
  (refine QuitsD.value _ Z Z (by k_ne) (fun _=>by go_simp;first | (w_num;rfl) | rfl) (fun _=>by simp [go_sem, *]) ?_;walk_nrm)
  (refine QuitsD.value _ Z Z (by k_ne) (fun _=>by go_simp;first | (w_num;rfl) | rfl) (fun _=>by simp [go_sem, *]) ?_;walk_nrm)
  (refine QuitsD.value _ Z Z (by k_ne) (fun _=>by go_simp;first | (w_num;rfl) | rfl) (fun _=>by simp [go_sem, *]) ?_;walk_nrm)
  (refine QuitsD.value _ Z Z (by k_ne) (fun _=>by go_simp;first | (w_num;rfl) | rfl) (fun _=>by simp [go_sem, *]) ?_;walk_nrm)
  (refine QuitsD.value _ Z Z (by k_ne) (fun _=>by go_simp;first | (w_num;rfl) | rfl) (fun _=>by simp [go_sem, *]) ?_;walk_nrm)
  (refine QuitsD.value _ Z Z (by k_ne) (fun _=>by go_simp;first | (w_num;rfl) | rfl) (fun _=>by simp [go_sem, *]) ?_;walk_nrm)
  (refine QuitsD.value _ Z Z (by k_ne) (fun _=>by go_simp;first | (w_num;rfl) | rfl) (fun _=>by simp [go_sem, *]) ?_;walk_nrm)
  q_skip
  q_skip
  q_skip
  q_skip
  (refine QuitsD.value _ Z Z (by k_ne) (fun _=>by go_simp;first | (w_num;rfl) | rfl) (fun _=>by simp [go_sem, *]) ?_;walk_nrm)
  q_c stepG_region_end
  q_cond false
  q_c stepG_skip
  q_c stepG_seq
  q_c stepG_seq
  q_reg
  (refine QuitsD.value _ Z Z (by k_ne) (fun _=>by go_simp;first | (w_num;rfl) | rfl) (fun _=>by simp [go_sem, *]) ?_;walk_nrm)
  (refine QuitsD.value _ Z Z (by k_ne) (fun _=>by go_simp;first | (w_num;rfl) | rfl) (fun _=>by simp [go_sem, *]) ?_;walk_nrm)
  (refine QuitsD.value _ Z Z (by k_ne) (fun _=>by go_simp;first | (w_num;rfl) | rfl) (fun _=>by simp [go_sem, *]) ?_;walk_nrm)
  q_skip
  q_skip
  (refine QuitsD.value _ Z Z (by k_ne) (fun _=>by go_simp;first | (w_num;rfl) | rfl) (fun _=>by simp [go_sem, *]) ?_;walk_nrm)
  q_c stepG_region_end
  q_cond true
  q_c stepG_ret'
  q_enable
  q_leave0 H.f_add
  exact hT
end Tor.Co
end
section
namespace Tor.Co
open Go Go.Conc Go.ConcN Go.RowKit Go.Conc.Lib Go.ConcR.Gen Go.ConcN.Gen
open Go.ConcR (KK wgBlock WgAt stA smA rd wr mk DC0)
set_option maxRecDepth 100000 in
theorem doneNeg {P:Program} {L:WgLink} (H:WgLib P L) {Wg:Nat} {c:Frame} {cs:List Frame} {qt:Nat} (hcm:c.mode = .returning) (hT:QuitsD P qt 0 (G c cs)) :
  LGo P false L.tWg Wg (R0 P L.tWg Wg) (G ((baseD L.done).at ⟨#[.pointer (some ⟨Wg,0,none⟩),undef,undef,undef], []⟩ [.code (body_done L)]) (c :: cs)):=by
 obtain ⟨m,hm⟩ := @addNeg P L H Wg (baseD L.done) ⟨#[.pointer (some ⟨Wg,0,none⟩),undef, .pointer (some ⟨Wg,0,none⟩),undef], []⟩ (match body_done L with | .region _ ops _=>ops | _ => #[]) 1 [] [] (c :: cs) (qt+3) (by
  lib_facts
  simp only [body_done,doneFn,Option.getD_some]
  walk_nrm
  q_c stepG_region_end
  q_c stepG_end
  exact QuitsD.leaveD Z Z H.f_done Z hcm hT)
 refine ⟨m+3,fun w hK => ?_⟩
 unfold Lg
 lib_facts
 simp only [body_done,doneFn,Option.getD_some]
 u_reg rl hK
 u_op rl hK
 u_in rl hK
 refine goes_call Z Z (by k_ne) Z H.f_add (nm_add L) Z ⟨by u_nil,?_⟩
 have h:=hm _ hK
 revert h
 unfold Lg
 simp only [body_add,body_done,doneFn,addFn,Option.getD_some]
 walk_nrm
 exact id
end Tor.Co
end
section
namespace Tor.Co
open Go Go.Conc Go.ConcN Go.RowKit Go.Conc.Lib Go.ConcR.Gen Go.ConcN.Gen
open Go.ConcR (KK wgBlock WgAt stA smA rd wr mk DC0)
section
variable {P:Program} {m:Bool} {ty:TypeId} {Wg:Nat} {Stop Stop':Goroutine→Prop} {g g':Goroutine}
theorem LGo.stop (h:Stop g):LGo P m ty Wg Stop g:=⟨0,fun w _=>Goes.stop fun _ _=>h⟩
theorem LGo.calm (hs:g.status = .running) (h : ∀ w,stepG P m g w = .go g' w #[]) (k:LGo P m ty Wg Stop g'):LGo P m ty Wg Stop g :=
 let ⟨n,hn⟩:=k
 ⟨n+1,fun w hw=>Goes.step hs fun w₁ h₁=>by rw [h w₁]; exact ⟨⟨rfl,rfl⟩,hn w₁ (h₁ hw)⟩⟩
theorem Goes.imp {R:World→World→Prop} {D:World→World→Array Event→Prop} {S1 S2:Goroutine→World→Prop} (hs : ∀ g w,S1 g w→S2 g w) : ∀ {n:Nat} {g:Goroutine} {w:World},Goes P m R D S1 n g w→Goes P m R D S2 n g w
 | 0, _, _, h => fun w₁ hw => hs _ _ (h w₁ hw)
 | n + 1, g, w, h => h.elim (fun h => .inl fun w₁ hw => hs _ _ (h w₁ hw)) fun ⟨h1, h2⟩ => .inr ⟨h1, fun w₁ hw => by
   have:=h2 w₁ hw
   revert this
   cases stepG P m g w₁ <;> first | exact fun ⟨h3,h4⟩=>⟨h3,Goes.imp hs h4⟩ | exact id⟩
theorem LGo.mono (hs : ∀ g,Stop g→Stop' g) (h:LGo P m ty Wg Stop g):LGo P m ty Wg Stop' g :=
 let ⟨n,hn⟩:=h
 ⟨n,fun w hw=>Goes.imp (fun g _=>hs g) (hn w hw)⟩
theorem Says.mono {k:Mark} (hs : ∀ g,Stop g→Stop' g) (h:Says P m ty Wg k Stop g):Says P m ty Wg k Stop' g :=
 let ⟨h1,g',h2,h3⟩:=h
 ⟨h1,g',h2,h3.mono hs⟩
theorem W1.mono {Ret:Goroutine→Prop} (hs : ∀ g,Stop g→Stop' g) (h:W1 P ty Wg Ret Stop g):W1 P ty Wg Ret Stop' g :=
 let ⟨h1,h2⟩:=h
 ⟨h1,fun v hv=>let ⟨g',a,b,c⟩:=h2 v hv;⟨g',a,b,fun h=>(c h).mono fun g ⟨x,y,z,t,u⟩=>⟨x,y,z,t,u.mono hs⟩⟩⟩
end
end Tor.Co
namespace Tor.Co
open Go Go.Conc Go.ConcN Go.RowKit Go.Conc.Lib Go.ConcR.Gen Go.ConcN.Gen
section
variable {P:Program} {m:Bool} {b:Frame} {a:Act} {k:List Item} {cs:List Frame}
theorem sG_reg {id:Nat} {ops:Array Oper} {l:List Nat} (h:List.range ops.size=l) (w:World):stepG P m (G (b.atR a (.code (.region id ops false) :: k)) cs) w = .go (G (b.atR a (.inRegion ops l :: k)) cs) w #[]:=by
 rw [← h]; exact sG_region
theorem sG_calm {ops:Array Oper} {i:Nat} {rest:List Nat} {o:Oper} {v:Value} {d:Option Tmp} (hb:b.roundOf=none) (hk:b.kind ≠ .early) (ho:ops[i]? = some o) (hg:o.guard=none) (hd:o.dst=d) (hr : ∀ w,(execOp a.eval o).run P w = .ok (.value v) w)
  (he : ∀ w,(execOp a.eval o).events P w #[] = #[]) (w:World):stepG P m (G (b.atR a (.inRegion ops (i :: rest) :: k)) cs) w = .go (G (b.atR (a.put d v) (.inRegion ops rest :: k)) cs) w #[]:=by
 letI:Kc:=noAsk
 subst hd
 have:=sG_val (P:=P) (m:=m) (R:=none) (k:=k) (cs:=cs) (rest:=rest) (.inl Z) ho (by simp [Region.wanted,hg]) hb hk (hr w)
 rw [this,he w]
 simp [seen_none]
theorem sG_enter {ops:Array Oper} {i:Nat} {rest:List Nat} {o:Oper} {f:FuncId} {fn:Func} {c:Code} {args:Array Operand} {ats:Array TypeId} (hb:b.roundOf=none) (hk:b.kind ≠ .early) (ho:ops[i]? = some o) (hg:o.guard=none)
  (hop:o.op = .call { callee := .value (.func f),args,argTypes:=ats }) (hf:P.funcs[f]? = some fn) (hname:(fn.name == "runtime.NumGoroutine")=false) (hbd:fn.body=some c) (w:World) :
  stepG P m (G (b.atR a (.inRegion ops (i :: rest) :: k)) cs) w = .go (G ((base f).at { tmps:=args.map a.eval ++ Array.replicate (fn.ntmps - (args.map a.eval).size) undef,defers := [] } [.code c]) (b.at a (.inRegion ops (i :: rest) :: k) :: cs)) w #[]:=by
 have hb':fn.body.isNone=false:=by rw [hbd]; rfl
 rw [Frame.atR_of_none hb,stepG_enter ho (by simp [Region.wanted,hg]) hk (run_call_body hop hf hname hb'),enter_at _ hf hbd]
 have:listed P b.fn a o w = #[]:=by unfold listed;rw [events_call_body hop hf hname hb']; exact seen_none P _
 rw [this]
end
end Tor.Co
end
section
namespace Go.Proofs
abbrev Tryz.link:Go.Conc.Lib.WgLink := { add:=64,done:=66,wait:=67,relMerge:=93,disable:=94,enable:=95,inBubble:=96,associate:=97,fatal:=98,uOr:=99,uAdd:=100,raceRead:=101,uLoad:=102,uStore:=103,disassociate:=104,semrelease:=105,acquire:=106,isAssociated:=107,uCas:=108,raceWrite:=109,semacquire:=110,orU64:=136,addU64:=137,loadU64:=138,storeU64:=139,casU64:=140,tWgP:=133,tUP:=135,tAssoc:=136,tWg:=112,tAU:=110,tU64:=47,tUint:=84,tU32:=83,tPU32:=140,tPAU:=165,tPU64:=167,tNoCopy:=106,tANoCopy:=107,tAlign64:=108 }
theorem Tryz.wgLib:Go.Conc.Lib.WgLib Tryz.prog Tryz.link :=
 ⟨Tryz.func64,Tryz.func66,Tryz.func67,Tryz.func93,Tryz.func94,Tryz.func95,Tryz.func96,Tryz.func97,Tryz.func98,Tryz.func99,Tryz.func100,Tryz.func101,Tryz.func102,Tryz.func103,Tryz.func104,Tryz.func105,Tryz.func106,Tryz.func107,Tryz.func108,Tryz.func109,Tryz.func110,Tryz.func136,Tryz.func137,Tryz.func138,Tryz.func139,Tryz.func140,Tryz.underlying133,Tryz.runUnderlying133,Tryz.sizeOf133,Tryz.isAgg133,Tryz.zeroValue133,Tryz.underlying135,Tryz.runUnderlying135,Tryz.sizeOf135,Tryz.isAgg135,Tryz.zeroValue135,Tryz.underlying136,Tryz.runUnderlying136,Tryz.sizeOf136,Tryz.isAgg136,Tryz.zeroValue136,Tryz.underlying112,Tryz.runUnderlying112,Tryz.sizeOf112,Tryz.isAgg112,Tryz.zeroValue112,Tryz.underlying110,Tryz.runUnderlying110,Tryz.sizeOf110,Tryz.isAgg110,Tryz.zeroValue110,Tryz.underlying47,Tryz.runUnderlying47,Tryz.sizeOf47,Tryz.isAgg47,Tryz.zeroValue47,Tryz.underlying84,Tryz.runUnderlying84,Tryz.sizeOf84,Tryz.isAgg84,Tryz.zeroValue84,Tryz.underlying83,Tryz.runUnderlying83,Tryz.sizeOf83,Tryz.isAgg83,Tryz.zeroValue83,Tryz.underlying140,Tryz.runUnderlying140,Tryz.sizeOf140,Tryz.isAgg140,Tryz.zeroValue140,Tryz.underlying165,Tryz.runUnderlying165,Tryz.sizeOf165,Tryz.isAgg165,Tryz.zeroValue165,Tryz.underlying167,Tryz.runUnderlying167,Tryz.sizeOf167,Tryz.isAgg167,Tryz.zeroValue167,Tryz.underlying0,Tryz.runUnderlying0,Tryz.sizeOf0,Tryz.isAgg0,Tryz.zeroValue0,Tryz.underlying3,Tryz.runUnderlying3,Tryz.sizeOf3,Tryz.isAgg3,Tryz.zeroValue3,Tryz.underlying4,Tryz.runUnderlying4,Tryz.sizeOf4,Tryz.isAgg4,Tryz.zeroValue4,Tryz.underlying9,Tryz.runUnderlying9,Tryz.sizeOf9,Tryz.isAgg9,Tryz.zeroValue9,Tryz.underlying20,Tryz.runUnderlying20,Tryz.sizeOf20,Tryz.isAgg20,Tryz.zeroValue20,Tryz.underlying21,Tryz.runUnderlying21,Tryz.sizeOf21,Tryz.isAgg21,Tryz.zeroValue21,Y,Y⟩
end Go.Proofs
end
section
namespace Tor
open Go
def Hp.sees (h h':Hp):Prop := ∀ b c T f,c ≠ #[]→h b=some (c,T,f) → ∃ f',h' b=some (c,T,f')
class Thaw (φ:VT):Prop where
 thaw : ∀ {v h h'},Hp.sees h h'→φ.p v h→φ.p v h'
class ThawC (cs:bW):Prop where
 thaw : ∀ q∈cs,Thaw q.2.2
class Big (L:Lay):Prop where
 pos:0<L.sz
instance:Big .one:=⟨Nat.one_pos⟩
instance {n:Nat} : Big (.agg (n+1)):=⟨Nat.succ_pos n⟩
theorem ro {L:Lay} [hL:Big L] {c:Array Value} {o:Nat} {x:Value} (h:bP L c o=some x):c ≠ #[]:=by
 rintro rfl
 cases L with
 | one => simp [bP] at h
 | agg n =>
  have:=hL.pos
  simp only [Lay.sz] at this
  simp only [bP] at h
  split at h
  ·rename_i h1;simp at h1;omega
  ·cases h
instance {x:Value} : Thaw (one x):=⟨fun _ h=>h⟩
instance {L:Lay} {φ:VT} [Big L] [hφ:Thaw φ]:Thaw (bL L φ):=⟨fun H ⟨b,o,c,T,f,x,hv,hb,hx,hp⟩ =>
 let ⟨f',hb'⟩:=H b c T f (ro hx) hb;⟨b,o,c,T,f',x,hv,hb',hx,hφ.thaw H hp⟩⟩
instance {L:Lay} {n:Nat} {φ:Nat→VT} [Big L] [hφ : ∀ i,Thaw (φ i)]:Thaw (slT L n φ):=⟨fun H ⟨a,cap,hv,h1,h2,he⟩=>⟨a,cap,hv,h1,h2,fun i hi =>
 let ⟨b,o,c,T,f,x,ha,hb,hx,hp⟩:=he i hi;let ⟨f',hb'⟩:=H b c T f (ro hx) hb;⟨b,o,c,T,f',x,ha,hb',hx,(hφ i).thaw H hp⟩⟩⟩
instance:ThawC []:=⟨fun _ h=>by simp at h⟩
instance {q:Nat × Lay × VT} {cs:bW} [h1:Thaw q.2.2] [h2:ThawC cs]:ThawC (q :: cs):=⟨fun x hx=>by
 rcases List.mem_cons.1 hx with rfl | hx
 ·exact h1
 ·exact h2.thaw x hx⟩
instance {m:Nat} {cs:bW} [hc:ThawC cs]:Thaw (bE m cs):=⟨fun H ⟨c,hv,hs,ha,hp⟩=>⟨c,hv,hs,ha,fun q hq=>let ⟨x,hx,hp'⟩:=hp q hq;⟨x,hx,(hc.thaw q hq).thaw H hp'⟩⟩⟩
instance {x:Int} : Thaw (aU x):=by unfold aU;infer_instance
instance {c:Nat} {f:Nat→Int} : Thaw (ei c f):=by unfold ei;infer_instance
instance {r c:Nat} {F:Nat→Nat→Int} : Thaw (cr r c F):=by unfold cr;infer_instance
end Tor
end
section
namespace Tor.Co
open Go Go.Conc Go.RowKit
section
variable [Kc] (P:Program)
def wpOpsU (ops:Array Oper) (s:Nat) (BT:List Nat→Act→World→Prop):List Nat→Act→World→Prop
 | [], _, _ => False
 | i :: rest, a, w => if i = s then BT rest a w else ∀ w₁, Grow w w₁ → wpOpX P ops i (wpOpsU ops s BT rest) a w₁
def wpAnyU (md:Region.Mode) (ops:Array Oper) (s:Nat) (BT:List Nat→Act→World→Prop):Nat→Array Bool→Act→World→Prop
 | 0, _, _, _ => False
 | fuel + 1, l, a, w => Region.ready md ops l ≠ [] ∧ ∀ i ∈ Region.ready md ops l, if i = s then ∀ t, BT (Region.linearise.go md ops fuel t (l.setIfInBounds i true) []) a w
   else ∀ w₁,Grow w w₁→wpOpX P ops i (wpAnyU md ops s BT fuel (l.setIfInBounds i true)) a w₁
end
section
variable [Kc] {P:Program} {m:Bool} {Stop:Goroutine→World→Prop} {b:Frame} {k:List Item} {cs:List Frame} {a:Act} {w:World} {R:Option Nat} {ops:Array Oper} {s:Nat} {BT:List Nat→Act→World→Prop}
theorem wpOpsU_go (hok:OkOps P R ops) (hb:b.roundOf=R) (hk:b.kind ≠ .early) (hc : ∀ rest a w,BT rest a w→GoI P m Stop (G (b.atR a (.inRegion ops (s :: rest) :: k)) cs) w) :
  ∀ (l:List Nat) (a:Act) (w:World),wpOpsU P ops s BT l a w→GoI P m Stop (G (b.atR a (.inRegion ops l :: k)) cs) w
 | [], _, _, h => h.elim
 | i :: l, a, w, h => by
  unfold wpOpsU at h
  split at h
  ·rename_i e;subst e;exact hc _ _ _ h
  ·exact opX_go hok hb hk h fun a' w' h'=>wpOpsU_go hok hb hk hc l a' w' h'
theorem wpAnyU_sound {md:Region.Mode} : ∀ (fuel t:Nat) (l:Array Bool) (a:Act) (w:World),wpAnyU P md ops s BT fuel l a w→wpOpsU P ops s BT (Region.linearise.go md ops fuel t l []) a w:=by
 intro fuel
 induction fuel with
 | zero => intro t l a w h; exact h.elim
 | succ fuel ih =>
  intro t l a w h
  obtain ⟨h₀,h₁⟩:=h
  simp only [Region.linearise.go]
  change wpOpsU P ops s BT (match (Region.ready md ops l)[t % (Region.ready md ops l).length]? with
   | some i => Region.linearise.go md ops fuel (t / (Region.ready md ops l).length) (l.setIfInBounds i true) [i]
   | none => [].reverse) a w
  cases hi:(Region.ready md ops l)[t % (Region.ready md ops l).length]? with
  | none =>
   have hlen:0<(Region.ready md ops l).length:=List.length_pos_iff.2 h₀
   have:=Nat.mod_lt t hlen
   rw [List.getElem?_eq_none_iff] at hi
   omega
  | some i =>
   simp only []
   rw [linearise_go_acc,List.reverse_singleton,List.singleton_append]
   have:=h₁ i (List.mem_of_getElem? hi)
   unfold wpOpsU
   split
   ·rename_i e;rw [if_pos e] at this;exact this _
   ·rename_i e;rw [if_neg e] at this;exact fun w₁ hw=>wpOpX_mono (ih _ _) (this w₁ hw)
theorem wpU_region_any {id:Nat} (hm:P.follows .mixedOrders=true) (hok:OkOps P R ops) (hb:b.roundOf=R) (hk:b.kind ≠ .early) (hc : ∀ rest a w,BT rest a w→GoI P m Stop (G (b.atR a (.inRegion ops (s :: rest) :: k)) cs) w)
  (h : ∀ w₁,Grow w w₁→wpAnyU P .any ops s BT ops.size (Array.replicate ops.size false) a { w₁ with drawn:=w₁.drawn+1 }):GoI P m Stop (G (b.atR a (.code (.region id ops true) :: k)) cs) w:=by
 have go : ∀ w₁ t,Grow w w₁→GoI P m Stop (G (b.atR a (.inRegion ops (Region.schedule (P.follows .mixedOrders) ops t) :: k)) cs) { w₁ with drawn:=w₁.drawn+1 } := fun w₁ t h₁=>by
  refine wpOpsU_go hok hb hk hc _ _ _ ?_
  simp only [Region.schedule,hm,Bool.true_or,if_true]
  exact wpAnyU_sound ops.size t _ a _ (h w₁ h₁)
 refine .step Z (fun w₁ h₁=>⟨_,_,_,sG_draw,fun F BU wt hM hF=>⟨{ wt with drawn:=wt.drawn+1 }, #[],?_,hM.draw,Mine.drawn',fun e he=>by simp at he⟩⟩) fun w₁ g' w' es h₁ e => ?_
 ·rw [sG_draw,hM.tape,hM.drawn]
 ·rw [sG_draw] at e;cases e;exact go w₁ _ h₁
end
end Tor.Co
end
section
namespace Tor
open Go Go.RowKit
section
variable [Co.Kc] {P:Program} {E:Env} {ops:Array Oper}
theorem xZ {n:Nat} (hok:dX (n+1) ops=true) (hns:n+1=ops.size) {G:Nat→Ctx} {M:Mem} {D:List Deferred} (hG : ∀ j o,j<n→ops[j]? = some o→StepG P E (G j) M ops o (G (j+1)))
  {BT:List Nat→Act→World→Prop} (hU : ∀ fuel t l a w,Lst ops l→(∀ i,eJ ops i n=true→l.getD i false=true)→l.getD n false=false→Base E M w→a.tmps.size=E.N→a.defers=D→Inv E ops n G M l a w→BT (Region.linearise.go .any ops fuel t (l.setIfInBounds n true) []) a w) :
  ∀ (fuel:Nat) (l:Array Bool) (a:Act) (w:World),Lst ops l→left ops l≤fuel→Base E M w→a.tmps.size=E.N→a.defers=D→Inv E ops n G M l a w→l.getD n false=false→Co.wpAnyU P .any ops n BT fuel l a w:=by
 have hn:n≤ops.size:=by omega
 intro fuel
 induction fuel with
 | zero =>
  intro l a w hl hleft _ _ _ _ hil
  have:=dj (ops:=ops) hl.size (i:=n) X hil
  omega
 | succ fuel ih =>
  intro l a w hl hleft hbase hsz hdf hinv hil0
  have hls:=hl.size
  refine ⟨fun hr => ?_,fun i hi => ?_⟩
  ·obtain ⟨i,hi⟩:=j9 hok hls (j:=n) X hil0
   rw [hr] at hi;cases hi
  ·by_cases hin':i=n
   ·subst hin'
    rw [if_pos Z]
    exact fun t=>hU fuel t l a w hl (fun j hp=>bS hi hp) hil0 hbase hsz hdf hinv
   rw [if_neg hin']
   intro w₁ hw₁
   have hi1:=cy hi
   have hi2:l.getD i false=false:=by
    have:=(mem_ready.1 hi).1
    rw [c5 X true false] at this;exact this
   have hin:i<n:=by omega
   have ho:ops[i]? = some ops[i]:=by simp [hi1]
   obtain ⟨d, ψ,hd,hN,hΓ,hrun⟩:=(hG i _ hin ho).run ho
   have hdi:dstOf ops i=some d:=by simp [dstOf,ho,hd]
   replace hbase:=hbase.ext hw₁
   replace hinv:Inv E ops n G M l a w₁:=fun k hk t φ h1 h2 h3=>φ.mono (Base.hv_ext hw₁) (hinv k hk t φ h1 h2 h3)
   refine hrun a _ hbase (fun t φ ht hlk => ?_) _ fun v w' k hv' => ?_
   ·refine hinv i X t φ hlk (fun j hj hdj => ?_) (fun j hj hjs hdj => ?_)
    ·rcases cu hok hj hi1 with hp | ⟨_,hp⟩
     ·exact bS hi hp
     ·rw [dY hdj (by simpa [cR,ho] using ht)] at hp;cases hp
    ·rcases Nat.lt_or_ge i j with h' | h'
     ·rw [← Bool.not_eq_true]; intro hlj
      rcases cu hok h' hjs with hp | ⟨_,hp⟩
      ·have:=hl.closed j hlj i hp;rw [this] at hi2;cases hi2
      ·rw [dF hdj (by simpa [cR,ho] using ht)] at hp;cases hp
     ·have:j=i:=by omega
      subst this;exact hi2
   ·have hl':Lst ops (l.setIfInBounds i true):=by
     refine ⟨by simpa using hls,fun j hj i' hp => ?_⟩
     rw [aZ X] at hj ⊢
     split
     ·rfl
     ·split at hj
      ·rename_i h1;subst h1;exact bS hi hp
      ·exact hl.closed j hj i' hp
    have hbase':=hbase.ext k
    have hsz':(a.put (some d) v).tmps.size=E.N:=by simp [Act.put,hsz]
    have hinv':Inv E ops n G M (l.setIfInBounds i true) (a.put (some d) v) w':=by
     intro k' hk' t φ hlk hlo hhi
     by_cases htd:d=t
     ·subst htd
      have hik:i<k':=by
       rcases Nat.lt_or_ge i k' with h' | h'
       ·exact h'
       ·have:=hhi i h' hi1 hdi;rw [aZ X] at this;simp at this
      have hno : ∀ j,i+1≤j→j<k'→dstOf ops j≠some d:=by
       intro j h1 h2 hdj
       have h3:=hlo j h2 hdj
       rw [aZ X,if_neg X] at h3
       rcases cu hok (i:=i) (j:=j) X X with hp | ⟨_,hp⟩
       ·have:=hl.closed j h3 i hp;rw [this] at hi2;cases hi2
       ·rw [eL hdi hdj] at hp;cases hp
      rw [di hG hn (i:=i+1) X hk' hno,hΓ,aW,if_pos Z] at hlk
      cases hlk
      rw [be (by rw [hsz]; exact hN)]; exact hv'
     ·rw [aP htd]
      refine φ.mono (Base.hv_ext k) (hinv k' hk' t φ hlk (fun j hj hdj => ?_) (fun j hj hjs hdj => ?_))
      ·have:=hlo j hj hdj;rw [aZ X] at this
       split at this
       ·rename_i h1;subst h1;rw [hdi] at hdj;cases hdj;exact absurd Z htd
       ·exact this
      ·have:=hhi j hj hjs hdj;rw [aZ X] at this
       split at this
       ·cases this
       ·exact this
    have hleft':=dj (ops:=ops) hls hi1 hi2
    exact ih _ _ _ hl' X hbase' hsz' hdf hinv' (by rw [aZ X,if_neg hin']; exact hil0)
theorem zD {fuel:Nat} : ∀ {t:Nat} {l:Array Bool},l.size=ops.size→(∀ i∈Region.linearise.go .any ops fuel t l [],i<ops.size∧l.getD i false=false)∧(Region.linearise.go .any ops fuel t l []).Nodup:=by
 induction fuel with
 | zero => intro t l hs; simp [Region.linearise.go]
 | succ fuel ih =>
  intro t l hs
  have e:Region.linearise.go .any ops (fuel+1) t l []=match (Region.ready .any ops l)[t % (Region.ready .any ops l).length]? with
   | some i => Region.linearise.go .any ops fuel (t / (Region.ready .any ops l).length) (l.setIfInBounds i true) [i]
   | none => [].reverse := by simp only [Region.linearise.go]; rfl
  rw [e]
  cases hi:(Region.ready .any ops l)[t % (Region.ready .any ops l).length]? with
  | none => simp
  | some i =>
   simp only []
   rw [linearise_go_acc,List.reverse_singleton,List.singleton_append]
   have hm:=List.mem_of_getElem? hi
   have hi1:=cy hm
   have hi2:l.getD i false=false:=by
    have:=(mem_ready.1 hm).1
    rw [c5 X true false] at this;exact this
   obtain ⟨h1,h2⟩ := @ih (t / (Region.ready .any ops l).length) (l.setIfInBounds i true) (by simpa using hs)
   refine ⟨fun j hj => ?_,List.nodup_cons.2 ⟨fun hj => ?_,h2⟩⟩
   ·rcases List.mem_cons.1 hj with rfl | hj
    ·exact ⟨hi1,hi2⟩
    ·have:=(h1 j hj).2
     rw [aZ X] at this
     split at this
     ·cases this
     ·exact ⟨(h1 j hj).1,this⟩
   ·have:=(h1 i hj).2
    rw [aZ X,if_pos Z] at this;cases this
theorem sQ {D:List Deferred} {Γ:Ctx} {M:Mem} {BT:List Nat→Act→World→Prop} (n:Nat) (hok:dX (n+1) ops=true) (hns:n+1=ops.size) (hnd:dstOf ops n=none)
  (h:Run P E ops true 0 D Γ M (ops.toList.take n) (fun D' Γ' M' => ∀ rest a w,Base E M' w→a.tmps.size=E.N→a.defers=D'→(∀ t φ,bt Γ' t=some φ→(∀ j,j<n→dstOf ops j=some t→eJ ops j n=true)→φ.p (a.tmps.getD t undef) (hv E M' w)) →
   rest.Nodup→(∀ i∈rest,i<n∧eJ ops i n=false)→BT rest a w)) {a:Act} {w:World} (hS:St E D Γ M a w) :
  ∀ w₁,Co.Grow w w₁→Co.wpAnyU P .any ops n BT ops.size (Array.replicate ops.size false) a { w₁ with drawn:=w₁.drawn+1 } := by
 intro w₁ hw₁
 have hn:n≤ops.size:=by omega
 have k:Ext w { w₁ with drawn:=w₁.drawn+1 } := hw₁.trans ⟨rfl,rfl,rfl,Nat.le_refl _,fun _ _=>rfl⟩
 obtain ⟨G,hG0,hK,hG⟩:=h.chain Z
 have hlen:(ops.toList.take n).length=n:=by simp [hn]
 rw [hlen,Nat.zero_add] at hK
 have hG' : ∀ j o,j<n→ops[j]? = some o→StepG P E (G j) M ops o (G (j+1)):=fun j o hj ho=>by
  have:=hG j o (by rw [List.getElem?_take,if_pos hj]; simpa using ho)
  simpa using this
 refine xZ (D:=D) hok hns (G:=G) (M:=M) hG' (fun fuel t l a' w' hl hp hln hb hsz hdf hinv => ?_) ops.size _ a _ ⟨by simp,fun j hj => ?_⟩ ?_ (hS.base.ext k) hS.sz hS.df ?_ ?_
 ·have hls:=hl.size
  obtain ⟨h1,h2⟩:=zD (ops:=ops) (fuel:=fuel) (t:=t) (l:=l.setIfInBounds n true) (by simpa using hls)
  refine hK _ a' w' hb hsz hdf (fun t φ hlk hall=>hinv n (Nat.le_refl _) t φ hlk (fun j hj hd=>hp j (hall j hj hd)) fun j hj hjs hd => ?_) h2 fun i hi => ?_
  ·have:j=n:=by omega
   subst this
   rw [hnd] at hd;cases hd
  ·obtain ⟨h3,h4⟩:=h1 i hi
   rw [aZ X] at h4
   split at h4
   ·cases h4
   ·refine ⟨by omega,?_⟩
    rw [← Bool.not_eq_true]; intro hpi
    rw [hp i hpi] at h4;cases h4
 ·simp [Array.getD_eq_getD_getElem?,Array.getElem?_replicate] at hj;split at hj <;> simp at hj
 ·unfold left;refine Nat.le_trans (List.length_filter_le _ _) (by simp)
 ·intro k' hk' t φ hlk hlo _
  have hno : ∀ j,0≤j→j<k'→dstOf ops j≠some t:=by
   intro j _ hj hd
   have:=hlo j hj hd
   simp [Array.getD_eq_getD_getElem?,Array.getElem?_replicate] at this;split at this <;> simp at this
  rw [di hG' hn (Nat.zero_le _) hk' hno,hG0] at hlk
  exact φ.mono (Base.hv_ext k) (hS.tm t φ hlk)
 ·simp [Array.getD_eq_getD_getElem?,Array.getElem?_replicate]; split <;> rfl
end
end Tor
end
section
namespace Tor.Co
open Go Go.Conc Go.ConcN Go.RowKit Go.Conc.Lib Go.ConcR.Gen Go.ConcN.Gen Go.Proofs
open Go.ConcR (KK wgBlock WgAt stA smA rd wr mk DC0)
def sndC:Code→Code
 | .seq _ y => y
 | c => c
def fstC:Code→Code
 | .seq x _ => x
 | c => c
def inC:Code→Code
 | .block _ x => x
 | .loop x => x
 | c => c
def opsC:Code→Array Oper
 | .region _ ops _ => ops
 | _ => #[]
noncomputable def bodyD:Code:=(Tryz.f40.body).getD .skip
noncomputable def detC:Code:=sndC (sndC (sndC (sndC (sndC bodyD))))
noncomputable def detL:Code:=sndC (sndC (sndC detC))
noncomputable def ops6:Array Oper:=opsC (fstC detC)
noncomputable def ops7:Array Oper:=opsC (fstC (fstC (sndC detC)))
noncomputable def ops13:Array Oper:=opsC (fstC (sndC (sndC detC)))
noncomputable def rndC:Code:=inC (inC (sndC (fstC (sndC detC))))
noncomputable def ops8:Array Oper:=opsC (fstC rndC)
noncomputable def ops12:Array Oper:=opsC (sndC (sndC (sndC rndC)))
noncomputable def inrC:Code:=inC (fstC (sndC (sndC rndC)))
noncomputable def ops9:Array Oper:=opsC (fstC inrC)
noncomputable def ops10:Array Oper:=opsC (fstC (sndC inrC))
noncomputable def ops11:Array Oper:=opsC (sndC (sndC inrC))
theorem detC_eq:detC = .seq (.region 6 ops6 false) (.seq (.seq (.region 7 ops7 false) (.block 0 (.loop rndC))) (.seq (.region 13 ops13 false) detL)):=by kernel_rfl
theorem rndC_eq:rndC = .seq (.region 8 ops8 false) (.seq (.cond (.tmp 28) .skip (.exit 0)) (.seq (.block 1 inrC) (.region 12 ops12 false))):=by kernel_rfl
theorem inrC_eq:inrC = .seq (.region 9 ops9 false) (.seq (.region 10 ops10 false) (.region 11 ops11 false)):=by kernel_rfl
/-! ### The starter between the stops -/
structure RS (a0:Act) (Wg n i:Nat) (a:Act):Prop where
 sz:a.tmps.size=40
 df:a.defers = []
 kp : ∀ t,t=1∨t=2∨t=7→a.tmps.getD t undef=a0.tmps.getD t undef
 s8:a.tmps.getD 8 undef = .pointer (some ⟨Wg,0,none⟩)
 s25:a.tmps.getD 25 undef=a0.tmps.getD 6 undef
 s26:a.tmps.getD 26 undef = .int .i64 (n:Nat)
 s27:a.tmps.getD 27 undef = .int .i64 (i:Nat)
section
variable {a0 a:Act} {Wg n i:Nat}
theorem put_size (a:Act) (d:Option Tmp) (v:Value):(a.put d v).tmps.size=a.tmps.size:=by cases d <;> simp [Act.put]
theorem put_defers (a:Act) (d:Option Tmp) (v:Value):(a.put d v).defers=a.defers:=by cases d <;> rfl
theorem RS.put {d:Nat} {v:Value} (h:RS a0 Wg n i a) (hd:d≠1∧d≠2∧d≠7∧d≠8∧d≠25∧d≠26∧d≠27):RS a0 Wg n i (a.put (some d) v) :=
 ⟨(put_size _ _ _).trans h.sz,(put_defers _ _ _).trans h.df,fun t ht=>by rw [aP X]; exact h.kp t ht,by rw [aP X]; exact h.s8,
  by rw [aP X]; exact h.s25,by rw [aP X]; exact h.s26,by rw [aP X]; exact h.s27⟩
theorem RS.putN {v:Value} (h:RS a0 Wg n i a):RS a0 Wg n i (a.put none v):=⟨h.sz,h.df,h.kp,h.s8,h.s25,h.s26,h.s27⟩
theorem RS.next {j:Nat} (h:RS a0 Wg n i a):RS a0 Wg n j (a.put (some 27) (.int .i64 (j:Nat))) :=
 ⟨(put_size _ _ _).trans h.sz,(put_defers _ _ _).trans h.df,fun t ht=>by rw [aP X]; exact h.kp t ht,by rw [aP X]; exact h.s8,
  by rw [aP X]; exact h.s25,by rw [aP X]; exact h.s26,be (by rw [h.sz]; omega)⟩
end
section
variable {P:Program} {m:Bool} {ty:TypeId} {Stop:Goroutine→Prop} {b:Frame} {k:List Item} {cs:List Frame} {a0 a:Act} {Wg W n i:Nat} {x:Option Addr} {cap:Nat}
theorem reg7 (hb:b.roundOf=none) (hk:b.kind ≠ .early) (hs:a.tmps.size=40) (hd:a.defers = []) (h8:a.tmps.getD 8 undef = .pointer (some ⟨W,0,none⟩)) (h6:a.tmps.getD 6 undef = .slice x n cap)
  (h : ∀ a',RS a W n 0 a'→LGo Tryz.prog m ty Wg Stop (G (b.atR a' k) cs)):LGo Tryz.prog m ty Wg Stop (G (b.atR a (.code (.region 7 ops7 false) :: k)) cs):=by
 have hu:=Tryz.underlying58
 dsimp only [ops7,opsC,fstC,sndC,detC,bodyD,Tryz.f40,Option.getD_some]
 refine LGo.calm Z (sG_reg (l := [0,1,2]) Z) ?_
 refine LGo.calm Z (sG_calm hb hk Z Z Z (d:=some 25) (v := .slice x n cap) (fun w=>by simp [execOp,Act.eval,h6]) (fun w=>by simp [execOp])) ?_
 refine LGo.calm Z (sG_calm hb hk Z Z Z (d:=some 26) (v := .int .i64 (n:Nat)) (fun w=>by simp [go_sem,execOp,Act.eval, *]) (fun w=>by simp [go_sem,execOp, *])) ?_
 refine LGo.calm Z (sG_calm hb hk Z Z Z (d:=some 27) (v := .int .i64 0) (fun w=>by simp [execOp,Act.eval]) (fun w=>by simp [execOp])) ?_
 exact LGo.calm Z (fun _=>sG_rend) (h _ ⟨by simp only [put_size]; exact hs,by simp only [put_defers]; exact hd,fun t ht=>by rw [aP X,aP X,aP X],by rw [aP X,aP X,aP X]; exact h8,by rw [aP X,aP X,be X]; exact h6.symm,by rw [aP X,be (by rw [put_size]; omega)],by rw [be (by rw [put_size,put_size]; omega)]; rfl⟩)
theorem head (hb:b.roundOf=none) (hk:b.kind ≠ .early) (hn:n<9223372036854775808) (h:RS a0 W n i a) (hi:i≤n)
  (lt:i<n → ∀ a',RS a0 W n i a'→LGo Tryz.prog m ty Wg Stop (G (b.atR a' (.code (.region 9 ops9 false) :: .code (.seq (.region 10 ops10 false) (.region 11 ops11 false)) :: .inBlock 1 :: .code (.region 12 ops12 false) :: .inLoop rndC :: .inBlock 0 :: k)) cs))
  (ge:i=n → ∀ a',RS a0 W n i a'→LGo Tryz.prog m ty Wg Stop (G (b.atR a' k) cs)):LGo Tryz.prog m ty Wg Stop (G (b.atR a (.code rndC :: .inLoop rndC :: .inBlock 0 :: k)) cs):=by
 rw [show (Item.code rndC) = .code (.seq (.region 8 ops8 false) (.seq (.cond (.tmp 28) .skip (.exit 0)) (.seq (.block 1 inrC) (.region 12 ops12 false)))) from congrArg _ rndC_eq]
 refine LGo.calm Z (fun _=>sG_seq) ?_
 refine LGo.calm Z (sG_reg (l := [0]) Y) ?_
 refine LGo.calm Z (sG_calm hb hk (show ops8[0]? = some _ by dsimp only [ops8,opsC,fstC,sndC,rndC,inC,detC,bodyD,Tryz.f40,Option.getD_some]; rfl) Z Z (d:=some 28) (v := .bool (decide (i<n))) (fun w => ?_) (fun w => ?_)) ?_
 ·have h1:=h.s26
  have h2:=h.s27
  have hu:=Tryz.underlying3
  simp [go_sem,execOp,Act.eval, *]
 ·have h1:=h.s26
  have h2:=h.s27
  have hu:=Tryz.underlying3
  simp [go_sem,execOp,Act.eval, *]
 have h':=h.put (d:=28) (v := .bool (decide (i<n))) X
 have e28:(a.put (some 28) (.bool (decide (i<n)))).eval (.tmp 28) = .bool (decide (i<n)):=be (by rw [h.sz]; omega)
 generalize a.put (some 28) (.bool (decide (i<n)))=a1 at *
 refine LGo.calm Z (fun _=>sG_rend) ?_
 refine LGo.calm Z (fun _=>sG_seq) ?_
 refine LGo.calm Z (fun _=>sG_cond e28) ?_
 by_cases hlt:i<n
 ·rw [decide_eq_true hlt,if_pos Z]
  refine LGo.calm Z (fun _=>sG_skip) ?_
  refine LGo.calm Z (fun _=>sG_seq) ?_
  refine LGo.calm Z (fun _=>sG_block) ?_
  rw [show (Item.code inrC) = .code (.seq (.region 9 ops9 false) (.seq (.region 10 ops10 false) (.region 11 ops11 false))) from congrArg _ inrC_eq]
  refine LGo.calm Z (fun _=>sG_seq) ?_
  exact lt hlt a1 h'
 ·rw [decide_eq_false hlt,if_neg U]
  exact LGo.calm Z (fun _=>sG_exit Z) (ge X a1 h')
theorem reg12 (hb:b.roundOf=none) (hk:b.kind ≠ .early) (hn:i<9223372036854775807) (h:RS a0 W n i a)
  (hc : ∀ a',RS a0 W n (i+1) a'→LGo Tryz.prog m ty Wg Stop (G (b.atR a' (.code rndC :: .inLoop rndC :: k)) cs)):LGo Tryz.prog m ty Wg Stop (G (b.atR a (.inBlock 1 :: .code (.region 12 ops12 false) :: .inLoop rndC :: k)) cs):=by
 refine LGo.calm Z (fun _=>sG_inBlock) ?_
 refine LGo.calm Z (sG_reg (l := [0,1]) Y) ?_
 have hu:=Tryz.underlying3
 have h1:=h.s27
 have hw:IntKind.i64.wrap ((i:Int)+1)=((i+1:Nat):Int):=by rw [IntKind.wrap_i64]; omega
 refine LGo.calm Z (sG_calm hb hk (show ops12[0]? = some _ by dsimp only [ops12,opsC,fstC,sndC,rndC,inC,detC,bodyD,Tryz.f40,Option.getD_some]; rfl) Z Z (d:=some 34) (v := .int .i64 ((i+1:Nat):Int)) (fun w => ?_) (fun w => ?_)) ?_
 ·simp [go_sem,execOp,Act.eval, *]
 ·simp [go_sem,execOp,Act.eval, *]
 have h':=h.put (d:=34) (v := .int .i64 ((i+1:Nat):Int)) X
 have e34:(a.put (some 34) (.int .i64 ((i+1:Nat):Int))).eval (.tmp 34) = .int .i64 ((i+1:Nat):Int):=be (by rw [h.sz]; omega)
 generalize a.put (some 34) (.int .i64 ((i+1:Nat):Int))=a1 at *
 refine LGo.calm Z (sG_calm hb hk (show ops12[1]? = some _ by dsimp only [ops12,opsC,fstC,sndC,rndC,inC,detC,bodyD,Tryz.f40,Option.getD_some]; rfl) Z Z (d:=some 27) (v := .int .i64 ((i+1:Nat):Int)) (fun w => ?_) (fun w => ?_)) ?_
 ·simp [execOp,e34]
 ·simp [execOp]
 refine LGo.calm Z (fun _=>sG_rend) ?_
 exact LGo.calm Z (fun _=>sG_inLoop) (hc _ h'.next)
theorem reg10 {Ret:Goroutine→Prop} (hb:b.roundOf=none) (hk:b.kind ≠ .early) (h:RS a0 W n i a)
  (hT:LGo Tryz.prog true Tryz.link.tWg W Ret (G (b.atR (a.put (some 32) (.tuple #[])) (.code (.region 11 ops11 false) :: k)) cs)) :
  LGo Tryz.prog true Tryz.link.tWg W (KdA Tryz.prog Tryz.link.tWg W Ret) (G (b.atR a (.code (.seq (.region 10 ops10 false) (.region 11 ops11 false)) :: k)) cs):=by
 have h1:=h.s8
 refine LGo.calm Z (fun _=>sG_seq) ?_
 refine LGo.calm Z (sG_reg (l := [0]) Y) ?_
 refine LGo.calm Z (sG_enter hb hk (show ops10[0]? = some _ by dsimp only [ops10,opsC,fstC,sndC,inrC,rndC,inC,detC,bodyD,Tryz.f40,Option.getD_some]; rfl) Z Z Tryz.wgLib.f_add (nm_add Tryz.link) Z) ?_
 have e1:(#[Operand.tmp 8,Operand.const (.int .i64 1)]:Array Operand).map a.eval = #[.pointer (some ⟨W,0,none⟩), .int .i64 1]:=by simp [Act.eval,h1]
 rw [e1]
 refine addPos Tryz.wgLib (b₀:=b) (a₀:=a) (ops₀:=ops10) (i₀:=0) (rest₀ := []) (k₀ := .code (.region 11 ops11 false) :: k) (cs:=cs) ?_
 rw [← Frame.atR_of_none hb]
 refine LGo.calm Z (fun _=>sG_rend) ?_
 have e2:(ops10[0]?).bind (·.dst)=some 32:=by kernel_rfl
 rw [e2]
 exact hT
theorem reg13 (hb:b.roundOf=none) (hk:b.kind ≠ .early) (h8:a.tmps.getD 8 undef = .pointer (some ⟨W,0,none⟩)) :
  LGo Tryz.prog true Tryz.link.tWg W (Says Tryz.prog true Tryz.link.tWg W .disable (AnchW Tryz.link W (b.at a (.inRegion ops13 [0] :: .code detL :: k)) cs)) (G (b.atR a (.code (.seq (.region 13 ops13 false) detL) :: k)) cs):=by
 refine LGo.calm Z (fun _=>sG_seq) ?_
 refine LGo.calm Z (sG_reg (l := [0]) Y) ?_
 refine LGo.calm Z (sG_enter hb hk (show ops13[0]? = some _ by dsimp only [ops13,opsC,fstC,sndC,detC,bodyD,Tryz.f40,Option.getD_some]; rfl) Z Z Tryz.wgLib.f_wait (nm_wait Tryz.link) Z) ?_
 have e1:(#[Operand.tmp 8]:Array Operand).map a.eval = #[.pointer (some ⟨W,0,none⟩)]:=by simp [Act.eval,h8]
 rw [e1]
 exact waitStart Tryz.wgLib (b₀:=b) (a₀:=a) (ops₀:=ops13) (i₀:=0) (rest₀ := []) (k₀ := .code detL :: k) (cs:=cs)
def callD (a0:Act) (W b9 b10:Nat):Deferred := { target := .fn (.func 65) #[.pointer (some ⟨W,0,none⟩),a0.tmps.getD 1 undef, .pointer (some ⟨b10,0,none⟩),a0.tmps.getD 7 undef, .pointer (some ⟨b9,0,none⟩)],args := #[] }
theorem reg11 {S:Ses} {Next:Goroutine→Prop} {b9 b10:Nat} (hb:b.roundOf=none) (hk:b.kind ≠ .early) (h:RS a0 W n i a) (h9:a.tmps.getD 9 undef = .pointer (some ⟨b9,0,none⟩)) (h10:a.tmps.getD 10 undef = .pointer (some ⟨b10,0,none⟩))
  (hP:S.P=Tryz.prog) (hc:S.child b9 b10=born Tryz.prog (callD a0 W b9 b10))
  (hN : ∀ a',RS a0 W n i a'→Next (G (b.atR a' (.inRegion ops11 [] :: k)) cs)):LGo Tryz.prog m ty Wg (AtGo S b9 b10 Next) (G (b.atR a (.code (.region 11 ops11 false) :: k)) cs):=by
 refine LGo.calm Z (sG_reg (l := [0,1]) Y) ?_
 have h1:=h.s8
 have h2:=h.kp 1 X
 have h3:=h.kp 7 X
 refine LGo.calm Z (sG_calm hb hk (show ops11[0]? = some _ by dsimp only [ops11,opsC,fstC,sndC,inrC,rndC,inC,detC,bodyD,Tryz.f40,Option.getD_some]; rfl) Z Z (d:=some 33)
  (v := .func (.func 65) #[] #[.pointer (some ⟨W,0,none⟩),a0.tmps.getD 1 undef, .pointer (some ⟨b10,0,none⟩),a0.tmps.getD 7 undef, .pointer (some ⟨b9,0,none⟩)]) (fun w => ?_) (fun w => ?_)) ?_
 ·rw [← h2, ← h3, ← h1, ← h9, ← h10]
  simp [go_sem,execOp,Act.eval]
 ·simp [go_sem,execOp]
 have h':=h.put (d:=33) (v := .func (.func 65) #[] #[.pointer (some ⟨W,0,none⟩),a0.tmps.getD 1 undef, .pointer (some ⟨b10,0,none⟩),a0.tmps.getD 7 undef, .pointer (some ⟨b9,0,none⟩)]) X
 have e33:=be (a:=a) (d:=33) (v := .func (.func 65) #[] #[.pointer (some ⟨W,0,none⟩),a0.tmps.getD 1 undef, .pointer (some ⟨b10,0,none⟩),a0.tmps.getD 7 undef, .pointer (some ⟨b9,0,none⟩)]) (by rw [h.sz]; omega)
 generalize a.put (some 33) _=a1 at *
 refine LGo.stop ⟨rfl,_,fun w => ?_,hN (a1.put none undef) h'.putN⟩
 rw [hP,hc,Frame.atR_of_none hb,Frame.atR_of_none hb]
 refine (stepG_spawn (show ops11[1]? = some _ by dsimp only [ops11,opsC,fstC,sndC,inrC,rndC,inC,detC,bodyD,Tryz.f40,Option.getD_some]; rfl) (by rfl) hk (d:=callD a0 W b9 b10) (w':=w) (?_) Z).trans ?_
 ·simp [go_sem,execOp,Act.eval,e33,resolve,Deferred.ofValue,callD]
 ·refine congrArg (fun es=>GStep.spawn _ _ w es) ?_
  unfold listed
  simp [go_sem,execOp,Act.eval,e33,resolve,Deferred.ofValue,callD,seen_none]
end
end Tor.Co
end
