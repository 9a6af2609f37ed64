/-
  Theorems that the proofs of laws of this seat rest on.
  No condition.
-/
import Derived.WalkKit
import Derived.Orders
import Derived.Scope
import Derived.OrdersIn
import Derived.LoopNIn
set_option maxHeartbeats 20000000
set_option linter.unusedVariables false
set_option linter.unusedSimpArgs false
theorem Z {α:Sort _} {a:α}:a=a:=rfl
theorem S {P:Prop} (h:P:=by omega):P:=h
theorem X {P:Prop} (h:P:=by kernel_rfl):P:=h
theorem Y {P:Prop} (h:P:=by decide):P:=h
theorem H {P:Prop} (h:P:=by decide +kernel):P:=h
theorem Aq:True:=trivial
section
namespace Tor
open Go Go.RowKit
/-! ### Memory views -/
abbrev Blk:=Array Value × TypeId × (Nat × Nat)
abbrev Hp:=Nat→Option Blk
def Hp.le (h h':Hp):Prop := ∀ b x,h b=some x→h' b=some x
theorem Hp.le_refl (h:Hp):Hp.le h h:=fun _ _ e=>e
def cC (w:World):Hp:=fun b=>match w.heap[b]? with | some (.cells c T f)=>some (c,T,f) | _=>none
def hid (O:List Nat) (h:Hp):Hp:=fun b=>if b∈O then none else h b
theorem qG (O:List Nat) (h:Hp):Hp.le (hid O h) h:=by
 intro b x e;unfold hid at e;split at e
 ·cases e
 ·exact e
theorem pd {O:List Nat} {h h':Hp} (Ae:Hp.le h h'):Hp.le (hid O h) (hid O h'):=by
 intro b x e;unfold hid at e ⊢; split at e
 ·cases e
 ·rename_i hn;rw [if_neg hn]; exact Ae _ _ e
theorem lC {O O':List Nat} {h:Hp} (Ae : ∀ b,b∈O'→b∈O):Hp.le (hid O h) (hid O' h):=by
 intro b x e;unfold hid at e ⊢; split at e
 ·cases e
 ·rename_i hn;rw [if_neg (fun k=>hn (Ae _ k))]; exact e
theorem fB {O:List Nat} {h:Hp} {b:Nat} {x:Blk} (e:hid O h b=some x):b ∉ O∧h b=some x:=by
 unfold hid at e;split at e
 ·cases e
 ·rename_i hn;exact ⟨hn,e⟩
theorem iF {O:List Nat} {h:Hp} {b:Nat} {x:Blk} (hn:b ∉ O) (e:h b=some x):hid O h b=some x:=by
 unfold hid;rw [if_neg hn]; exact e
theorem fb {w:World} {b:Nat} {c:Array Value} {T:TypeId} {f:Nat × Nat} (e:cC w b=some (c,T,f)):w.heap[b]? = some (.cells c T f):=by
 unfold cC at e;split at e
 ·rename_i h;cases e;exact h
 ·cases e
theorem lD {w:World} {b:Nat} {c:Array Value} {T:TypeId} {f:Nat × Nat} (e:w.heap[b]? = some (.cells c T f)):cC w b=some (c,T,f):=by
 unfold cC;rw [e]
theorem fw {w:World} {b:Nat} {x:Blk} (e:cC w b=some x):b<w.heap.size:=by
 obtain ⟨c,T,f⟩:=x
 have:=fb e
 rcases Nat.lt_or_ge b w.heap.size with h | h
 ·exact h
 ·rw [Array.getElem?_eq_none h] at this;cases this
theorem iY {w:World} {b:Nat} {c:Array Value} {T:TypeId} {f:Nat × Nat} (e:cC w b=some (c,T,f)) (o:Nat):w.cell? ⟨b,o,none⟩=c[o]? := by
 simp [World.cell?,fb e]
abbrev Ext (w w':World):Prop:=Below w.heap.size w w'
theorem Ext.view {w w':World} (h:Ext w w'):Hp.le (cC w) (cC w'):=by
 intro b x e
 have hb:=fw e
 obtain ⟨c,T,f⟩:=x
 exact lD ((h.block b hb).trans (fb e))
theorem Ext.refl (w:World):Ext w w:=Below.refl _ _
theorem Ext.trans {a b c:World} (h:Ext a b) (k:Ext b c):Ext a c:=Below.trans h (Below.mono k h.size)
theorem Ext.alloc (w:World) (o:Obj):Ext w (w.alloc o):=(Below.refl _ _).alloc (Nat.le_refl _) o
theorem cz (w:World) (c:Array Value) (T:TypeId) (f:Nat × Nat):Tor.cC (w.alloc (.cells c T f)) w.heap.size=some (c,T,f):=by
 apply lD;show (w.heap.push _)[_]? = _;simp
/-! ### Predicates on values -/
structure VT where
 p:Value→Hp→Prop
 mono : ∀ {v h h'},Hp.le h h'→p v h→p v h'
def VT.le (φ ψ:VT):Prop := ∀ v h, φ.p v h→ψ.p v h
theorem VT.le_refl (φ:VT):VT.le φ φ:=fun _ _ h=>h
theorem _root_.W {φ:VT}:VT.le φ φ:=VT.le_refl _
theorem VT.le_trans {a b c:VT} (h:VT.le a b) (k:VT.le b c):VT.le a c:=fun _ _ e=>k _ _ (h _ _ e)
def one (v:Value):VT:=⟨fun x _=>x=v,fun _ h=>h⟩
theorem aq {v v':Value} (h:v=v'):VT.le (one v) (one v'):=fun _ _ e=>e.trans h
def bS:VT:=⟨fun _ _=>True,fun _ h=>h⟩
def exT {α:Sort _} (φ:α→VT):VT:=⟨fun v h => ∃ x,(φ x).p v h,fun Ae ⟨x,h⟩=>⟨x,(φ x).mono Ae h⟩⟩
def cE (F:Prop) (φ:VT):VT:=⟨fun v h=>F∧φ.p v h,fun Ae ⟨x,h⟩=>⟨x, φ.mono Ae h⟩⟩
inductive Lay where
 | one
 | agg (n : Nat)
def Lay.sz:Lay→Nat
 | .one => 1
 | .agg n => n
def bP:Lay→Array Value→Nat→Option Value
 | .one, c, o => c[o]?
 | .agg n, c, o => if o + n ≤ c.size then some (.agg (c.extract o (o + n))) else none
def cA (L:Lay) (φ:VT):VT where
 p v h := ∃ b o c T f x,v = .pointer (some ⟨b,o,none⟩)∧h b=some (c,T,f)∧bP L c o=some x∧φ.p x h
 mono:=fun Ae ⟨b,o,c,T,f,x,hv,hb,hx,hp⟩=>⟨b,o,c,T,f,x,hv,Ae _ _ hb,hx, φ.mono Ae hp⟩
def slT (L:Lay) (n:Nat) (φ:Nat→VT):VT where
 p v h := ∃ a cap,v = .slice a n cap∧n≤cap∧n≤2^48 ∧
  ∀ i,i<n → ∃ b o c T f x,a=some ⟨b,o,none⟩∧h b=some (c,T,f)∧bP L c (o+i*L.sz)=some x∧(φ i).p x h
 mono:=fun Ae ⟨a,cap,hv,h1,h2,he⟩=>⟨a,cap,hv,h1,h2,fun i hi =>
  let ⟨b,o,c,T,f,x,ha,hb,hx,hp⟩:=he i hi;⟨b,o,c,T,f,x,ha,Ae _ _ hb,hx,(φ i).mono Ae hp⟩⟩
abbrev cf:=List (Nat × Lay × VT)
def fZ (cs:cf) (c:Array Value) (h:Hp):Prop := ∀ q∈cs, ∃ x,bP q.2.1 c q.1=some x∧q.2.2.p x h
theorem lj {cs:cf} {c:Array Value} {h h':Hp} (Ae:Hp.le h h') (k:fZ cs c h):fZ cs c h' :=
 fun q hq=>let ⟨x,hx,hp⟩:=k q hq;⟨x,hx,q.2.2.mono Ae hp⟩
def bG (m:Nat) (cs:cf):VT where
 p v h := ∃ c,v = .agg c∧c.size=m∧c.all (·.oneCell')=true∧fZ cs c h
 mono:=fun Ae ⟨c,hv,hs,ha,hc⟩=>⟨c,hv,hs,ha,lj Ae hc⟩
def f0:List VT→List Value→Hp→Prop
 | [], [], _ => True
 | φ :: φs, v :: vs, h => φ.p v h ∧ f0 φs vs h
 | _, _, _ => False
theorem kE {h h':Hp} (Ae:Hp.le h h') : ∀ {φs:List VT} {vs:List Value},f0 φs vs h→f0 φs vs h'
 | [], [], _ => trivial
 | φ :: _, _ :: _, ⟨a, b⟩ => ⟨φ.mono Ae a, kE Ae b⟩
def bZ (φs:List VT):VT where
 p v h := ∃ vs:List Value,v = .tuple vs.toArray∧f0 φs vs h
 mono:=fun Ae ⟨vs,hv,hp⟩=>⟨vs,hv,kE Ae hp⟩
/-! ### Own memory -/
abbrev RH:=Nat→Option Obj
def vw (g:RH):Hp:=fun b=>match g b with | some (.cells c T f)=>some (c,T,f) | _=>none
def raw (w:World):RH:=fun b=>w.heap[b]?
theorem wJ {g g':RH} {b:Nat} {x:Option Blk} (h:g b=g' b) (e:vw g b=x):vw g' b=x:=by unfold vw at e ⊢; rw [← h]; exact e
theorem gZ {w w':World} {b:Nat} (h:w'.heap[b]? = w.heap[b]?):raw w' b=raw w b:=h
structure Own where
 bl:List Nat
 p:RH→Hp→Prop
 loc : ∀ {g g':RH} {h h':Hp},(∀ b∈bl,g b=g' b)→Hp.le h h'→p g h→p g' h'
abbrev Mem:=List Own
def bf (M:Mem):List Nat:=M.flatMap (·.bl)
@[simp] theorem blks_nil:bf [] = []:=rfl
@[simp] theorem blks_cons (o:Own) (M:Mem):bf (o :: M)=o.bl ++ bf M:=rfl
def Own.le (o o':Own):Prop:=o.bl=o'.bl ∧ ∀ g h,o.p g h→o'.p g h
def slV (sv:Option Nat) (n cap:Nat):Value := .slice (sv.map fun b=>⟨b,0,none⟩) n cap
def a8 (sv:Option Nat) (T:TypeId) (L:Lay) (cap n:Nat) (φ:Nat→VT):Own where
 bl:=sv.toList
 p g h:=n≤cap∧n≤2^48∧(sv=none→cap=0) ∧
  ∀ b,sv=some b → ∃ c,vw g b=some (c,T,(0,0))∧c.size=cap*L.sz ∧ ∀ i,i<n → ∃ x,bP L c (i*L.sz)=some x∧(φ i).p x h
 loc:=fun {g g' h h'} he Ae ⟨h1,h2,h3,h4⟩=>⟨h1,h2,h3,fun b hb =>
  let ⟨c,hg,hs,hi⟩:=h4 b hb;⟨c,wJ (he b (by simp [hb])) hg,hs,fun i hn=>let ⟨x,hx,hp⟩:=hi i hn;⟨x,hx,(φ i).mono Ae hp⟩⟩⟩
def upd (φ:Nat→VT) (j:Nat) (ψ:VT):Nat→VT:=fun i=>if i=j then ψ else φ i
def aX (b:Nat) (T:TypeId) (m:Nat) (cs:cf):Own where
 bl := [b]
 p g h := ∃ c,vw g b=some (c,T,(0,0))∧c.size=m∧c.all (·.oneCell')=true∧fZ cs c h
 loc:=fun {g g' h h'} he Ae ⟨c,hb,hs,ha,hc⟩=>⟨c,wJ (he b (by simp)) hb,hs,ha,lj Ae hc⟩
/-! ### Contexts -/
abbrev Ctx:=List (Nat × VT)
def bJ:Ctx→Nat→Option VT
 | [], _ => none
 | (k, v) :: r, t => bif Nat.beq k t then some v else bJ r t
theorem bq {k:Nat} {v:VT} {r:Ctx} {t:Nat} : bJ ((k,v) :: r) t=if k=t then some v else bJ r t:=by
 rw [bJ]
 by_cases h:k=t
 ·subst h;simp
 ·have:Nat.beq k t=false:=by rw [← Bool.not_eq_true]; intro e;exact h (Nat.eq_of_beq_eq_true e)
  rw [this,if_neg h]; rfl
def aO (Γ:Ctx):Operand→Option VT
 | .tmp t => bJ Γ t
 | .const v => some (one v)
 | .global g => some (one (.pointer (some ⟨g, 0, none⟩)))
 | .func f => some (one (.func (.func f) #[] #[]))
structure Env where
 w0:World
 O:List Nat
 I:List Nat
 N:Nat
 R:Option Nat
structure Fr (I:List Nat) (w w':World):Prop where
 os:w'.os=w.os
 tape:w'.tape=w.tape
 output:w'.output=w.output
 size:w.heap.size≤w'.heap.size
 block : ∀ k,k<w.heap.size→k ∉ I→w'.heap[k]? = w.heap[k]?
theorem Fr.refl (I:List Nat) (w:World):Fr I w w:=⟨rfl,rfl,rfl,Nat.le_refl _,fun _ _ _=>rfl⟩
theorem Fr.ext {I:List Nat} {a b c:World} (h:Fr I a b) (k:Ext b c):Fr I a c :=
 ⟨k.os.trans h.os,k.tape.trans h.tape,k.output.trans h.output,Nat.le_trans h.size k.size,fun i hi hn=>(k.block i (Nat.lt_of_lt_of_le hi h.size)).trans (h.block i hi hn)⟩
theorem Fr.toExt {a b:World} (h:Fr [] a b):Ext a b:=⟨h.os,h.tape,h.output,h.size,fun k hk=>h.block k hk (by simp)⟩
structure Base (E:Env) (M:Mem) (w:World):Prop where
 mem : ∀ o∈M,o.p (raw w) (hid (E.O ++ bf M) (cC w))
 nd:(bf M).Nodup
 dis : ∀ b∈bf M,b ∉ E.O
 lo : ∀ b∈bf M,E.w0.heap.size≤b∨b∈E.I
 ex : ∀ b∈E.O ++ bf M,b<w.heap.size
 fr:Fr E.I E.w0 w
abbrev hv (E:Env) (M:Mem) (w:World):Hp:=hid (E.O ++ bf M) (cC w)
structure St (E:Env) (D:List Deferred) (Γ:Ctx) (M:Mem) (a:Act) (w:World):Prop where
 base:Base E M w
 sz:a.tmps.size=E.N
 df:a.defers=D
 tm : ∀ t φ,bJ Γ t=some φ→φ.p (a.tmps.getD t undef) (hv E M w)
theorem Base.ext {E:Env} {M:Mem} {w w':World} (h:Base E M w) (k:Ext w w'):Base E M w' where
 mem:=fun o ho=>o.loc (fun b hb=>by
   have hlt:b<w.heap.size:=h.ex b (List.mem_append.2 (.inr (List.mem_flatMap.2 ⟨o,ho,hb⟩)))
   unfold raw;rw [k.block b hlt]) (pd k.view) (h.mem o ho)
 nd:=h.nd
 dis:=h.dis
 lo:=h.lo
 ex:=fun b hb=>Nat.lt_of_lt_of_le (h.ex b hb) k.size
 fr:=h.fr.ext k
theorem Base.hv_ext {E:Env} {M:Mem} {w w':World} (k:Ext w w'):Hp.le (hv E M w) (hv E M w'):=pd k.view
theorem cS {E:Env} {D:List Deferred} {Γ:Ctx} {M:Mem} {a:Act} {w:World} (h:St E D Γ M a w) {x:Operand} {φ:VT} (e:aO Γ x=some φ):φ.p (a.eval x) (hv E M w):=by
 cases x with
 | tmp t => exact h.tm t φ e
 | const v => cases e; rfl
 | global g => cases e; rfl
 | func f => cases e; rfl
theorem ce {a:Act} {d:Nat} {v:Value} (h:d<a.tmps.size):(a.put (some d) v).tmps.getD d undef=v:=by
 simp [Act.put,Array.getD_eq_getD_getElem?,h]
theorem cd {a:Act} {d t:Nat} {v:Value} (h:d≠t):(a.put (some d) v).tmps.getD t undef=a.tmps.getD t undef:=by
 simp [Act.put,Array.getD_eq_getD_getElem?,h]
theorem St.put {E:Env} {D:List Deferred} {Γ:Ctx} {M:Mem} {a:Act} {w w':World} (h:St E D Γ M a w) (k:Ext w w') {d:Nat} (hd:d<E.N) {ψ:VT} {v:Value} (hv':ψ.p v (hv E M w')) :
  St E D ((d, ψ) :: Γ) M (a.put (some d) v) w' where
 base:=h.base.ext k
 sz:=by simp [Act.put,h.sz]
 df:=h.df
 tm:=by
  intro t φ e
  rw [bq] at e
  split at e
  ·rename_i hdt;cases e;rw [← hdt,ce (by rw [h.sz]; exact hd)]; exact hv'
  ·rename_i hdt;rw [cd hdt]; exact φ.mono (Base.hv_ext k) (h.tm t φ e)
/-! ### Judgements -/
def fen:Option Nat→Fence
 | none => Fence.wide
 | some l => Fence.wide.inRound l
def kF (o:Oper):Bool:=match o.op with
 | .defer _ => false
 | _ => true
def iy:Code→Bool
 | .region _ ops _ => ops.all kF
 | .seq x y => iy x && iy y
 | .cond _ x y => iy x && iy y
 | .block _ c => iy c
 | .loop c => iy c
 | .skip => true
 | .exit _ => true
 | .label _ => true
 | .ret => true
 | _ => false
def JW (P:Program) (E:Env) (c:Code) (Q:Exit→Act→World→Prop) (a:Act) (w:World):Prop:=(E.R=none∨iy c=true)→c.wpIn (fen E.R) 9 P Q a w
def J (P:Program) (E:Env) (D:List Deferred) (Γ:Ctx) (M:Mem) (c:Code) (Q:Exit→Act→World→Prop):Prop :=
 ∀ a w,St E D Γ M a w→JW P E c Q a w
theorem JW.wp {P:Program} {E:Env} {c:Code} {Q:Exit→Act→World→Prop} {a:Act} {w:World} (h:JW P E c Q a w) (hR:E.R=none):c.wp P Q a w:=by
 have:=h (.inl hR);rw [hR] at this;exact wpIn_wide.1 this
theorem JW.mono {P:Program} {E:Env} {c:Code} {Q Q':Exit→Act→World→Prop} {a:Act} {w:World} (h:JW P E c Q a w) (hq : ∀ e a w,Q e a w→Q' e a w):JW P E c Q' a w :=
 fun hd=>wpIn_mono (h hd) hq
def PJ (E:Env) (D:List Deferred) (Γ:Ctx) (M:Mem) (e:Exit) (Q:Exit→Act→World→Prop):Prop := ∀ a w,St E D Γ M a w→Q e a w
def aQ (P:Program) (E:Env) (Γ:Ctx) (M:Mem) (o:Oper) (ψ:VT):Prop :=
 ∀ (a:Act) (w:World),Base E M w→(∀ x φ,x∈o.op.operands→aO Γ x=some φ→φ.p (a.eval x) (hv E M w)) →
  ∀ (next:Act→World→Prop) (Q:Exit→Act→World→Prop),
   (∀ v w',Ext w w'→ψ.p v (hv E M w')→next (a.put o.dst v) w')→o.wp P a w next Q
def eD (ops:Array Oper) (o:Oper):Option (Option Tmp × Bool):=o.guard.map fun (j,want)=>((ops[j]?).bind (·.dst),want)
inductive StepG (P:Program) (E:Env) (Γ:Ctx) (M:Mem) (ops:Array Oper) (o:Oper):Ctx→Prop
 | plain {ψ : VT} {d : Nat} : aQ P E Γ M o ψ → o.guard = none → o.dst = some d → d < E.N → StepG P E Γ M ops o ((d, ψ) :: Γ)
 | guarded1 {ψ : VT} {d t : Nat} {want : Bool} : eD ops o = some (some t, want) → bJ Γ t = some (one (.bool want)) →
   aQ P E Γ M o ψ→o.dst=some d→d<E.N→StepG P E Γ M ops o ((d, ψ) :: Γ)
 | guarded0 {d t : Nat} {want b : Bool} : eD ops o = some (some t, want) → bJ Γ t = some (one (.bool b)) → (b == want) = false →
   o.dst=some d→d<E.N→StepG P E Γ M ops o ((d,bS) :: Γ)
 | guardedN {d t : Nat} {want b : Bool} : eD ops o = some (some t, want) → bJ Γ t = some (one (.bool b)) → (b == want) = false →
   o.dst=some d→d<E.N→StepG P E Γ M ops o ((d,one undef) :: Γ)
 | guardedU {d t : Nat} {want : Bool} : eD ops o = some (some t, want) → bJ Γ t = some (one undef) →
   o.dst=some d→d<E.N→StepG P E Γ M ops o ((d,one undef) :: Γ)
def yc (P:Program) (E:Env) (ops:Array Oper) (i:Nat) (D:List Deferred) (Γ:Ctx) (M:Mem) (K:List Deferred→Ctx→Mem→Prop):Prop :=
 ∀ a w,St E D Γ M a w → ∀ (next:Act→World→Prop) (Q:Exit→Act→World→Prop),
  (∀ D' Γ' M' a' w',K D' Γ' M'→St E D' Γ' M' a' w'→next a' w')→wpOp P ops Q i next a w
inductive Run (P:Program) (E:Env) (ops:Array Oper):Bool→Nat→List Deferred→Ctx→Mem→List Oper→(List Deferred→Ctx→Mem→Prop)→Prop
 | nil {dr i D Γ M K} : K D Γ M → Run P E ops dr i D Γ M [] K
 | step {dr i D Γ M o os K Γ'} : StepG P E Γ M ops o Γ' → Run P E ops dr (i + 1) D Γ' M os K → Run P E ops dr i D Γ M (o :: os) K
 | conv {i D Γ M Γ' M' os K} : (∀ a w, St E D Γ M a w → St E D Γ' M' a w) → Run P E ops false i D Γ' M' os K → Run P E ops false i D Γ M os K
 | act {i D Γ M o os K} {K' : List Deferred → Ctx → Mem → Prop} : yc P E ops i D Γ M K' → (∀ D' Γ' M', K' D' Γ' M' → Run P E ops false (i + 1) D' Γ' M' os K) → Run P E ops false i D Γ M (o :: os) K
theorem _root_.Ap {P:Program} {E:Env} {D:List Deferred} {Γ:Ctx} {M:Mem} {ops:Array Oper} {i:Nat} {K:List Deferred→Ctx→Mem→Prop} {dr:Bool} (h:K D Γ M):Run P E ops dr i D Γ M [] K := .nil h
/-! ### Operations within a fence -/
theorem sE {P:Program} {r:Option Nat} {n:Nat} {f:FuncId} {args:Array Value} {w:World} {R:Ending→World→Prop} (h:Calls P f args w R):CallsIn (fen r) n P f args w R:=by
 have:=(callsIn_wide (n:=n)).2 h
 cases r <;> exact this
theorem tU {P:Program} {r:Option Nat} {n:Nat} {row:String} {args:Array Value} {w:World} {R:Value→World→Prop} (h:Rows P row args w R):RowsIn (fen r) n P row args w R:=by
 have:RowsIn Fence.wide n P row args w R:=fun c cs _=>let ⟨v,w',r,s⟩:=h c cs;⟨v,w',r,stepsIn_wide.2 s⟩
 cases r <;> exact this
theorem tV {r:Option Nat} (f:FuncId):(fen r).fn f:=by cases r <;> exact trivial
theorem sG {r:Option Nat} : (fen r).depth=none:=by cases r <;> rfl
theorem sH {r:Option Nat} : (fen r).round=r:=by cases r <;> rfl
section
variable {P:Program} {r:Option Nat} {n:Nat} {Q:Exit→Act→World→Prop} {K:Act→World→Prop} {a:Act} {w:World} {ops:Array Oper}
theorem xI {o:Oper} (hd:r=none∨kF o=true) (h:o.wp P a w K Q):o.wpIn (fen r) n P a w K Q:=by
 have e:o.semAt (fen r).round a.eval=execOp a.eval o:=by
  rw [sH]
  rcases hd with rfl | hd
  ·exact Oper.semAt_none _ _
  ·exact Oper.semAt_eq _ _ _ fun c hc=>by simp [kF,hc] at hd
 refine ⟨fun f _=>tV f,?_⟩
 rw [e]
 unfold Oper.wp at h
 have hz:(fen r).depth.isSome=true→1≤n:=fun h=>by rw [sG] at h;cases h
 generalize (execOp a.eval o).run P w=x at h
 cases x with
 | ok x w' => cases x <;> simp only [Oper.upon, Oper.uponIn] at h ⊢ <;> first | exact h | exact ⟨hz, sE h⟩ | exact ⟨hz, tU h⟩
 | halt x w' => cases x <;> simp only [Oper.upon, Oper.uponIn] at h ⊢ <;> exact h
theorem rz {i:Nat} (hd:r=none∨ops.all kF=true) (hQ : ¬LetsOut Q) (h:wpOp P ops Q i K a w):wpOpIn (fen r) n P ops Q i K a w:=by
 unfold wpOp at h;unfold wpOpIn
 cases ho:ops[i]? with
 | none => simpa [ho] using h
 | some o =>
  simp only [ho] at h ⊢
  split
  ·rename_i hw
   rw [if_pos hw] at h
   refine xI (hd.imp id fun hd => ?_) (h.resolve_right fun h=>hQ h.2)
   obtain ⟨hi,e⟩:=Array.getElem?_eq_some_iff.1 ho
   rw [← e]; exact Array.all_eq_true.1 hd i hi
  ·rename_i hw
   rw [if_neg hw] at h
   exact ⟨fun f _=>tV f,h⟩
theorem pe (hd:r=none∨ops.all kF=true) (hQ : ¬LetsOut Q) : ∀ (l:List Nat) (a:Act) (w:World),wpOps P ops Q l a w→wpOpsIn (fen r) n P ops Q l a w
 | [], _, _, h => h
 | i :: l, a, w, h => by
  rw [wpOps_cons] at h;rw [wpOpsIn_cons]
  exact rz hd hQ (wpOp_mono (pe hd hQ l) h)
theorem pf {md:Region.Mode} (hd:r=none∨ops.all kF=true) (hQ : ¬LetsOut Q) : ∀ (fuel:Nat) (l:Array Bool) (a:Act) (w:World),wpAny P md ops Q fuel l a w→wpAnyIn (fen r) n P md ops Q fuel l a w
 | 0, _, _, _, h => h
 | fuel + 1, l, a, w, h => ⟨h.1, fun i hi => rz hd hQ (wpOp_mono (pf hd hQ fuel _) (h.2 i hi))⟩
end
def nrm (Q:Exit→Act→World→Prop):Exit→Act→World→Prop
 | .normal, a, w => Q .normal a w
 | _, _, _ => False
@[simp] theorem nrm_normal {Q:Exit→Act→World→Prop} {a:Act} {w:World} : nrm Q .normal a w=Q .normal a w:=rfl
theorem rA {Q:Exit→Act→World→Prop} : ¬LetsOut (nrm Q):=fun ⟨_,_,h⟩=>h
theorem tW {Q:Exit→Act→World→Prop} : ∀ e a w,nrm Q e a w→Q e a w:=fun e a w h=>by cases e <;> first | exact h | exact h.elim
section
variable {P:Program} {E:Env} {Q:Exit→Act→World→Prop} {a:Act} {w:World} {ops:Array Oper} {id:Nat}
theorem wX (h:wpOps P ops (nrm Q) (List.range ops.size) a w):JW P E (.region id ops false) Q a w :=
 fun hd=>wpIn_mono (wpIn_region (pe hd rA _ _ _ h)) tW
theorem dX (hm:P.follows .mixedOrders=true) (h:wpAny P .any ops (nrm Q) ops.size (Array.replicate ops.size false) a { w with drawn:=w.drawn+1 }):JW P E (.region id ops true) Q a w :=
 fun hd=>wpIn_mono (wpIn_region_any hm (pf hd rA _ _ _ _ h)) tW
theorem JW.seq {x y:Code} (h:JW P E x (Exit.then (JW P E y Q) Q) a w):JW P E (.seq x y) Q a w:=fun hd =>
 wpIn_seq (wpIn_mono (h (hd.imp id fun h=>by simp only [iy,Bool.and_eq_true] at h;exact h.1)) fun e a w hq=>by
  cases e <;> first | exact hq | exact hq (hd.imp id fun h=>by simp only [iy,Bool.and_eq_true] at h;exact h.2))
end
def iG (ops:Array Oper) (o:Oper):List Tmp :=
 (o.op.operands.toList.filterMap fun | .tmp t=>some t | _=>none) ++ (match eD ops o with | some (some t,_) => [t] | _ => [])
end Tor
end
section
namespace Tor
open Go Go.RowKit
section
variable {P:Program} {E:Env} {ops:Array Oper}
theorem c7 {o:Oper} {y:Nat→Option Bool} (h:o.guard=none):Region.wanted o y=true:=by
 simp [Region.wanted,h]
theorem iH {o:Oper} {a:Act} {t:Nat} {want b:Bool} (hg:eD ops o=some (some t,want)) (hs:t<a.tmps.size)
  (hb:a.tmps.getD t undef = .bool b):Region.wanted o (yielded ops a.tmps)=(b == want):=by
 unfold eD at hg
 cases hgo:o.guard with
 | none => rw [hgo] at hg; cases hg
 | some jw =>
  obtain ⟨j,w'⟩:=jw
  rw [hgo] at hg
  simp only [Option.map_some,Option.some.injEq,Prod.mk.injEq] at hg
  obtain ⟨h1,h2⟩:=hg
  subst h2
  simp only [Region.wanted,hgo,yielded]
  have:a.tmps[t]? = some (.bool b):=by
   rw [Array.getD_eq_getD_getElem?] at hb
   have:a.tmps[t]? = some a.tmps[t]:=by simp [hs]
   rw [this] at hb ⊢; simpa using hb
  cases hj:ops[j]? with
  | none => rw [hj] at h1; cases h1
  | some oj =>
   rw [hj] at h1
   simp only [Option.bind_some] at h1 ⊢
   rw [h1]; simp only [Option.bind_some,this]
   cases b <;> cases w' <;> rfl
theorem jv {a:Act} {t:Nat} {b:Bool} (hb:a.tmps.getD t undef = .bool b):t<a.tmps.size:=by
 rcases Nat.lt_or_ge t a.tmps.size with h | h
 ·exact h
 ·rw [Array.getD_eq_getD_getElem?,Array.getElem?_eq_none h] at hb;cases hb
theorem pg {o:Oper} {a:Act} {t:Nat} {want:Bool} (hg:eD ops o=some (some t,want)) (hb:a.tmps.getD t undef=undef):Region.wanted o (yielded ops a.tmps)=false:=by
 unfold eD at hg
 cases hgo:o.guard with
 | none => rw [hgo] at hg; cases hg
 | some jw =>
  obtain ⟨j,w'⟩:=jw
  rw [hgo] at hg
  simp only [Option.map_some,Option.some.injEq,Prod.mk.injEq] at hg
  obtain ⟨h1,h2⟩:=hg
  simp only [Region.wanted,hgo,yielded,h1,Option.bind_some]
  rw [Array.getD_eq_getD_getElem?] at hb
  cases ht:a.tmps[t]? with
  | none => rfl
  | some v => rw [ht, Option.getD_some] at hb; subst hb; rfl
theorem StepG.run {Γ Γ':Ctx} {M:Mem} {o:Oper} {i:Nat} (hi:ops[i]? = some o) (h:StepG P E Γ M ops o Γ') :
  ∃ d ψ,o.dst=some d∧d<E.N∧Γ'=(d, ψ) :: Γ ∧ ∀ (a:Act) (w:World),Base E M w →
   (∀ t φ,t∈iG ops o→bJ Γ t=some φ→φ.p (a.tmps.getD t undef) (hv E M w)) →
   ∀ (next:Act→World→Prop) (Q:Exit→Act→World→Prop),
    (∀ v w',Ext w w'→ψ.p v (hv E M w')→next (a.put (some d) v) w')→wpOp P ops Q i next a w:=by
 have opsOk : ∀ (a:Act) (w:World),(∀ t φ,t∈iG ops o→bJ Γ t=some φ→φ.p (a.tmps.getD t undef) (hv E M w)) →
   ∀ x φ,x∈o.op.operands→aO Γ x=some φ→φ.p (a.eval x) (hv E M w):=by
  intro a w hn x φ hx he
  cases x with
  | tmp t => exact hn t φ (List.mem_append.2 (.inl (List.mem_filterMap.2 ⟨.tmp t, by simpa using hx, rfl⟩))) he
  | const v => cases he; rfl
  | global g => cases he; rfl
  | func f => cases he; rfl
 cases h with
 | @plain ψ d hs hg hd hN =>
  refine ⟨d, ψ,hd,hN,rfl,fun a w hb hn next Q hnext => ?_⟩
  simp only [wpOp,hi,c7 hg,if_true]
  exact .inl (hs a w hb (opsOk a w hn) next Q (by rw [hd]; exact hnext))
 | @guarded1 ψ d t want hg ht hs hd hN =>
  refine ⟨d,_,hd,hN,rfl,fun a w hb hn next Q hnext => ?_⟩
  have hbv:a.tmps.getD t undef = .bool want:=hn t _ (List.mem_append.2 (.inr (by rw [hg]; simp))) ht
  have hw:=iH (a:=a) hg (jv hbv) hbv
  simp only [wpOp,hi,hw]
  rw [if_pos (by simp)]
  refine .inl (hs a w hb (opsOk a w hn) next Q ?_)
  rw [hd]; exact fun v w' k hv'=>hnext v w' k hv'
 | @guarded0 d t want b hg ht hne hd hN =>
  refine ⟨d,_,hd,hN,rfl,fun a w hb hn next Q hnext => ?_⟩
  have hbv:a.tmps.getD t undef = .bool b:=hn t _ (List.mem_append.2 (.inr (by rw [hg]; simp))) ht
  have hw:=iH (a:=a) hg (jv hbv) hbv
  simp only [wpOp,hi,hw,hne]
  rw [if_neg (by simp),hd]
  exact hnext _ w (Ext.refl w) trivial
 | @guardedN d t want b hg ht hne hd hN =>
  refine ⟨d,_,hd,hN,rfl,fun a w hb hn next Q hnext => ?_⟩
  have hbv:a.tmps.getD t undef = .bool b:=hn t _ (List.mem_append.2 (.inr (by rw [hg]; simp))) ht
  have hw:=iH (a:=a) hg (jv hbv) hbv
  simp only [wpOp,hi,hw,hne]
  rw [if_neg (by simp),hd]
  exact hnext _ w (Ext.refl w) Z
 | @guardedU d t want hg ht hd hN =>
  refine ⟨d,_,hd,hN,rfl,fun a w hb hn next Q hnext => ?_⟩
  have hbv:a.tmps.getD t undef=undef:=hn t _ (List.mem_append.2 (.inr (by rw [hg]; simp))) ht
  have hw:=pg (a:=a) hg hbv
  simp only [wpOp,hi,hw]
  rw [if_neg (by simp),hd]
  exact hnext _ w (Ext.refl w) Z
theorem St.names {D:List Deferred} {Γ:Ctx} {M:Mem} {a:Act} {w:World} (h:St E D Γ M a w) (o:Oper) :
  ∀ t φ,t∈iG ops o→bJ Γ t=some φ→φ.p (a.tmps.getD t undef) (hv E M w):=fun t φ _ e=>h.tm t φ e
theorem Run.seq {i:Nat} {D:List Deferred} {Γ:Ctx} {M:Mem} {os:List Oper} {K:List Deferred→Ctx→Mem→Prop} {dr:Bool}
  (h:Run P E ops dr i D Γ M os K) : ∀ (Q:Exit→Act→World→Prop) (tl:List Nat),(∀ j,j<os.length→ops[i+j]? = os[j]?) →
   (∀ D' Γ' M' a w,K D' Γ' M'→St E D' Γ' M' a w→wpOps P ops Q tl a w) →
   ∀ a w,St E D Γ M a w→wpOps P ops Q (List.range' i os.length ++ tl) a w:=by
 induction h with
 | nil hK => intro Q tl _ hQ a w hS; exact hQ _ _ _ a w hK hS
 | @step dr i D Γ M o os K Γ' hs _ ih =>
  intro Q tl hops hQ a w hS
  have hi:ops[i]? = some o:=by simpa using hops 0 (by simp)
  obtain ⟨d, ψ,_,hN,rfl,hrun⟩:=hs.run hi
  simp only [List.length_cons,List.range'_succ,List.cons_append,wpOps_cons]
  refine hrun a w hS.base (hS.names o) _ Q fun v w' k hv' => ?_
  refine ih Q tl (fun j hj => ?_) hQ _ _ (hS.put k hN hv')
  have:=hops (j+1) (by simpa using hj)
  rw [show i+1+j=i+(j+1) by omega]; simpa using this
 | @conv i D Γ M Γ' M' os K hc _ ih =>
  intro Q tl hops hQ a w hS
  exact ih Q tl hops hQ a w (hc a w hS)
 | @act i D Γ M o os K K' hs _ ih =>
  intro Q tl hops hQ a w hS
  simp only [List.length_cons,List.range'_succ,List.cons_append,wpOps_cons]
  refine hs a w hS _ Q fun D' Γ' M' a' w' hK hS' => ?_
  refine ih D' Γ' M' hK Q tl (fun j hj => ?_) hQ _ _ hS'
  have:=hops (j+1) (by simpa using hj)
  rw [show i+1+j=i+(j+1) by omega]; simpa using this
theorem aj {D:List Deferred} {Γ:Ctx} {M:Mem} {id:Nat} {Q:Exit→Act→World→Prop}
  (h:Run P E ops false 0 D Γ M ops.toList (fun D' Γ' M'=>PJ E D' Γ' M' .normal Q)):J P E D Γ M (.region id ops false) Q:=by
 intro a w hS
 refine wX ?_
 have:=h.seq (nrm Q) [] (fun j _=>by simp) (fun D' Γ' M' a w hK hS=>by simpa [wpOps] using hK a w hS) a w hS
 simpa [List.range_eq_range'] using this
/-! ### Any order -/
def iz (ops:Array Oper) (i j:Nat):Bool:=match ops[j]? with
 | some o => o.after.any fun e => Region.binds .any e && e.on == i
 | none => false
def dstOf (ops:Array Oper) (i:Nat):Option Tmp:=(ops[i]?).bind (·.dst)
def dD (ops:Array Oper) (i:Nat):List Tmp:=match ops[i]? with | some o=>iG ops o | none => []
def iA (ops:Array Oper) (i j:Nat):Bool :=
 (match dstOf ops i with | some t=>(dD ops j).contains t || dstOf ops j == some t | none=>false) ||
 (match dstOf ops j with | some t=>(dD ops i).contains t | none=>false)
def eH (n:Nat) (ops:Array Oper):Bool :=
 decide (n≤ops.size) &&
 ((List.range ops.size).all fun j =>
  (match ops[j]? with | some o=>o.after.all (fun e => !Region.binds .any e || decide (e.on<j)) | none=>true) &&
  ((List.range j).all fun i=>iz ops i j || (decide (j<n) && !iA ops i j)))
theorem cV {n:Nat} (h:eH n ops=true) {i j:Nat} (hij:i<j) (hj:j<ops.size):iz ops i j=true∨(j<n∧iA ops i j=false):=by
 simp only [eH,Bool.and_eq_true,List.all_eq_true,List.mem_range] at h
 have:=(h.2 j hj).2 i hij
 simpa using this
theorem tX {n:Nat} (h:eH n ops=true) {j:Nat} {o:Oper} (ho:ops[j]? = some o) {e:Edge} (he:e∈o.after) (hb:Region.binds .any e=true):e.on<j:=by
 simp only [eH,Bool.and_eq_true,List.all_eq_true,List.mem_range] at h
 have hj:j<ops.size:=by
  rcases Nat.lt_or_ge j ops.size with h | h
  ·exact h
  ·rw [Array.getElem?_eq_none h] at ho;cases ho
 have:=(h.2 j hj).1
 rw [ho] at this
 simp only [Array.all_eq_true'] at this
 have:=this e he
 simpa [hb] using this
structure Lst (ops:Array Oper) (l:Array Bool):Prop where
 size:l.size=ops.size
 closed : ∀ j,l.getD j false=true → ∀ i,iz ops i j=true→l.getD i false=true
theorem dG {l:Array Bool} {i:Nat} (h:i<l.size) (d d':Bool):l.getD i d=l.getD i d':=by
 simp [Array.getD_eq_getD_getElem?,h]
theorem cr {l:Array Bool} {j i:Nat} (hj:j∈Region.ready .any ops l) (hp:iz ops i j=true):l.getD i false=true:=by
 unfold iz at hp
 cases ho:ops[j]? with
 | none => rw [ho] at hp; cases hp
 | some o =>
  rw [ho] at hp
  simp only [Array.any_eq_true'] at hp
  obtain ⟨e,he,hh⟩:=hp
  simp only [Bool.and_eq_true,beq_iff_eq] at hh
  obtain ⟨o',ho',hall⟩:=(mem_ready.1 hj).2
  rw [ho] at ho';cases ho'
  rw [← hh.2]; exact hall e he hh.1
theorem Run.chain {i:Nat} {D:List Deferred} {Γ:Ctx} {M:Mem} {os:List Oper} {K:List Deferred→Ctx→Mem→Prop} {dr:Bool}
  (h:Run P E ops dr i D Γ M os K):dr=true → ∃ G:Nat→Ctx,G i=Γ∧K D (G (i+os.length)) M ∧ ∀ j o,os[j]? = some o→StepG P E (G (i+j)) M ops o (G (i+j+1)):=by
 induction h with
 | @nil dr i D Γ M K hK => intro _; exact ⟨fun _ => Γ, rfl, hK, fun j o h => by simp at h⟩
 | @act i D Γ M o os K K' _ _ _ => intro h; cases h
 | @conv i D Γ M Γ' M' os K _ _ _ => intro h; cases h
 | @step dr i D Γ M o os K Γ' hs _ ih =>
  intro hd
  obtain ⟨G,h0,hK,hG⟩:=ih hd
  refine ⟨fun j=>if j=i then Γ else G j,by simp,?_,fun j o' hj => ?_⟩
  ·have e1:i+(o :: os).length=i+1+os.length:=by simp only [List.length_cons]; omega
   have e2 : ¬ (i+(o :: os).length=i):=by simp only [List.length_cons]; omega
   show K D (if i+(o :: os).length=i then Γ else G (i+(o :: os).length)) M
   rw [if_neg e2,e1]; exact hK
  ·cases j with
   | zero =>
    simp only [List.getElem?_cons_zero,Option.some.injEq] at hj;subst hj
    simp only [Nat.add_zero,if_true]; rw [if_neg S,h0]; exact hs
   | succ j =>
    simp only [List.getElem?_cons_succ] at hj
    have:=hG j o' hj
    show StepG P E (if i+(j+1)=i then Γ else G (i+(j+1))) M ops o' (if i+(j+1)+1=i then Γ else G (i+(j+1)+1))
    rw [if_neg S,if_neg S,show i+(j+1)=i+1+j by omega]; exact this
def Inv (E:Env) (ops:Array Oper) (n:Nat) (G:Nat→Ctx) (M:Mem) (l:Array Bool) (a:Act) (w:World):Prop :=
 ∀ k,k≤n → ∀ t φ,bJ (G k) t=some φ→(∀ j,j<k→dstOf ops j=some t→l.getD j false=true) →
  (∀ j,k≤j→j<ops.size→dstOf ops j=some t→l.getD j false=false)→φ.p (a.tmps.getD t undef) (hv E M w)
theorem eo {n:Nat} {G:Nat→Ctx} {M:Mem} (hG : ∀ j o,j<n→ops[j]? = some o→StepG P E (G j) M ops o (G (j+1))) (hn:n≤ops.size) {t:Nat} {i k:Nat} (hik:i≤k) (hk:k≤n)
    (hno : ∀ j,i≤j→j<k→dstOf ops j≠some t):bJ (G k) t=bJ (G i) t:=by
  induction k with
  | zero => have : i = 0 := by omega
            subst this;rfl
  | succ k ih =>
    by_cases e:i=k+1
    · subst e;rfl
    · have hk':k<ops.size:=by omega
      have ho:ops[k]? = some ops[k]:=by simp [hk']
      obtain ⟨d, ψ,hd,_,hΓ,_⟩:=(hG k _ S ho).run ho
      rw [hΓ,bq]
      have hne:d≠t:=by
        intro h;subst h
        exact hno k S S (by simp [dstOf,ho,hd])
      rw [if_neg hne]
      exact ih S S (fun j h1 h2=>hno j h1 S)
theorem fc {i j:Nat} {t:Tmp} (hi:dstOf ops i=some t) (hj:dstOf ops j=some t):iA ops i j=true:=by
 simp [iA,hi,hj]
theorem eE {i j:Nat} {t:Tmp} (hi:dstOf ops i=some t) (hj:t∈dD ops j):iA ops i j=true:=by
 simp [iA,hi,hj]
theorem el {i j:Nat} {t:Tmp} (hj:dstOf ops j=some t) (hi:t∈dD ops i):iA ops i j=true:=by
 simp [iA,hi,hj]
theorem bw {l:Array Bool} {i j:Nat} (hi:i<l.size):(l.setIfInBounds i true).getD j false=(if i=j then true else l.getD j false):=by
 by_cases h:i=j
 ·subst h;simp [Array.getD_eq_getD_getElem?,hi]
 ·simp [Array.getD_eq_getD_getElem?,h]
def left (ops:Array Oper) (l:Array Bool):Nat:=((List.range ops.size).filter fun i => !l.getD i false).length
theorem d9 {l:Array Bool} (hs:l.size=ops.size) {i:Nat} (hi:i<ops.size) (hl:l.getD i false=false):left ops (l.setIfInBounds i true)<left ops l:=by
 unfold left
 have hg : ∀ j,(l.setIfInBounds i true).getD j false=(if i=j then true else l.getD j false):=fun j=>bw S
 generalize l.setIfInBounds i true=l' at hg
 have key : ∀ r:List Nat,(r.filter fun j => !l'.getD j false).length≤(r.filter fun j => !l.getD j false).length ∧
   (i∈r→(r.filter fun j => !l'.getD j false).length<(r.filter fun j => !l.getD j false).length):=by
  intro r
  induction r with
  | nil => simp
  | cons x r ih =>
   obtain ⟨ih1,ih2⟩:=ih
   rw [List.filter_cons,List.filter_cons,hg x]
   by_cases hx:i=x
   ·subst hx
    rw [if_pos Z,hl,if_neg (by simp),if_pos (by simp)]
    simp only [List.length_cons]; exact ⟨by omega,fun _=>by omega⟩
   ·rw [if_neg hx]
    have hm:i∈x :: r↔i∈r:=by simp [hx]
    rw [hm]
    split
    ·simp only [List.length_cons]; exact ⟨by omega,fun h=>by have:=ih2 h;omega⟩
    ·exact ⟨ih1,ih2⟩
 exact (key _).2 (by simpa using hi)
theorem cW {l:Array Bool} {j:Nat} (hj:j∈Region.ready .any ops l):j<ops.size:=by
 obtain ⟨_,o,ho,_⟩:=mem_ready.1 hj
 exact (Array.getElem?_eq_some_iff.1 ho).1
theorem lS {n:Nat} (hok:eH n ops=true) {l:Array Bool} (hs:l.size=ops.size) {j:Nat} (hj:j<ops.size) (hl:l.getD j false=false) : ∃ i,i∈Region.ready .any ops l:=by
 induction j using Nat.strongRecOn with
 | _ j ih =>
  by_cases h:j∈Region.ready .any ops l
  ·exact ⟨j,h⟩
  ·have ho:ops[j]? = some ops[j]:=by simp [hj]
   rw [mem_ready] at h
   have h1:l.getD j true=false:=by rw [dG S true false]; exact hl
   have h2 : ¬ ∀ e∈ops[j].after,Region.binds .any e=true→l.getD e.on false=true:=fun hall=>h ⟨h1,_,ho,hall⟩
   obtain ⟨e,h2⟩:=Classical.not_forall.1 h2
   obtain ⟨he,h2⟩:=Classical.not_imp.1 h2
   obtain ⟨hb,h2⟩:=Classical.not_imp.1 h2
   have hlt:=tX hok ho he hb
   exact ih e.on hlt S (by simpa using h2)
theorem sI {n:Nat} (hok:eH n ops=true) {G:Nat→Ctx} {M:Mem} {D:List Deferred} (hG : ∀ j o,j<n→ops[j]? = some o→StepG P E (G j) M ops o (G (j+1)))
  {Q:Exit→Act→World→Prop} (htail : ∀ a w,St E D (G n) M a w→wpOps P ops Q (List.range' n (ops.size - n)) a w) :
  ∀ (fuel:Nat) (l:Array Bool) (a:Act) (w:World),Lst ops l→left ops l≤fuel→Base E M w→a.tmps.size=E.N→a.defers=D→Inv E ops n G M l a w →
   (∃ i,i<n∧l.getD i false=false)→wpAny P .any ops Q fuel l a w:=by
 have hn:n≤ops.size:=by simp only [eH,Bool.and_eq_true] at hok;exact of_decide_eq_true hok.1
 -- the tail, once the head is done
 have tail : ∀ (m:Nat) (fuel:Nat) (l:Array Bool) (k:Nat) (a:Act) (w:World),k+m=ops.size→n≤k→Lst ops l→(∀ j,j<ops.size→(l.getD j false=true↔j<k))→m≤fuel →
   wpOps P ops Q (List.range' k m) a w→wpAny P .any ops Q fuel l a w:=by
  intro m
  induction m with
  | zero =>
   intro fuel l k a w hkm hnk hl hiff _ h
   have hr:Region.ready .any ops l = []:=by
    rw [List.eq_nil_iff_forall_not_mem]
    intro j hj
    have h1:=cW hj
    have h2:=(mem_ready.1 hj).1
    have h3:=(hiff j h1).2 S
    rw [dG (by have:=hl.size;omega) true false,h3] at h2;cases h2
   have hq:Q .normal a w:=by simpa [wpOps] using h
   cases fuel with
   | zero => exact ⟨hr, hq⟩
   | succ f => exact ⟨fun _ => hq, fun i hi => by rw [hr] at hi; cases hi⟩
  | succ m ih =>
   intro fuel l k a w hkm hnk hl hiff hf h
   obtain ⟨f,rfl⟩ : ∃ f,fuel=f+1:=⟨fuel - 1,by omega⟩
   have hsz:=hl.size
   have hkl:l.getD k false=false:=by
    rw [← Bool.not_eq_true]; intro h';have:=(hiff k S).1 h';omega
   refine ⟨fun hr => ?_,fun i hi => ?_⟩
   ·obtain ⟨i,hi⟩:=lS hok hsz (j:=k) S hkl
    rw [hr] at hi;cases hi
   ·have hi1:=cW hi
    have hi2:=(mem_ready.1 hi).1
    rw [dG S true false] at hi2
    have hik:k≤i:=by
     rcases Nat.lt_or_ge i k with h' | h'
     ·rw [(hiff i hi1).2 h'] at hi2;cases hi2
     ·exact h'
    have:i=k:=by
     rcases Nat.lt_or_ge k i with h' | h'
     ·rcases cV hok h' hi1 with hp | ⟨hp,_⟩
      ·have:=cr hi hp;rw [this] at hkl;cases hkl
      ·omega
     ·omega
    subst this
    rw [List.range'_succ,wpOps_cons] at h
    refine wpOp_mono (fun a' w' h' => ?_) h
    refine ih f _ (i+1) a' w' S S ⟨by simpa using hsz,?_⟩ ?_ S h'
    ·intro j hj i' hp
     rw [bw S] at hj ⊢
     split
     ·rfl
     ·split at hj
      ·rename_i h1;subst h1;exact cr hi hp
      ·exact hl.closed j hj i' hp
    ·intro j hj
     rw [bw S]
     split
     ·rename_i h1;subst h1;simp
     ·rename_i h1;rw [hiff j hj]; omega
 intro fuel
 induction fuel with
 | zero =>
  intro l a w hl hleft _ _ _ _ ⟨i,hi,hil⟩
  have:=d9 (ops:=ops) hl.size (i:=i) S hil
  omega
 | succ fuel ih =>
  intro l a w hl hleft hbase hsz hdf hinv ⟨i0,hi0,hil0⟩
  have hls:=hl.size
  refine ⟨fun hr => ?_,fun i hi => ?_⟩
  ·obtain ⟨i,hi⟩:=lS hok hls (j:=i0) S hil0
   rw [hr] at hi;cases hi
  ·have hi1:=cW hi
   have hi2:l.getD i false=false:=by
    have:=(mem_ready.1 hi).1
    rw [dG S true false] at this;exact this
   have hin:i<n:=by
    rcases Nat.lt_or_ge i n with h' | h'
    ·exact h'
    ·rcases cV hok (i:=i0) (j:=i) S hi1 with hp | ⟨hp,_⟩
     ·have:=cr hi hp;rw [this] at hil0;cases hil0
     ·omega
   have ho:ops[i]? = some ops[i]:=by simp [hi1]
   obtain ⟨d, ψ,hd,hN,hΓ,hrun⟩:=(hG i _ hin ho).run ho
   have hdi:dstOf ops i=some d:=by simp [dstOf,ho,hd]
   refine hrun a w hbase (fun t φ ht hlk => ?_) _ Q fun v w' k hv' => ?_
   ·refine hinv i S t φ hlk (fun j hj hdj => ?_) (fun j hj hjs hdj => ?_)
    ·rcases cV hok hj hi1 with hp | ⟨_,hp⟩
     ·exact cr hi hp
     ·rw [eE hdj (by simpa [dD,ho] using ht)] at hp;cases hp
    ·rcases Nat.lt_or_ge i j with h' | h'
     ·rw [← Bool.not_eq_true]; intro hlj
      rcases cV hok h' hjs with hp | ⟨_,hp⟩
      ·have:=hl.closed j hlj i hp;rw [this] at hi2;cases hi2
      ·rw [el hdj (by simpa [dD,ho] using ht)] at hp;cases hp
     ·have:j=i:=by omega
      subst this;exact hi2
   ·have hl':Lst ops (l.setIfInBounds i true):=by
     refine ⟨by simpa using hls,fun j hj i' hp => ?_⟩
     rw [bw S] at hj ⊢
     split
     ·rfl
     ·split at hj
      ·rename_i h1;subst h1;exact cr hi hp
      ·exact hl.closed j hj i' hp
    have hbase':=hbase.ext k
    have hsz':(a.put (some d) v).tmps.size=E.N:=by simp [Act.put,hsz]
    have hinv':Inv E ops n G M (l.setIfInBounds i true) (a.put (some d) v) w':=by
     intro k' hk' t φ hlk hlo hhi
     by_cases htd:d=t
     ·subst htd
      have hik:i<k':=by
       rcases Nat.lt_or_ge i k' with h' | h'
       ·exact h'
       ·have:=hhi i h' hi1 hdi;rw [bw S] at this;simp at this
      have hno : ∀ j,i+1≤j→j<k'→dstOf ops j≠some d:=by
       intro j h1 h2 hdj
       have h3:=hlo j h2 hdj
       rw [bw S,if_neg S] at h3
       rcases cV hok (i:=i) (j:=j) S S with hp | ⟨_,hp⟩
       ·have:=hl.closed j h3 i hp;rw [this] at hi2;cases hi2
       ·rw [fc hdi hdj] at hp;cases hp
      rw [eo hG hn (i:=i+1) S hk' hno,hΓ,bq,if_pos Z] at hlk
      cases hlk
      rw [ce (by rw [hsz]; exact hN)]; exact hv'
     ·rw [cd htd]
      refine φ.mono (Base.hv_ext k) (hinv k' hk' t φ hlk (fun j hj hdj => ?_) (fun j hj hjs hdj => ?_))
      ·have:=hlo j hj hdj;rw [bw S] at this
       split at this
       ·rename_i h1;subst h1;rw [hdi] at hdj;cases hdj;exact absurd Z htd
       ·exact this
      ·have:=hhi j hj hjs hdj;rw [bw S] at this
       split at this
       ·cases this
       ·exact this
    have hleft':=d9 (ops:=ops) hls hi1 hi2
    by_cases hmore : ∃ i',i'<n∧(l.setIfInBounds i true).getD i' false=false
    ·exact ih _ _ _ hl' S hbase' hsz' hdf hinv' hmore
    ·have hall : ∀ j,j<n→(l.setIfInBounds i true).getD j false=true:=by
      intro j hj;rw [← Bool.not_eq_false]; intro h;exact hmore ⟨j,hj,h⟩
     have hlate : ∀ j,n≤j→j<ops.size→(l.setIfInBounds i true).getD j false=false:=by
      intro j hj hjs
      rw [bw S,if_neg S, ← Bool.not_eq_true]
      intro hlj
      rcases cV hok (i:=i) (j:=j) S hjs with hp | ⟨hp,_⟩
      ·have:=hl.closed j hlj i hp;rw [this] at hi2;cases hi2
      ·omega
     have hSt:St E D (G n) M (a.put (some d) v) w' :=
      ⟨hbase',hsz',hdf,fun t φ hlk=>hinv' n (Nat.le_refl _) t φ hlk (fun j hj _=>hall j hj) (fun j hj hjs _=>hlate j hj hjs)⟩
     refine tail (ops.size - n) fuel _ n _ w' S (Nat.le_refl _) hl' (fun j hj => ?_) ?_ (htail _ _ hSt)
     ·constructor
      ·intro h;rcases Nat.lt_or_ge j n with h' | h'
       ·exact h'
       ·rw [hlate j h' hj] at h;cases h
      ·exact hall j
     ·have:ops.size - n≤left ops (l.setIfInBounds i true):=by
       unfold left
       have h1:(List.range' n (ops.size - n)).Sublist ((List.range ops.size).filter fun i' => !(l.setIfInBounds i true).getD i' false):=by
        have h2:((List.range' n (ops.size - n)).filter fun i' => !(l.setIfInBounds i true).getD i' false)=List.range' n (ops.size - n):=by
         rw [List.filter_eq_self]
         intro j hj;rw [List.mem_range'_1] at hj
         rw [hlate j S S]; rfl
        rw [← h2]
        refine List.Sublist.filter _ ?_
        have h3:List.range ops.size=List.range' 0 n ++ List.range' n (ops.size - n):=by
         have := @List.range'_append 0 n (ops.size - n) 1
         rw [List.range_eq_range']
         simp only [Nat.one_mul,Nat.zero_add] at this
         rw [this]; congr 1;omega
        rw [h3]; exact List.sublist_append_right _ _
       have:=h1.length_le;simpa using this
      omega
theorem aZ {D:List Deferred} {Γ:Ctx} {M:Mem} {id:Nat} {Q:Exit→Act→World→Prop} (n:Nat) (hm:P.follows .mixedOrders=true) (hok:eH n ops=true) (hn0:0<n)
  (h:Run P E ops true 0 D Γ M (ops.toList.take n) (fun D' Γ' M'=>Run P E ops false n D' Γ' M' (ops.toList.drop n) (fun D' Γ' M'=>PJ E D' Γ' M' .normal Q))):J P E D Γ M (.region id ops true) Q:=by
 intro a w hS
 have hn:n≤ops.size:=by simp only [eH,Bool.and_eq_true] at hok;exact of_decide_eq_true hok.1
 refine dX hm ?_
 have k:Ext w { w with drawn:=w.drawn+1 } := ⟨rfl,rfl,rfl,Nat.le_refl _,fun _ _=>rfl⟩
 obtain ⟨G,hG0,hK,hG⟩:=h.chain Z
 have hlen:(ops.toList.take n).length=n:=by simp [hn]
 rw [hlen,Nat.zero_add] at hK
 refine sI (D:=D) hok (G:=G) (M:=M) (fun j o hj ho => ?_) (fun a' w' hS' => ?_) ops.size _ a _ ⟨by simp,fun j hj => ?_⟩ ?_ (hS.base.ext k) hS.sz hS.df ?_ ⟨0,hn0,?_⟩
 ·have:=hG j o (by rw [List.getElem?_take,if_pos hj]; simpa using ho)
  simpa using this
 ·have:=hK.seq (nrm Q) [] (fun j _=>by simp [List.getElem?_drop]) (fun D' Γ' M' a w hK hS=>by simpa [wpOps] using hK a w hS) a' w' hS'
  simpa using this
 ·simp [Array.getD_eq_getD_getElem?,Array.getElem?_replicate] at hj;split at hj <;> simp at hj
 ·unfold left;refine Nat.le_trans (List.length_filter_le _ _) (by simp)
 ·intro k' hk' t φ hlk hlo _
  have hno : ∀ j,0≤j→j<k'→dstOf ops j≠some t:=by
   intro j _ hj hd
   have:=hlo j hj hd
   simp [Array.getD_eq_getD_getElem?,Array.getElem?_replicate] at this;split at this <;> simp at this
  rw [eo (fun j o hj ho=>by have:=hG j o (by rw [List.getElem?_take,if_pos hj]; simpa using ho);simpa using this) hn (Nat.zero_le _) hk' hno,hG0] at hlk
  exact φ.mono (Base.hv_ext k) (hS.tm t φ hlk)
 ·simp [Array.getD_eq_getD_getElem?,Array.getElem?_replicate]; split <;> rfl
end
end Tor
end
section
namespace Tor
open Go Go.RowKit
/-! ### What a program says of its types -/
def wY:TypeDesc→Bool
 | .struct _ | .array _ _ => true
 | _ => false
def Lay.isAgg:Lay→Bool
 | .one => false
 | .agg _ => true
class LayOf (P:Program) (T:TypeId) (L:outParam Lay):Prop where
 sz:(P.info? T).map (·.size)=some L.sz
 ag:(P.underlying T).map wY=some L.isAgg
class ZeroOf (P:Program) (T:TypeId) (z:outParam Value) (bytes:outParam Nat):Prop where
 zb:(P.info? T).map (fun i=>(i.zero,i.bytes))=some (some z,bytes)
class SliceOf (P:Program) (T:TypeId) (e:outParam TypeId):Prop where
 und:P.underlying T=some (.slice e)
class ArrayOf (P:Program) (T:TypeId) (n:outParam Nat) (e:outParam TypeId):Prop where
 und:P.underlying T=some (.array n e)
class IntOf (P:Program) (T:TypeId) (k:outParam IntKind):Prop where
 und:P.underlying T=some (.int k)
class FieldOf (P:Program) (T:TypeId) (i:Nat) (off:outParam Nat) (L:outParam Lay):Prop where
 ex : ∃ fs f,P.underlying T=some (.struct fs)∧fs[i]? = some f∧f.offset=off∧LayOf P f.type L∧L.sz≠0
def ng (P:Program) (T:TypeId) (i:Nat):Option (Nat × TypeId) :=
 match P.underlying T with
 | some (.struct fs) => (fs[i]?).map fun f => (f.offset, f.type)
 | _ => none
theorem FieldOf.by_info {P:Program} {T:TypeId} {i off:Nat} {ft:TypeId} {L:Lay} (hL:LayOf P ft L) (h:ng P T i=some (off,ft)) (hs:L.sz≠0):FieldOf P T i off L where
 ex:=by
  unfold ng at h
  split at h
  ·rename_i fs hfs
   cases hf:fs[i]? with
   | none => rw [hf] at h; cases h
   | some f =>
    rw [hf] at h;simp only [Option.map_some,Option.some.injEq,Prod.mk.injEq] at h
    obtain ⟨h1,h2⟩:=h
    subst h2
    exact ⟨fs,f,hfs,hf,h1,hL,hs⟩
  ·cases h
section
variable {P:Program} {E:Env} {Γ:Ctx} {M:Mem} {d:Option Tmp} {ty:TypeId} {pos:String} {af:Array Edge} {gd:Option (Nat × Bool)}
theorem LayOf.info {T:TypeId} {L:Lay} (h:LayOf P T L) : ∃ i,P.info? T=some i∧i.size=L.sz:=by
 have:=h.sz
 cases hi:P.info? T with
 | none => rw [hi] at this; cases this
 | some i => rw [hi] at this; exact ⟨i, rfl, by simpa using this⟩
theorem LayOf.und {T:TypeId} {L:Lay} (h:LayOf P T L) : ∃ d,P.underlying T=some d∧wY d=L.isAgg:=by
 have:=h.ag
 cases hi:P.underlying T with
 | none => rw [hi] at this; cases this
 | some i => rw [hi] at this; exact ⟨i, rfl, by simpa using this⟩
theorem ZeroOf.info {T:TypeId} {z:Value} {b:Nat} (h:ZeroOf P T z b) : ∃ i,P.info? T=some i∧i.zero=some z∧i.bytes=b:=by
 have:=h.zb
 cases hi:P.info? T with
 | none => rw [hi] at this; cases this
 | some i => rw [hi] at this; simp at this; exact ⟨i, rfl, this.1, this.2⟩
/-! ### Runs of the model's small steps -/
theorem fM {T:TypeId} {i:TypeInfo} (h:P.info? T=some i) (w:World):(typeInfo T).run P w = .ok i w:=by
 simp [typeInfo,program,h,Sem.run,pure,Bind.bind,Sem.bind]
theorem bj {T:TypeId} {d:TypeDesc} (h:P.underlying T=some d) (w:World):(underlying T).run P w = .ok d w:=by
 simp [underlying,program,h,Sem.run,pure,Bind.bind,Sem.bind]
theorem dH {b o n:Nat} : (⟨b,o,none⟩:Addr).add n=⟨b,o+n,none⟩:=by
 unfold Addr.add;split <;> simp_all
theorem nh {T:TypeId} {L:Lay} [h:LayOf P T L] (w:World):(isAgg T).run P w = .ok L.isAgg w:=by
 obtain ⟨d,hd,hL⟩:=h.und
 unfold isAgg
 rw [Sem.run_bind,bj hd w]
 cases d <;> simp_all [wY]
theorem cJ {T:TypeId} {L:Lay} [h:LayOf P T L] (w:World):(Go.sizeOf T).run P w = .ok L.sz w:=by
 obtain ⟨i,hi,hs⟩:=h.info
 simp [Go.sizeOf,Sem.run_bind,fM hi,hs]
theorem dI {T T':TypeId} {L:Lay} [h:LayOf P T L] {w:World} {b o:Nat} {c:Array Value} {f:Nat × Nat} {x:Value}
  (hb:cC w b=some (c,T',f)) (hx:bP L c o=some x):(loadVar T ⟨b,o,none⟩).run P w = .ok x w:=by
 unfold loadVar
 rw [Sem.run_bind,nh (L:=L)]
 cases L with
 | one =>
  have:w.cell? ⟨b,o,none⟩=some x:=by rw [iY hb]; exact hx
  simp [Lay.isAgg,run_load,this]
 | agg n =>
  simp only [bP] at hx
  split at hx
  ·rename_i hle
   cases hx
   have hl:=run_loadCells (P:=P) w ⟨b,o,none⟩ n (fun j=>c.getD (o+j) undef) (fun j hj=>by
    rw [dH,iY hb,Array.getD_eq_getD_getElem?]
    have:o+j<c.size:=by omega
    simp [this])
   have he:((List.range n).map fun j=>c.getD (o+j) undef).toArray=c.extract o (o+n):=by
    apply Array.ext
    ·simp;omega
    ·intro i h1 h2
     simp at h1
     have:o+i<c.size:=by omega
     simp [Array.getD_eq_getD_getElem?,this]
   rw [he] at hl
   simp only [Lay.isAgg,Result.andThen_ok,if_true,Sem.run_bind,cJ (L := .agg n),Lay.sz,hl,Sem.run_pure]
  ·cases hx
def cD (c:Array Value) (o:Nat) (vs:Array Value):Array Value:=(c.toList.take o ++ vs.toList ++ c.toList.drop (o+vs.size)).toArray
theorem cT {c vs:Array Value} {o:Nat} (h:o+vs.size≤c.size):(cD c o vs).size=c.size:=by
 simp [cD]; omega
theorem dT {c vs:Array Value} {o:Nat} (h:o+vs.size≤c.size) (j:Nat):(cD c o vs)[j]? = if o≤j∧j<o+vs.size then vs[j - o]? else c[j]? := by
 have hm:min o c.size=o:=by omega
 simp only [cD,List.getElem?_toArray,List.getElem?_append,List.length_take,List.length_append,Array.length_toList,List.getElem?_take,List.getElem?_drop,Array.getElem?_toList,hm]
 by_cases h1:j<o+vs.size
 ·rw [if_pos h1]
  by_cases h2:j<o
  ·rw [if_pos h2,if_pos h2,if_neg S]
  ·rw [if_neg h2,if_pos S]
 ·rw [if_neg h1,if_neg S]; congr 1;omega
theorem cP (c:Array Value) (o n j:Nat):(c.extract o (o+n))[j]? = if j<n then c[o+j]? else none:=by
 rw [Array.getElem?_extract]
 by_cases h1:j<n
 ·rw [if_pos h1]
  by_cases h2:o+j<c.size
  ·rw [if_pos S]
  ·rw [if_neg S,Array.getElem?_eq_none S]
 ·rw [if_neg h1,if_neg S]
theorem dQ {T T':TypeId} {L:Lay} [h:LayOf P T L] {w:World} {b o:Nat} {c:Array Value} {v:Value}
  (hb:cC w b=some (c,T',(0,0))) (hs:v.cells.size=L.sz) (ho:o+L.sz≤c.size) (h1:v.cells.all (·.oneCell')=true) :
  (storeVar T ⟨b,o,none⟩ v).run P w = .ok () (w.setRow b (cD c o v.cells)):=by
 unfold storeVar
 rw [Sem.run_bind,cJ (L:=L)]
 simp only [Result.andThen_ok,hs,ne_eq,not_true,if_false]
 have:=run_storeCells_at (P:=P) b o T' v.cells.toList 0 c w (fb hb) (by simp;omega) (fun x hx=>(Array.all_eq_true_iff_forall_mem.1 h1) x (by simpa using hx))
 simp only [Nat.add_zero,Array.length_toList] at this
 simpa [cD] using this
/-! ### Values by their cells -/
theorem dY {L:Lay} {c:Array Value} {o:Nat} {v:Value} (ho:o+L.sz≤c.size) (hs:v.cells.size=L.sz) (hv:bP L v.cells 0=some v) :
  bP L (cD c o v.cells) o=some v:=by
 cases L with
 | one =>
  simp only [bP,Lay.sz] at *
  rw [dT S,if_pos S]; simpa using hv
 | agg n =>
  simp only [bP,Lay.sz] at *
  have h1:0+n≤v.cells.size:=by omega
  rw [if_pos h1] at hv
  rw [cT S,if_pos ho]
  have he:v.cells.extract 0 n=v.cells:=by
   apply Array.ext_getElem?; intro i
   have:=cP v.cells 0 n i
   rw [Nat.zero_add] at this
   rw [this]; split
   ·rw [Nat.zero_add]
   ·rw [Array.getElem?_eq_none S]
  rw [← hv,Nat.zero_add,he]; congr 2
  apply Array.ext_getElem?; intro i
  rw [cP,dT S]
  by_cases h2:i<n
  ·rw [if_pos h2,if_pos S]; congr 1;omega
  ·rw [if_neg h2,Array.getElem?_eq_none S]
theorem dF {L':Lay} {c vs:Array Value} {o o':Nat} (ho:o+vs.size≤c.size) (hd:o'+L'.sz≤o∨o+vs.size≤o') :
  bP L' (cD c o vs) o'=bP L' c o':=by
 cases L' with
 | one =>
  simp only [bP,Lay.sz] at *
  rw [dT ho,if_neg S]
 | agg n =>
  simp only [bP,Lay.sz] at *
  rw [cT ho]
  split
  ·congr 2
   apply Array.ext_getElem?; intro i
   rw [cP,cP]
   split
   ·rw [dT ho,if_neg S]
   ·rfl
  ·rfl
end
end Tor
end
section
set_option linter.unusedSectionVars false
namespace Tor
open Go Go.RowKit
section
variable {P:Program} {E:Env} {Γ:Ctx} {M:Mem} {d:Option Tmp} {ty:TypeId} {pos:String} {af:Array Edge} {gd:Option (Nat × Bool)}
theorem aQ.ofRun' {o:Oper} {ψ:VT} (h : ∀ (a:Act) (w:World),Base E M w→(∀ x φ,x∈o.op.operands→aO Γ x=some φ→φ.p (a.eval x) (hv E M w)) →
  ∃ v w',(execOp a.eval o).run P w = .ok (.value v) w'∧Ext w w'∧ψ.p v (hv E M w')):aQ P E Γ M o ψ:=by
 intro a w hb hf next Q hn
 obtain ⟨v,w',hr,he,hp⟩:=h a w hb hf
 unfold Oper.wp;rw [hr]; exact hn v w' he hp
theorem aQ.ofRun {o:Oper} {ψ:VT} (h : ∀ (a:Act) (w:World),Base E M w→(∀ x φ,x∈o.op.operands→aO Γ x=some φ→φ.p (a.eval x) (hv E M w)) →
  ∃ v,(execOp a.eval o).run P w = .ok (.value v) w∧ψ.p v (hv E M w)):aQ P E Γ M o ψ :=
 aQ.ofRun' fun a w hb hf=>let ⟨v,hr,hp⟩:=h a w hb hf;⟨v,w,hr,Ext.refl w,hp⟩
theorem ae {x:Operand} {φ:VT} (hx:aO Γ x=some φ):aQ P E Γ M ⟨d, .move x,ty,pos,af,gd⟩ φ :=
 aQ.ofRun fun a w hb hf=>⟨a.eval x,by simp [execOp],hf x φ (by simp [Op.operands]) hx⟩
theorem ai {x:Operand} {φ:VT} (hx:aO Γ x=some φ):aQ P E Γ M ⟨d, .assign x,ty,pos,af,gd⟩ φ :=
 aQ.ofRun fun a w hb hf=>⟨a.eval x,by simp [execOp],hf x φ (by simp [Op.operands]) hx⟩
theorem ao {x:Operand} {a:Addr} (hx:aO Γ x=some (one (.pointer (some a)))):aQ P E Γ M ⟨d, .nilCheck x,ty,pos,af,gd⟩ (one (.pointer (some a))) :=
 aQ.ofRun fun ac w hb hf=>by
  have h1:ac.eval x = .pointer (some a):=hf x _ (by simp [Op.operands]) hx
  exact ⟨_,by simp [execOp,h1],rfl⟩
/-! ### Loads -/
theorem aH {T:TypeId} {L:Lay} [LayOf P T L] {x:Operand} {φ:VT} (hx:aO Γ x=some (cA L φ)):aQ P E Γ M ⟨d, .load T x,ty,pos,af,gd⟩ φ :=
 aQ.ofRun fun a w hb hf=>by
  obtain ⟨b,o,c,T',f,v,hv',hc,hx',hp⟩:=hf x _ (by simp [Op.operands]) hx
  refine ⟨v,?_,hp⟩
  simp only [execOp,hv',Instr.loadAt,Instr.sureAddr,Sem.run_bind,Sem.run_pure,Result.andThen_ok,dI (qG _ _ _ _ hc) hx']
def eP (b j sz:Nat):VT:=one (.pointer (some ⟨b,j*sz,none⟩))
theorem dZ {M:Mem} {w:World} (hb:Base E M w) {i:Nat} {o:Own} (hM:M[i]? = some o):o.p (raw w) (hv E M w):=hb.mem o (List.mem_of_getElem? hM)
theorem aI {T T':TypeId} {L:Lay} [LayOf P T L] {x:Operand} {b j cap n:Nat} {φ:Nat→VT} (i:Nat) (hx:aO Γ x=some (eP b j L.sz)) (hM:M[i]? = some (a8 (some b) T' L cap n φ)) (hj:j<n) :
  aQ P E Γ M ⟨d, .load T x,ty,pos,af,gd⟩ (φ j) :=
 aQ.ofRun fun a w hb hf=>by
  have h1:a.eval x = .pointer (some ⟨b,j*L.sz,none⟩):=hf x _ (by simp [Op.operands]) hx
  obtain ⟨_,_,_,h4⟩:=dZ hb hM
  obtain ⟨c,hc,_,he⟩:=h4 b Z
  obtain ⟨v,hx',hp⟩:=he j hj
  refine ⟨v,?_,hp⟩
  simp only [execOp,h1,Instr.loadAt,Instr.sureAddr,Sem.run_bind,Sem.run_pure,Result.andThen_ok,dI hc hx']
def fC:cf→Nat→Option (Lay × VT)
 | [], _ => none
 | (k, l, v) :: r, t => bif Nat.beq k t then some (l, v) else fC r t
theorem ep : ∀ {cs:cf} {t:Nat} {l:Lay} {v:VT},fC cs t=some (l,v)→(t,l,v)∈cs
 | [], _, _, _, h => by cases h
 | (k, l', v') :: r, t, l, v, h => by
  rw [fC] at h
  by_cases e:Nat.beq k t=true
  ·rw [e] at h;simp only [cond_true,Option.some.injEq,Prod.mk.injEq] at h
   have:=Nat.eq_of_beq_eq_true e;subst this;rw [h.1,h.2]; exact List.mem_cons_self
  ·have e':Nat.beq k t=false:=by cases h':Nat.beq k t with | true=>exact absurd h' e | false=>rfl
   rw [e'] at h;exact List.mem_cons_of_mem _ (ep h)
theorem ak {T T':TypeId} {L:Lay} [LayOf P T L] {x:Operand} {b o m:Nat} {cs:cf} {φ:VT} (i:Nat) (hx:aO Γ x=some (one (.pointer (some ⟨b,o,none⟩)))) (hM:M[i]? = some (aX b T' m cs)) (hl:fC cs o=some (L, φ)) :
  aQ P E Γ M ⟨d, .load T x,ty,pos,af,gd⟩ φ :=
 aQ.ofRun fun a w hb hf=>by
  have h1:a.eval x = .pointer (some ⟨b,o,none⟩):=hf x _ (by simp [Op.operands]) hx
  obtain ⟨c,hc,_,_,hcs⟩:=dZ hb hM
  obtain ⟨v,hx',hp⟩:=hcs _ (ep hl)
  refine ⟨v,?_,hp⟩
  simp only [execOp,h1,Instr.loadAt,Instr.sureAddr,Sem.run_bind,Sem.run_pure,Result.andThen_ok,dI hc hx']
theorem aL {T T':TypeId} {m:Nat} [LayOf P T (.agg m)] {x:Operand} {b:Nat} {cs:cf} (i:Nat) (hx:aO Γ x=some (one (.pointer (some ⟨b,0,none⟩)))) (hM:M[i]? = some (aX b T' m cs)) :
  aQ P E Γ M ⟨d, .load T x,ty,pos,af,gd⟩ (bG m cs) :=
 aQ.ofRun fun a w hb hf=>by
  have h1:a.eval x = .pointer (some ⟨b,0,none⟩):=hf x _ (by simp [Op.operands]) hx
  obtain ⟨c,hc,hs,ha,hcs⟩:=dZ hb hM
  refine ⟨.agg c,?_,c,rfl,hs,ha,hcs⟩
  have hx':bP (.agg m) c 0=some (.agg c):=by simp [bP, ← hs]
  simp only [execOp,h1,Instr.loadAt,Instr.sureAddr,Sem.run_bind,Sem.run_pure,Result.andThen_ok,dI hc hx']
/-! ### Fields -/
theorem ph {T:TypeId} {i off:Nat} {L:Lay} (h:FieldOf P T i off L) {b o:Nat} (w:World):(Instr.fieldAt T (.pointer (some ⟨b,o,none⟩)) i).run P w = .ok (.pointer (some ⟨b,o+off,none⟩)) w:=by
 obtain ⟨fs,f,h1,h2,h3,h4,h5⟩:=h.ex
 have hs:(Go.sizeOf f.type).run P w = .ok L.sz w:=cJ w
 unfold Instr.fieldAt
 rw [Sem.run_bind,bj h1]
 simp only [Result.andThen_ok,h2,Instr.sureAddr,Sem.run_bind,Sem.run_pure,fieldPlace,hs,h5,if_false,dH,h3]
theorem ab {T:TypeId} {fi off:Nat} {L:Lay} [hF:FieldOf P T fi off L] {x:Operand} {b o:Nat} (hx:aO Γ x=some (one (.pointer (some ⟨b,o,none⟩)))) :
  aQ P E Γ M ⟨d, .fieldAddr T x fi,ty,pos,af,gd⟩ (one (.pointer (some ⟨b,o+off,none⟩))) :=
 aQ.ofRun fun a w hb hf=>by
  have h1:a.eval x = .pointer (some ⟨b,o,none⟩):=hf x _ (by simp [Op.operands]) hx
  refine ⟨_,?_,rfl⟩
  simp only [execOp,h1,Sem.run_bind,ph hF,Result.andThen_ok,Sem.run_pure]
theorem lT {T:TypeId} {L:Lay} [h:LayOf P T L] {c:Array Value} {o:Nat} {x:Value} (hx:bP L c o=some x) (w:World):(part T c o).run P w = .ok x w:=by
 unfold part
 rw [Sem.run_bind,nh (L:=L)]
 cases L with
 | one => simp only [bP] at hx; simp [Lay.isAgg, hx]
 | agg n =>
  simp only [bP] at hx
  split at hx
  ·cases hx;simp only [Lay.isAgg,Result.andThen_ok,if_true,Sem.run_bind,cJ (L := .agg n),Lay.sz,Sem.run_pure]
  ·cases hx
theorem rB {T:TypeId} {fi off m:Nat} {L:Lay} [hF:FieldOf P T fi off L] {x:Operand} {cs:cf} {φ:VT} (hx:aO Γ x=some (bG m cs)) (hl:fC cs off=some (L, φ)) :
  aQ P E Γ M ⟨d, .field T x fi,ty,pos,af,gd⟩ φ :=
 aQ.ofRun fun a w hb hf=>by
  obtain ⟨c,hv',hs,ha,hcs⟩:=hf x _ (by simp [Op.operands]) hx
  obtain ⟨y,hy,hp⟩:=hcs _ (ep hl)
  obtain ⟨fs,f,h1,h2,h3,h4,h5⟩:=hF.ex
  subst h3
  refine ⟨y,?_,hp⟩
  have h6:=lT (P:=P) (T:=f.type) hy w
  simp only [execOp,hv',Instr.field,Sem.run_bind,bj h1,Result.andThen_ok,h2,asAgg,Sem.run_pure,h6]
theorem pj : ∀ {φs:List VT} {vs:List Value} {h:Hp} {i:Nat} {φ:VT},f0 φs vs h→φs[i]? = some φ → ∃ v,vs[i]? = some v∧φ.p v h
 | [], [], _, _, _, _, e => by simp at e
 | φ :: φs, v :: vs, h, 0, ψ, ⟨a, _⟩, e => by simp at e; subst e; exact ⟨v, rfl, a⟩
 | φ :: φs, v :: vs, h, i + 1, ψ, ⟨_, b⟩, e => by simp at e; obtain ⟨u, h1, h2⟩ := pj b e; exact ⟨u, by simpa using h1, h2⟩
theorem aN {x:Operand} {i:Nat} {φs:List VT} {φ:VT} (hx:aO Γ x=some (bZ φs)) (hi:φs[i]? = some φ):aQ P E Γ M ⟨d, .extract x i,ty,pos,af,gd⟩ φ :=
 aQ.ofRun fun a w hb hf=>by
  obtain ⟨vs,hv',hp⟩:=hf x _ (by simp [Op.operands]) hx
  obtain ⟨v,h1,h2⟩:=pj hp hi
  exact ⟨v,by simp [execOp,hv',Instr.extract,h1],h2⟩
/-! ### Elements -/
theorem ed {T e:TypeId} {L:Lay} [hS:SliceOf P T e] [hL:LayOf P e L] {x y:Operand} {n:Nat} {φ:Nat→VT} {k:IntKind} {iv:Int} (hx:aO Γ x=some (slT L n φ)) (hy:aO Γ y=some (one (.int k iv)))
  (h0:0≤iv) (h1:iv<n):aQ P E Γ M ⟨d, .indexAddr T x y,ty,pos,af,gd⟩ (cA L (φ iv.toNat)) :=
 aQ.ofRun fun a w hb hf=>by
  obtain ⟨ad,cap,hv',_,_,he⟩:=hf x _ (by simp [Op.operands]) hx
  have hy':a.eval y = .int k iv:=hf y _ (by simp [Op.operands]) hy
  obtain ⟨b,o,c,T',f,v,h2,h3,h4,h5⟩:=he iv.toNat S
  refine ⟨.pointer (some ⟨b,o+iv.toNat*L.sz,none⟩),?_,b,_,c,T',f,v,rfl,h3,h4,h5⟩
  have hi:0≤iv∧iv<(n:Int):=⟨h0,h1⟩
  simp [execOp,hv',hy',Instr.indexAt,asIntOf,bj hS.und,h2,hi,cJ (L:=L),dH]
theorem tY {T e:TypeId} {L:Lay} [hS:SliceOf P T e] [hL:LayOf P e L] {x y:Operand} {b n cap:Nat} {k:IntKind} {iv:Int} (hx:aO Γ x=some (one (slV (some b) n cap))) (hy:aO Γ y=some (one (.int k iv)))
  (h0:0≤iv) (h1:iv<n):aQ P E Γ M ⟨d, .indexAddr T x y,ty,pos,af,gd⟩ (eP b iv.toNat L.sz) :=
 aQ.ofRun fun a w hb hf=>by
  have hx':a.eval x = .slice (some ⟨b,0,none⟩) n cap:=hf x _ (by simp [Op.operands]) hx
  have hy':a.eval y = .int k iv:=hf y _ (by simp [Op.operands]) hy
  refine ⟨.pointer (some ⟨b,iv.toNat*L.sz,none⟩),?_,rfl⟩
  have hi:0≤iv∧iv<(n:Int):=⟨h0,h1⟩
  simp [execOp,hx',hy',Instr.indexAt,asIntOf,bj hS.und,hi,cJ (L:=L),dH]
theorem ax {T e:TypeId} {L:Lay} [hS:SliceOf P T e] [hL:LayOf P e L] {x y:Operand} {n j:Nat} {φ:Nat→VT} {k:IntKind} (hx:aO Γ x=some (slT L n φ)) (hy:aO Γ y=some (one (.int k (j:Int))))
  (h1:j<n):aQ P E Γ M ⟨d, .indexAddr T x y,ty,pos,af,gd⟩ (cA L (φ j)):=by
 have:=ed (P:=P) (e:=e) (E:=E) (M:=M) (d:=d) (ty:=ty) (pos:=pos) (af:=af) (gd:=gd) (L:=L) (T:=T) hx hy S S
 rwa [Int.toNat_natCast] at this
theorem an {T e:TypeId} {L:Lay} [hS:SliceOf P T e] [hL:LayOf P e L] {x y:Operand} {b n cap j:Nat} {k:IntKind} (hx:aO Γ x=some (one (slV (some b) n cap))) (hy:aO Γ y=some (one (.int k (j:Int))))
  (h1:j<n):aQ P E Γ M ⟨d, .indexAddr T x y,ty,pos,af,gd⟩ (eP b j L.sz):=by
 have:=tY (P:=P) (e:=e) (E:=E) (M:=M) (d:=d) (ty:=ty) (pos:=pos) (af:=af) (gd:=gd) (L:=L) (T:=T) hx hy S S
 rwa [Int.toNat_natCast] at this
theorem be {T e:TypeId} [hS:SliceOf P T e] {x:Operand} {L:Lay} {n:Nat} {φ:Nat→VT} (hx:aO Γ x=some (slT L n φ)) :
  aQ P E Γ M ⟨d, .call ⟨.builtin .len, #[x], #[T]⟩,ty,pos,af,gd⟩ (one (.int .i64 n)) :=
 aQ.ofRun fun a w hb hf=>by
  obtain ⟨ad,cap,hv',_⟩:=hf x _ (by simp [Op.operands,Call.operands]) hx
  refine ⟨_,?_,rfl⟩
  simp [execOp,resolve,invoke,builtin,Builtin.len_,hv',bj hS.und,goInt]
theorem jx {T e:TypeId} [hS:SliceOf P T e] {x:Operand} {sv:Option Nat} {n cap:Nat} (hx:aO Γ x=some (one (slV sv n cap))) :
  aQ P E Γ M ⟨d, .call ⟨.builtin .len, #[x], #[T]⟩,ty,pos,af,gd⟩ (one (.int .i64 n)) :=
 aQ.ofRun fun a w hb hf=>by
  have hx':a.eval x=slV sv n cap:=hf x _ (by simp [Op.operands,Call.operands]) hx
  refine ⟨_,?_,rfl⟩
  simp [execOp,resolve,invoke,builtin,Builtin.len_,hx',slV,bj hS.und,goInt]
theorem w4 {T e:TypeId} [hS:SliceOf P T e] {x:Operand} {a0:Option Addr} {n cap:Nat} (hx:aO Γ x=some (one (.slice a0 n cap))) :
  aQ P E Γ M ⟨d, .call ⟨.builtin .len, #[x], #[T]⟩,ty,pos,af,gd⟩ (one (.int .i64 n)) :=
 aQ.ofRun fun a w hb hf=>by
  have hx':a.eval x = .slice a0 n cap:=hf x _ (by simp [Op.operands,Call.operands]) hx
  refine ⟨_,?_,rfl⟩
  simp [execOp,resolve,invoke,builtin,Builtin.len_,hx',slV,bj hS.und,goInt]
/-! ### Numbers -/
theorem cq {T T':TypeId} {x y:Operand} {k:IntKind} {a b r:Int} (hx:aO Γ x=some (one (.int k a))) (hy:aO Γ y=some (one (.int k b))) (hr:k.wrap (a+b)=r) :
  aQ P E Γ M ⟨d, .binOp .add T x y T',ty,pos,af,gd⟩ (one (.int k r)) :=
 aQ.ofRun fun ac w hb hf=>by
  have hx':ac.eval x = .int k a:=hf x _ (by simp [Op.operands]) hx
  have hy':ac.eval y = .int k b:=hf y _ (by simp [Op.operands]) hy
  exact ⟨_,by simp [execOp,hx',hy',eqGuard,binOp,Op.intArith,hr],rfl⟩
theorem ey {T T':TypeId} {x y:Operand} {k:IntKind} {a b r:Int} (hx:aO Γ x=some (one (.int k a))) (hy:aO Γ y=some (one (.int k b))) (hr:k.wrap (a - b)=r) :
  aQ P E Γ M ⟨d, .binOp .sub T x y T',ty,pos,af,gd⟩ (one (.int k r)) :=
 aQ.ofRun fun ac w hb hf=>by
  have hx':ac.eval x = .int k a:=hf x _ (by simp [Op.operands]) hx
  have hy':ac.eval y = .int k b:=hf y _ (by simp [Op.operands]) hy
  exact ⟨_,by simp [execOp,hx',hy',eqGuard,binOp,Op.intArith,hr],rfl⟩
theorem lk {T T':TypeId} {x y:Operand} {k:IntKind} {a b r:Int} (hx:aO Γ x=some (one (.int k a))) (hy:aO Γ y=some (one (.int k b))) (hr:k.wrap (a*b)=r) :
  aQ P E Γ M ⟨d, .binOp .mul T x y T',ty,pos,af,gd⟩ (one (.int k r)) :=
 aQ.ofRun fun ac w hb hf=>by
  have hx':ac.eval x = .int k a:=hf x _ (by simp [Op.operands]) hx
  have hy':ac.eval y = .int k b:=hf y _ (by simp [Op.operands]) hy
  exact ⟨_,by simp [execOp,hx',hy',eqGuard,binOp,Op.intArith,hr],rfl⟩
theorem xJ {T T':TypeId} {x y:Operand} {k:IntKind} {a b r:Int} (hx:aO Γ x=some (one (.int k a))) (hy:aO Γ y=some (one (.int k b))) (h0:b≠0) (hr:k.wrap (a.tdiv b)=r) :
  aQ P E Γ M ⟨d, .binOp .quo T x y T',ty,pos,af,gd⟩ (one (.int k r)) :=
 aQ.ofRun fun ac w hb hf=>by
  have hx':ac.eval x = .int k a:=hf x _ (by simp [Op.operands]) hx
  have hy':ac.eval y = .int k b:=hf y _ (by simp [Op.operands]) hy
  exact ⟨_,by simp [execOp,hx',hy',eqGuard,binOp,Op.intDiv,h0,hr],rfl⟩
theorem rC {T T':TypeId} {x y:Operand} {k:IntKind} {a b r:Int} (hx:aO Γ x=some (one (.int k a))) (hy:aO Γ y=some (one (.int k b))) (h0:b≠0) (hr:a.tmod b=r) :
  aQ P E Γ M ⟨d, .binOp .rem T x y T',ty,pos,af,gd⟩ (one (.int k r)) :=
 aQ.ofRun fun ac w hb hf=>by
  have hx':ac.eval x = .int k a:=hf x _ (by simp [Op.operands]) hx
  have hy':ac.eval y = .int k b:=hf y _ (by simp [Op.operands]) hy
  exact ⟨_,by simp [execOp,hx',hy',eqGuard,binOp,Op.intDiv,h0,hr],rfl⟩
theorem xK {T T':TypeId} {x y:Operand} {k:IntKind} {a b r:Int} (hx:aO Γ x=some (one (.int k a))) (hy:aO Γ y=some (one (.int k b))) (hr:k.wrap ((BitVec.ofInt k.bits a &&& BitVec.ofInt k.bits b).toNat:Int)=r) :
  aQ P E Γ M ⟨d, .binOp .and T x y T',ty,pos,af,gd⟩ (one (.int k r)) :=
 aQ.ofRun fun ac w hb hf=>by
  have hx':ac.eval x = .int k a:=hf x _ (by simp [Op.operands]) hx
  have hy':ac.eval y = .int k b:=hf y _ (by simp [Op.operands]) hy
  exact ⟨.int k r,by rw [← hr]; simp [execOp,hx',hy',eqGuard,binOp,Op.intBits],rfl⟩
theorem xL {T T':TypeId} {x y:Operand} {k:IntKind} {a b r:Int} (hx:aO Γ x=some (one (.int k a))) (hy:aO Γ y=some (one (.int k b))) (hr:k.wrap ((BitVec.ofInt k.bits a ||| BitVec.ofInt k.bits b).toNat:Int)=r) :
  aQ P E Γ M ⟨d, .binOp .or T x y T',ty,pos,af,gd⟩ (one (.int k r)) :=
 aQ.ofRun fun ac w hb hf=>by
  have hx':ac.eval x = .int k a:=hf x _ (by simp [Op.operands]) hx
  have hy':ac.eval y = .int k b:=hf y _ (by simp [Op.operands]) hy
  exact ⟨.int k r,by rw [← hr]; simp [execOp,hx',hy',eqGuard,binOp,Op.intBits],rfl⟩
theorem xM {T T':TypeId} {x y:Operand} {k k':IntKind} {a b r:Int} (hx:aO Γ x=some (one (.int k a))) (hy:aO Γ y=some (one (.int k' b))) (h0:0≤b) (hr:k.wrap (a*2^(min b.toNat k.bits))=r) :
  aQ P E Γ M ⟨d, .binOp .shl T x y T',ty,pos,af,gd⟩ (one (.int k r)) :=
 aQ.ofRun fun ac w hb hf=>by
  have hx':ac.eval x = .int k a:=hf x _ (by simp [Op.operands]) hx
  have hy':ac.eval y = .int k' b:=hf y _ (by simp [Op.operands]) hy
  have h1 : ¬ b<0:=by omega
  exact ⟨_,by simp [execOp,hx',hy',eqGuard,binOp,Op.shift,h1,hr],rfl⟩
theorem tZ {T T':TypeId} {x y:Operand} {k k':IntKind} {a b r:Int} (hx:aO Γ x=some (one (.int k a))) (hy:aO Γ y=some (one (.int k' b))) (h0:0≤b) (hr:a.fdiv (2^(min b.toNat k.bits))=r) :
  aQ P E Γ M ⟨d, .binOp .shr T x y T',ty,pos,af,gd⟩ (one (.int k r)) :=
 aQ.ofRun fun ac w hb hf=>by
  have hx':ac.eval x = .int k a:=hf x _ (by simp [Op.operands]) hx
  have hy':ac.eval y = .int k' b:=hf y _ (by simp [Op.operands]) hy
  have h1 : ¬ b<0:=by omega
  exact ⟨_,by simp [execOp,hx',hy',eqGuard,binOp,Op.shift,h1,hr],rfl⟩
theorem cj {T T':TypeId} {x y:Operand} {k:IntKind} {a b:Int} (hx:aO Γ x=some (one (.int k a))) (hy:aO Γ y=some (one (.int k b))) :
  aQ P E Γ M ⟨d, .binOp .eql T x y T',ty,pos,af,gd⟩ (one (.bool (decide (a=b)))) :=
 aQ.ofRun fun ac w hb hf=>by
  have hx':ac.eval x = .int k a:=hf x _ (by simp [Op.operands]) hx
  have hy':ac.eval y = .int k b:=hf y _ (by simp [Op.operands]) hy
  refine ⟨_,?_,rfl⟩
  have:(a == b)=decide (a=b):=by by_cases h:a=b <;> simp [h]
  simp [execOp,hx',hy',eqGuard,binOp,Op.intCmp,this]
theorem dy {T T':TypeId} {x y:Operand} {k:IntKind} {a b:Int} (hx:aO Γ x=some (one (.int k a))) (hy:aO Γ y=some (one (.int k b))) :
  aQ P E Γ M ⟨d, .binOp .neq T x y T',ty,pos,af,gd⟩ (one (.bool (decide (a≠b)))) :=
 aQ.ofRun fun ac w hb hf=>by
  have hx':ac.eval x = .int k a:=hf x _ (by simp [Op.operands]) hx
  have hy':ac.eval y = .int k b:=hf y _ (by simp [Op.operands]) hy
  refine ⟨_,?_,rfl⟩
  have:(a != b)=decide (a≠b):=by by_cases h:a=b <;> simp [h]
  simp [execOp,hx',hy',eqGuard,binOp,Op.intCmp,this]
theorem aS {T T':TypeId} {x y:Operand} {k:IntKind} {a b:Int} (hx:aO Γ x=some (one (.int k a))) (hy:aO Γ y=some (one (.int k b))) :
  aQ P E Γ M ⟨d, .binOp .lss T x y T',ty,pos,af,gd⟩ (one (.bool (decide (a<b)))) :=
 aQ.ofRun fun ac w hb hf=>by
  have hx':ac.eval x = .int k a:=hf x _ (by simp [Op.operands]) hx
  have hy':ac.eval y = .int k b:=hf y _ (by simp [Op.operands]) hy
  exact ⟨_,by simp [execOp,hx',hy',eqGuard,binOp,Op.intCmp],rfl⟩
theorem eR {T T':TypeId} {x y:Operand} {k:IntKind} {a b:Int} (hx:aO Γ x=some (one (.int k a))) (hy:aO Γ y=some (one (.int k b))) :
  aQ P E Γ M ⟨d, .binOp .leq T x y T',ty,pos,af,gd⟩ (one (.bool (decide (a≤b)))) :=
 aQ.ofRun fun ac w hb hf=>by
  have hx':ac.eval x = .int k a:=hf x _ (by simp [Op.operands]) hx
  have hy':ac.eval y = .int k b:=hf y _ (by simp [Op.operands]) hy
  exact ⟨_,by simp [execOp,hx',hy',eqGuard,binOp,Op.intCmp],rfl⟩
theorem dS {T T':TypeId} {x y:Operand} {k:IntKind} {a b:Int} (hx:aO Γ x=some (one (.int k a))) (hy:aO Γ y=some (one (.int k b))) :
  aQ P E Γ M ⟨d, .binOp .gtr T x y T',ty,pos,af,gd⟩ (one (.bool (decide (b<a)))) :=
 aQ.ofRun fun ac w hb hf=>by
  have hx':ac.eval x = .int k a:=hf x _ (by simp [Op.operands]) hx
  have hy':ac.eval y = .int k b:=hf y _ (by simp [Op.operands]) hy
  exact ⟨_,by simp [execOp,hx',hy',eqGuard,binOp,Op.intCmp],rfl⟩
theorem fd {T T':TypeId} {x y:Operand} {k:IntKind} {a b:Int} (hx:aO Γ x=some (one (.int k a))) (hy:aO Γ y=some (one (.int k b))) :
  aQ P E Γ M ⟨d, .binOp .geq T x y T',ty,pos,af,gd⟩ (one (.bool (decide (b≤a)))) :=
 aQ.ofRun fun ac w hb hf=>by
  have hx':ac.eval x = .int k a:=hf x _ (by simp [Op.operands]) hx
  have hy':ac.eval y = .int k b:=hf y _ (by simp [Op.operands]) hy
  exact ⟨_,by simp [execOp,hx',hy',eqGuard,binOp,Op.intCmp],rfl⟩
class BoolOf (P:Program) (T:TypeId):Prop where
 und:P.underlying T=some .bool
theorem qH {T:TypeId} [hB:BoolOf P T] (n:Nat) (a b:Bool) (w:World):(Op.equalIn (n+1) T (.bool a) (.bool b)).run P w = .ok (a == b) w:=by
 unfold Op.equalIn
 rw [Sem.run_bind,bj hB.und]; rfl
theorem rD {T:TypeId} [hB:BoolOf P T] (a b:Bool) (w:World):(Op.equal T (.bool a) (.bool b)).run P w = .ok (a == b) w:=qH 9999 a b w
theorem pk {T T':TypeId} [hB:BoolOf P T] {x y:Operand} {a b:Bool} (hx:aO Γ x=some (one (.bool a))) (hy:aO Γ y=some (one (.bool b))) :
  aQ P E Γ M ⟨d, .binOp .eql T x y T',ty,pos,af,gd⟩ (one (.bool (a == b))) :=
 aQ.ofRun fun ac w hb hf=>by
  have hx':ac.eval x = .bool a:=hf x _ (by simp [Op.operands]) hx
  have hy':ac.eval y = .bool b:=hf y _ (by simp [Op.operands]) hy
  refine ⟨_,?_,rfl⟩
  simp only [execOp,hx',hy',eqGuard,binOp,Sem.run_bind,rD]; rfl
theorem f7 {T T':TypeId} [hB:BoolOf P T] {x y:Operand} {a b:Bool} (hx:aO Γ x=some (one (.bool a))) (hy:aO Γ y=some (one (.bool b))) :
  aQ P E Γ M ⟨d, .binOp .neq T x y T',ty,pos,af,gd⟩ (one (.bool (!(a == b)))) :=
 aQ.ofRun fun ac w hb hf=>by
  have hx':ac.eval x = .bool a:=hf x _ (by simp [Op.operands]) hx
  have hy':ac.eval y = .bool b:=hf y _ (by simp [Op.operands]) hy
  refine ⟨_,?_,rfl⟩
  simp only [execOp,hx',hy',eqGuard,binOp,Sem.run_bind,rD]; rfl
theorem bx {T:TypeId} {x:Operand} {a:Bool} (hx:aO Γ x=some (one (.bool a))):aQ P E Γ M ⟨d, .unOp .not T x,ty,pos,af,gd⟩ (one (.bool (!a))) :=
 aQ.ofRun fun ac w hb hf=>by
  have hx':ac.eval x = .bool a:=hf x _ (by simp [Op.operands]) hx
  exact ⟨_,by simp [execOp,hx',Op.unary],rfl⟩
theorem wK {T:TypeId} {x:Operand} {k:IntKind} {a r:Int} (hx:aO Γ x=some (one (.int k a))) (hr:k.wrap (0 - a)=r):aQ P E Γ M ⟨d, .unOp .neg T x,ty,pos,af,gd⟩ (one (.int k r)) :=
 aQ.ofRun fun ac w hb hf=>by
  have hx':ac.eval x = .int k a:=hf x _ (by simp [Op.operands]) hx
  exact ⟨.int k r,by rw [← hr]; simp [execOp,hx',Op.unary,Op.intArith],rfl⟩
theorem iI {T T':TypeId} {k k':IntKind} [h1:IntOf P T k] [h2:IntOf P T' k'] {x:Operand} {k0:IntKind} {a r:Int} (hx:aO Γ x=some (one (.int k0 a))) (hr:k'.wrap a=r) :
  aQ P E Γ M ⟨d, .convert T T' x,ty,pos,af,gd⟩ (one (.int k' r)) :=
 aQ.ofRun fun ac w hb hf=>by
  have hx':ac.eval x = .int k0 a:=hf x _ (by simp [Op.operands]) hx
  exact ⟨.int k' r,by rw [← hr]; simp [execOp,hx',convert,bj h1.und,bj h2.und,Conv.intToInt],rfl⟩
theorem pn {x y:Operand} {ats:Array TypeId} {k:IntKind} {a b:Int} (hx:aO Γ x=some (one (.int k a))) (hy:aO Γ y=some (one (.int k b))) :
  aQ P E Γ M ⟨d, .call ⟨.builtin .max, #[x,y],ats⟩,ty,pos,af,gd⟩ (one (.int k (max a b))) :=
 aQ.ofRun fun ac w hb hf=>by
  have hx':ac.eval x = .int k a:=hf x _ (by simp [Op.operands,Call.operands]) hx
  have hy':ac.eval y = .int k b:=hf y _ (by simp [Op.operands,Call.operands]) hy
  refine ⟨_,?_,rfl⟩
  have:(if b>a then b else a)=max a b:=by omega
  simp [execOp,resolve,invoke,builtin,Builtin.max_,Builtin.max2,hx',hy',this]
theorem wL {x y:Operand} {ats:Array TypeId} {k:IntKind} {a b:Int} (hx:aO Γ x=some (one (.int k a))) (hy:aO Γ y=some (one (.int k b))) :
  aQ P E Γ M ⟨d, .call ⟨.builtin .min, #[x,y],ats⟩,ty,pos,af,gd⟩ (one (.int k (min a b))) :=
 aQ.ofRun fun ac w hb hf=>by
  have hx':ac.eval x = .int k a:=hf x _ (by simp [Op.operands,Call.operands]) hx
  have hy':ac.eval y = .int k b:=hf y _ (by simp [Op.operands,Call.operands]) hy
  refine ⟨_,?_,rfl⟩
  have:(if b<a then b else a)=min a b:=by omega
  simp [execOp,resolve,invoke,builtin,Builtin.min_,Builtin.min2,hx',hy',this]
end
end Tor
end
section
set_option linter.unusedSectionVars false
namespace Tor
open Go Go.RowKit
section
variable {P:Program} {E:Env} {D:List Deferred} {Γ:Ctx} {M:Mem} {Q:Exit→Act→World→Prop}
/-! ### Control -/
theorem aa {y:Code} (h:J P E D Γ M y Q):PJ E D Γ M .normal (Exit.then (JW P E y Q) Q):=h
theorem ah {x y:Code} (h:J P E D Γ M x (Exit.then (JW P E y Q) Q)):J P E D Γ M (.seq x y) Q:=fun a w hS=>JW.seq (h a w hS)
theorem au (h:PJ E D Γ M .normal Q):J P E D Γ M .skip Q:=fun a w hS _=>wpIn_skip (h a w hS)
theorem rE {l:Nat} (h:PJ E D Γ M .normal Q):J P E D Γ M (.label l) Q:=fun a w hS _=>wpIn_label (h a w hS)
theorem aU {id:Nat} (h:PJ E D Γ M (.exit id) Q):J P E D Γ M (.exit id) Q:=fun a w hS _=>wpIn_exit (h a w hS)
theorem aG (h:PJ E D Γ M .ret Q):J P E D Γ M .ret Q:=fun a w hS _=>wpIn_ret (h a w hS)
theorem rF {c:Code} (h:J P E D Γ M c (Exit.noGoto Q)):J P E D Γ M (.scope c) Q:=fun a w hS hd=>by
 have hR:E.R=none:=hd.resolve_right (by simp [iy])
 rw [hR]; exact wpIn_wide.2 (wp_scope_straight ((h a w hS).wp hR))
theorem ar {id:Nat} {c:Code} (h:J P E D Γ M c (Exit.inBlock id Q)):J P E D Γ M (.block id c) Q:=fun a w hS hd=>wpIn_block (h a w hS hd)
theorem a5 {c:Operand} {x y:Code} {b:Bool} (hc:aO Γ c=some (one (.bool b))) (ht:b=true→J P E D Γ M x Q) (hf:b=false→J P E D Γ M y Q):J P E D Γ M (.cond c x y) Q :=
 fun a w hS hd=>wpIn_cond_split (cS hS hc) (fun h=>ht h a w hS (hd.imp id fun h=>by simp only [iy,Bool.and_eq_true] at h;exact h.1)) (fun h=>hf h a w hS (hd.imp id fun h=>by simp only [iy,Bool.and_eq_true] at h;exact h.2))
theorem av {id:Nat} {n:Act→World→Prop} (h:PJ E D Γ M (.exit id) Q):PJ E D Γ M (.exit id) (Exit.then n Q):=h
theorem aC {id:Nat} (h:PJ E D Γ M .normal Q):PJ E D Γ M (.exit id) (Exit.inBlock id Q):=by
 intro a w hS;show if id=id then _ else _;rw [if_pos Z]; exact h a w hS
theorem dg {id id':Nat} (hne':Nat.beq id' id=false) (h:PJ E D Γ M (.exit id') Q):PJ E D Γ M (.exit id') (Exit.inBlock id Q):=by
 intro a w hS;show if id'=id then _ else _;rw [if_neg (Nat.ne_of_beq_eq_false hne')]; exact h a w hS
theorem aD {id:Nat} (h:PJ E D Γ M .normal Q):PJ E D Γ M .normal (Exit.inBlock id Q):=h
theorem a6 {id:Nat} (h:PJ E D Γ M .ret Q):PJ E D Γ M .ret (Exit.inBlock id Q):=h
theorem jM (h:PJ E D Γ M .ret Q):PJ E D Γ M .ret (Exit.noGoto Q):=h
/-! ### Weakening of states -/
def eS (Γ Γ':Ctx):Prop := ∀ t φ',bJ Γ' t=some φ' → ∃ φ,bJ Γ t=some φ∧VT.le φ φ'
theorem eS.nil:eS Γ []:=fun t φ' h=>by cases h
theorem eS.cons {Γ':Ctx} {t:Nat} {φ φ':VT} (h:bJ Γ t=some φ) (hle:VT.le φ φ') (hr:eS Γ Γ'):eS Γ ((t, φ') :: Γ'):=by
 intro s ψ hs
 rw [bq] at hs
 split at hs
 ·rename_i e;subst e;cases hs;exact ⟨φ,h,hle⟩
 ·exact hr s ψ hs
theorem eS.refl (Γ:Ctx):eS Γ Γ:=fun t φ h=>⟨φ,h,W⟩
theorem _root_.Ag {P:Prop} (h:P:=by repeat (first | exact eS.nil | refine eS.cons rfl (VT.le_refl _) ?_)):P:=h
theorem _root_.Ah {P:Prop} (h:P:=by repeat (first | exact eS.refl _ | exact eS.nil | refine eS.cons Z W ?_ | (refine eS.cons Z (aq ?_) ?_;(congr 1;first | omega | (simp;omega) | simp)))):P:=h
theorem _root_.Ai {P:Prop} (h:P:=by repeat (first | exact eS.nil | refine eS.cons Z W ?_ | (refine eS.cons Z (aq ?_) ?_;(congr 1;first | omega | (simp;omega) | simp)))):P:=h
theorem _root_.Aj {P:Prop} (h:P:=by repeat (first | exact eS.nil | refine eS.cons Z W ?_)):P:=h
inductive SubM:Mem→Mem→Prop
 | nil : SubM [] []
 | drop {o M M'} : SubM M M' → SubM (o :: M) M'
 | keep {o o' M M'} : Own.le o o' → SubM M M' → SubM (o :: M) (o' :: M')
theorem Own.le_refl (o:Own):Own.le o o:=⟨rfl,fun _ _ h=>h⟩
theorem _root_.Ak {a:Own}:Own.le a a:=Own.le_refl _
theorem SubM.refl : ∀ M:Mem,SubM M M
 | [] => .nil
 | o :: M => .keep (Own.le_refl o) (SubM.refl M)
theorem SubM.nilR : ∀ M:Mem,SubM M []
 | [] => .nil
 | _ :: M => .drop (SubM.nilR M)
theorem SubM.sub {M M':Mem} (h:SubM M M'):(bf M').Sublist (bf M):=by
 induction h with
 | nil => exact List.Sublist.refl _
 | drop _ ih => exact ih.trans (List.sublist_append_right _ _)
 | keep hle _ ih => simp only [blks_cons, ← hle.1]; exact List.Sublist.append_left ih _
theorem SubM.mem {M M':Mem} (h:SubM M M') : ∀ o'∈M', ∃ o∈M,Own.le o o':=by
 induction h with
 | nil => intro o' h; cases h
 | drop _ ih => intro o' h; obtain ⟨o, h1, h2⟩ := ih o' h; exact ⟨o, List.mem_cons_of_mem _ h1, h2⟩
 | keep hle _ ih =>
  intro o' h
  rcases List.mem_cons.1 h with rfl | h
  ·exact ⟨_,List.mem_cons_self,hle⟩
  ·obtain ⟨o,h1,h2⟩:=ih o' h;exact ⟨o,List.mem_cons_of_mem _ h1,h2⟩
theorem kG {M M':Mem} {w:World} (h : ∀ b∈bf M',b∈bf M):Hp.le (hv E M w) (hv E M' w) :=
 lC fun b hb=>by
  rcases List.mem_append.1 hb with h' | h'
  ·exact List.mem_append.2 (.inl h')
  ·exact List.mem_append.2 (.inr (h b h'))
theorem Base.sub {M':Mem} {w:World} (hb:Base E M w) (h:SubM M M'):Base E M' w where
 mem:=fun o' ho'=>let ⟨o,ho,hle⟩:=h.mem o' ho';o'.loc (fun _ _=>rfl) (kG fun b hb'=>h.sub.subset hb') (hle.2 _ _ (hb.mem o ho))
 nd:=h.sub.nodup hb.nd
 dis:=fun b hb'=>hb.dis b (h.sub.subset hb')
 lo:=fun b hb'=>hb.lo b (h.sub.subset hb')
 ex:=fun b hb'=>hb.ex b (by
  rcases List.mem_append.1 hb' with h' | h'
  ·exact List.mem_append.2 (.inl h')
  ·exact List.mem_append.2 (.inr (h.sub.subset h')))
 fr:=hb.fr
theorem St.sub {Γ':Ctx} {M':Mem} {a:Act} {w:World} (hS:St E D Γ M a w) (hg:eS Γ Γ') (hm:SubM M M'):St E D Γ' M' a w where
 base:=hS.base.sub hm
 sz:=hS.sz
 df:=hS.df
 tm:=fun t φ' h=>let ⟨φ,h1,h2⟩:=hg t φ' h;h2 _ _ (φ.mono (kG fun b hb=>hm.sub.subset hb) (hS.tm t φ h1))
theorem bV {Γ':Ctx} {M':Mem} {c:Code} (hg:eS Γ Γ') (hm:SubM M M') (h:J P E D Γ' M' c Q):J P E D Γ M c Q:=fun a w hS=>h a w (hS.sub hg hm)
theorem nW {Γ':Ctx} {M':Mem} {e:Exit} (hg:eS Γ Γ') (hm:SubM M M') (h:PJ E D Γ' M' e Q):PJ E D Γ M e Q:=fun a w hS=>h a w (hS.sub hg hm)
theorem gC {c:Code} {t:Nat} {φ:VT} {F:Prop} (ht:bJ Γ t=some φ) (hF : ∀ v h, φ.p v h→F) (h:F→J P E D Γ M c Q):J P E D Γ M c Q :=
 fun a w hS=>h (hF _ _ (hS.tm t φ ht)) a w hS
theorem eU {c:Code} {i:Nat} {o:Own} {F:Prop} (hM:M[i]? = some o) (hF : ∀ g h,o.p g h→F) (h:F→J P E D Γ M c Q):J P E D Γ M c Q :=
 fun a w hS=>h (hF _ _ (hS.base.mem o (List.mem_of_getElem? hM))) a w hS
theorem w5 {c:Code} {t:Nat} {α:Type} {φ:α→VT} (ht:bJ Γ t=some (exT φ)) (h : ∀ x,J P E D ((t, φ x) :: Γ) M c Q):J P E D Γ M c Q:=by
 intro a w hS
 obtain ⟨x,hx⟩:=hS.tm t _ ht
 refine h x a w ⟨hS.base,hS.sz,hS.df,fun s ψ hs => ?_⟩
 rw [bq] at hs
 split at hs
 ·rename_i e;subst e;cases hs;exact hx
 ·exact hS.tm s ψ hs
theorem jN {c:Code} {t:Nat} {φ ψ:VT} (ht:bJ Γ t=some φ) (hle:VT.le φ ψ) (h:J P E D ((t, ψ) :: Γ) M c Q):J P E D Γ M c Q :=
 bV (fun s χ hs=>by
  rw [bq] at hs
  split at hs
  ·rename_i e;subst e;cases hs;exact ⟨φ,ht,hle⟩
  ·exact ⟨χ,hs,W⟩) (SubM.refl _) h
/-! ### Loops, joins -/
theorem cO {σ:Type} {c:Code} (G:σ→Ctx) (Ms:σ→Mem) (ok:σ→Prop) (μ:σ→Nat) (s0:σ) (h0:ok s0) (hg:eS Γ (G s0)) (hm:SubM M (Ms s0))
  (round : ∀ s,ok s→J P E D (G s) (Ms s) c (Exit.then (fun a w => ∃ s',ok s'∧μ s'<μ s∧St E D (G s') (Ms s') a w) Q)):J P E D Γ M (.loop c) Q:=by
 intro a w hS hd b k cs hro hb hr
 have key : ∀ n s,ok s→μ s=n → ∀ a w,St E D (G s) (Ms s) a w →
   ∃ e a' w',Q e a' w'∧ArrivesIn (Machine.fenced P (fen E.R)) P (lone (b.atR a (.code c :: .inLoop c :: k)) cs w) b k cs e a' w':=by
  intro n
  induction n using Nat.strongRecOn with
  | _ n ih =>
   intro s hs hn a w hS
   obtain ⟨e,a₁,w₁,hq,harr⟩:=round s hs a w hS hd b (.inLoop c :: k) cs hro hb hr
   cases e with
   | normal =>
    obtain ⟨s',hs',hlt,hS'⟩:=hq
    obtain ⟨e₂,a₂,w₂,hq₂,harr₂⟩:=ih (μ s') (hn▸hlt) s' hs' Z a₁ w₁ hS'
    exact ⟨e₂,a₂,w₂,hq₂, .of_steps (StepsIn.trans harr (.one (fenced_calm hb hr Z) stepR_inLoop)) harr₂⟩
   | exit id => exact ⟨_, a₁, w₁, hq, .pass (x := .inLoop c) Z (fun _ _ => .inl (by simp)) harr⟩
   | goto l => exact ⟨_, a₁, w₁, hq, .pass (x := .inLoop c) Z (fun _ _ => .inl (by simp)) harr⟩
   | ret => exact ⟨_, a₁, w₁, hq, .pass (x := .inLoop c) Z (fun _ _ => .inl (by simp)) harr⟩
   | panic ch => exact ⟨_, a₁, w₁, hq, .pass (x := .inLoop c) Z (fun _ _ => .inl (by simp)) harr⟩
   | outgrown => exact ⟨_, a₁, w₁, hq, .pass (x := .inLoop c) Z (fun _ _ => .inl (by simp)) harr⟩
 obtain ⟨e,a',w',hq,harr⟩:=key _ s0 h0 Z a w (hS.sub hg hm)
 exact ⟨e,a',w',hq, .of_steps (.one (fenced_calm hb hr Z) stepR_loop) harr⟩
theorem bM {σ:Type} {G:σ→Ctx} {Ms:σ→Mem} {ok:σ→Prop} {μ:σ→Nat} {s:σ} (s':σ) (h:ok s') (hμ:μ s'<μ s) (hg:eS Γ (G s')) (hm:SubM M (Ms s')) :
  PJ E D Γ M .normal (Exit.then (fun a w => ∃ s',ok s'∧μ s'<μ s∧St E D (G s') (Ms s') a w) Q) :=
 fun a w hS=>⟨s',h,hμ,hS.sub hg hm⟩
theorem cZ {σ:Type} {G:σ→Ctx} {Ms:σ→Mem} {ok:σ→Prop} (s:σ) (h:ok s) (hg:eS Γ (G s)) (hm:SubM M (Ms s)) :
  PJ E D Γ M .normal (Exit.then (fun a w => ∃ s,ok s∧St E D (G s) (Ms s) a w) Q) :=
 fun a w hS=>⟨s,h,hS.sub hg hm⟩
/-! ### Calls -/
def Ret (O:List Nat) (ψ:VT) (w:World) (e:Ending) (w':World):Prop := ∃ v,e = .returned v∧ψ.p v (hid O (cC w'))∧Ext w w'
class Fn (P:Program) (f:FuncId):Prop where
 run : ∀ args w,(callFunc f args).run P w = .ok (.enter f args) w
theorem Fn.of {f:FuncId} {fn:Func} (h:P.funcs[f]? = some fn) (h1:fn.name ≠ "runtime.NumGoroutine") (h2:fn.body.isSome=true):Fn P f where
 run:=by
  intro args w
  have h3:fn.body.isNone=false:=by cases hb:fn.body <;> simp_all
  have h4:(fn.name == "runtime.NumGoroutine")=false:=by simpa using h1
  unfold callFunc
  rw [Sem.run_bind]
  have h5:(Go.program).run P w = .ok P w:=rfl
  rw [h5]
  simp only [Result.andThen_ok,h,h4,h3,Bool.false_eq_true,if_false]; rfl
def f8 (Γ:Ctx):List Operand→Option (List VT)
 | [] => some []
 | x :: xs => match aO Γ x, f8 Γ xs with
  | some φ, some φs => some (φ :: φs)
  | _, _ => none
theorem fN {a:Act} {h:Hp} : ∀ {xs:List Operand} {φs:List VT},f8 Γ xs=some φs→(∀ x φ,x∈xs→aO Γ x=some φ→φ.p (a.eval x) h)→f0 φs (xs.map a.eval) h
  | [], φs, e, _ => by cases e; trivial
  | x :: xs, φs, e, hf => by
    rw [f8] at e
    cases h1:aO Γ x with
    | none => rw [h1] at e; cases e
    | some φ =>
      cases h2:f8 Γ xs with
      | none => rw [h1, h2] at e; cases e
      | some ψs => rw [h1, h2] at e; cases e
                   exact ⟨hf x φ (by simp) h1,fN h2 fun y ψ hy=>hf y ψ (by simp [hy])⟩
variable {d:Option Tmp} {ty:TypeId} {pos:String} {af:Array Edge} {gd:Option (Nat × Bool)}
theorem w6 {f:FuncId} [hF:Fn P f] {xs:Array Operand} {ats:Array TypeId} {φs:List VT} {ψ:VT} (hx:f8 Γ xs.toList=some φs)
  (hc : ∀ (w:World) (vs:List Value),(∀ b∈E.O ++ bf M,b<w.heap.size)→f0 φs vs (hid (E.O ++ bf M) (cC w))→Calls P f vs.toArray w (Ret (E.O ++ bf M) ψ w)) :
  aQ P E Γ M ⟨d, .call ⟨.value (.func f),xs,ats⟩,ty,pos,af,gd⟩ ψ:=by
 intro a w hb hf next Q hn
 have hp:=fN (a:=a) (h:=hv E M w) hx (fun x φ hx' he=>hf x φ (by simp [Op.operands,Call.operands]; exact .inr (by simpa using hx')) he)
 have:=hc w _ hb.ex hp
 unfold Oper.wp
 have hr:(execOp a.eval ⟨d, .call ⟨.value (.func f),xs,ats⟩,ty,pos,af,gd⟩).run P w = .ok (.enter f (xs.toList.map a.eval).toArray) w:=by
  have h0:a.eval (.func f) = .func (.func f) #[] #[]:=rfl
  have h9:(xs.map a.eval)=(xs.toList.map a.eval).toArray:=by simp [← Array.toList_map]
  simp [execOp,resolve,Deferred.ofValue,invoke,h0,hF.run,h9]
 rw [hr]
 refine Calls.mono this ?_
 rintro e w' ⟨v,rfl,hv',hext⟩
 exact hn v w' hext hv'
/-! ### Entry and return -/
def gD:Nat→List VT→Ctx
 | _, [] => []
 | i, φ :: φs => (i, φ) :: gD (i + 1) φs
theorem gq {h:Hp} {φ:VT} : ∀ {i t:Nat} {φs:List VT} {vs:List Value},bJ (gD i φs) t=some φ→f0 φs vs h → ∃ v,i≤t∧vs[t - i]? = some v∧φ.p v h
 | _, _, [], _, e, _ => by cases e
 | i, t, ψ :: φs, v :: vs, e, ⟨h1, h2⟩ => by
  rw [gD,bq] at e
  split at e
  ·rename_i he;subst he;cases e;exact ⟨v,Nat.le_refl _,by simp,h1⟩
  ·rename_i hne
   obtain ⟨u,hle,hu,hp⟩:=gq e h2
   refine ⟨u,by omega,?_,hp⟩
   rw [show t - i=(t - (i+1))+1 by omega]; simpa using hu
theorem jO {h:Hp} : ∀ {φs:List VT} {vs:List Value},f0 φs vs h→φs.length=vs.length
 | [], [], _ => rfl
 | _ :: _, _ :: _, ⟨_, h⟩ => by simp [jO h]
 | [], _ :: _, h => h.elim
 | _ :: _, [], h => h.elim
theorem js {f:FuncId} {fn:Func} {c:Code} {N:Nat} {w:World} {O:List Nat} {φs:List VT} {vs:List Value} {R:Ending→World→Prop}
  (hf:P.funcs[f]? = some fn) (hb:fn.body=some c) (hN:fn.ntmps=N) (hO : ∀ b∈O,b<w.heap.size) (hv':f0 φs vs (hid O (cC w))) (hle:φs.length≤N)
  (h:J P ⟨w,O, [],N,none⟩ [] (gD 0 φs) [] c (bodyPost P fn R)):Calls P f vs.toArray w R:=by
 have hl:=jO hv'
 refine calls_of_wp hf hb ((h _ w ⟨⟨by simp,by simp,by simp,by simp,?_,Fr.refl _ _⟩,?_,rfl,?_⟩).wp Z)
 ·intro b hb';exact hO b (by simpa using hb')
 ·simp [hN]; omega
 ·intro t φ e
  obtain ⟨v,_,h2,h3⟩:=gq e hv'
  have h4:hv ⟨w,O, [],N,none⟩ [] w=hid O (cC w):=by simp [hv]
  rw [h4]
  rw [Nat.sub_zero] at h2
  have hlt:=(List.getElem?_eq_some_iff.1 h2).1
  rw [Array.getD_eq_getD_getElem?,Array.getElem?_append_left (by simpa using hlt)]
  simpa [h2] using h3
theorem St.ret {a:Act} {w:World} {w0:World} {O:List Nat} {N:Nat} (hS:St ⟨w0,O, [],N,none⟩ D Γ M a w):Ext w0 w:=hS.base.fr.toExt
theorem aB {n:Act→World→Prop} (h:PJ E D Γ M .ret Q):PJ E D Γ M .ret (Exit.then n Q):=h
end
end Tor
end
section
set_option linter.unusedSectionVars false
namespace Tor
open Go Go.RowKit
section
variable {P:Program} {E:Env} {D:List Deferred} {Γ:Ctx} {M:Mem} {Q:Exit→Act→World→Prop}
theorem po : ∀ {M:Mem} {i:Nat} {o o':Own},M[i]? = some o→o'.bl=o.bl→bf (M.set i o')=bf M
 | [], _, _, _, h, _ => by simp at h
 | x :: M, 0, o, o', h, e => by simp at h; subst h; simp [e]
 | x :: M, i + 1, o, o', h, e => by simp at h; simp [po h e]
theorem eF {M:Mem} {i:Nat} {o:Own} (h:M[i]? = some o):o∈M:=List.mem_of_getElem? h
theorem dk {M:Mem} {o:Own} (h:o∈M) {b:Nat} (hb:b∈o.bl):b∈bf M:=List.mem_flatMap.2 ⟨o,h,hb⟩
theorem lW : ∀ {M:Mem} {i j:Nat} {o o':Own},(bf M).Nodup→M[i]? = some o→M[j]? = some o'→i≠j → ∀ b,b∈o.bl→b ∉ o'.bl
 | [], _, _, _, _, _, h, _, _, _, _ => by simp at h
 | x :: M, 0, 0, _, _, _, _, _, h, _, _ => absurd Z h
 | x :: M, 0, j + 1, o, o', hn, hi, hj, _, b, hb => by
  simp at hi hj;subst hi
  rw [blks_cons,List.nodup_append] at hn
  intro h;exact hn.2.2 b hb b (dk (eF hj) h) Z
 | x :: M, i + 1, 0, o, o', hn, hi, hj, _, b, hb => by
  simp at hi hj;subst hj
  rw [blks_cons,List.nodup_append] at hn
  intro h;exact hn.2.2 b h b (dk (eF hi) hb) Z
 | x :: M, i + 1, j + 1, o, o', hn, hi, hj, hne, b, hb => by
  simp at hi hj
  rw [blks_cons,List.nodup_append] at hn
  exact lW hn.2.1 hi hj S b hb
theorem iZ {w w':World} {b:Nat} (h:w'.heap[b]? = w.heap[b]?):cC w' b=cC w b:=by unfold cC;rw [h]
theorem St.own {a:Act} {w w':World} (hS:St E D Γ M a w) {i:Nat} {o o':Own} (hM:M[i]? = some o) (hbl:o'.bl=o.bl)
  (hb : ∀ k,k ∉ o.bl→w'.heap[k]? = w.heap[k]?) (hsz:w'.heap.size=w.heap.size) (hos:w'.os=w.os) (ht:w'.tape=w.tape) (hout:w'.output=w.output)
  (hp:o'.p (raw w') (hv E M w)):St E D Γ (M.set i o') a w':=by
 have e1:bf (M.set i o')=bf M:=po hM hbl
 have e2:hv E (M.set i o') w'=hv E M w:=by
  unfold hv;rw [e1]; funext b;unfold hid
  by_cases h:b∈E.O ++ bf M
  ·rw [if_pos h,if_pos h]
  ·rw [if_neg h,if_neg h]
   exact iZ (hb b fun hk=>h (List.mem_append.2 (.inr (dk (eF hM) hk))))
 refine ⟨⟨?_,by rw [e1]; exact hS.base.nd,by rw [e1]; exact hS.base.dis,by rw [e1]; exact hS.base.lo,by rw [e1,hsz]; exact hS.base.ex,?_⟩,hS.sz,hS.df,?_⟩
 ·intro q hq
  rw [show hid (E.O ++ bf (M.set i o')) (cC w')=hv E M w from e2]
  obtain ⟨j,hj⟩:=List.mem_iff_getElem?.1 hq
  rw [List.getElem?_set] at hj
  by_cases hij:i=j
  ·subst hij
   have hlt:=(List.getElem?_eq_some_iff.1 hM).1
   simp [hlt] at hj;subst hj;exact hp
  ·simp [hij] at hj
   refine q.loc (fun b hbq=>(gZ (hb b fun hk => ?_)).symm) (Hp.le_refl _) (hS.base.mem q (eF hj))
   exact lW hS.base.nd hM hj hij b hk hbq
 ·have hf:=hS.base.fr
  exact ⟨hos.trans hf.os,ht.trans hf.tape,hout.trans hf.output,by rw [hsz]; exact hf.size,fun k hk hn=>by
   have hko:k ∉ o.bl:=fun h=>by
    rcases hS.base.lo k (dk (eF hM) h) with h' | h'
    ·omega
    ·exact hn h'
   rw [hb k hko]; exact hf.block k hk hn⟩
 ·intro t φ h;rw [e2]; exact hS.tm t φ h
theorem db (w:World) (g:Nat) (c:Array Value) (k:Nat) (h:k≠g):(w.setRow g c).heap[k]? = w.heap[k]? := by
 simp only [World.setRow,Array.getElem?_modify]
 rw [if_neg S]
theorem dJ {w:World} {g:Nat} {c c':Array Value} {T:TypeId} {f:Nat × Nat} (h:cC w g=some (c,T,f)):cC (w.setRow g c') g=some (c',T,f) :=
 lD (setRow_heap w g c c' T f (fb h))
theorem dK (w:World) (g:Nat) (c:Array Value):(w.setRow g c).heap.size=w.heap.size:=by simp [World.setRow]
theorem St.alloc {a:Act} {w:World} (hS:St E D Γ M a w) {o:Own} {c:Array Value} {T:TypeId} (hbl:o.bl = [w.heap.size])
  (hp:o.p (raw (w.alloc (.cells c T))) (hv E M w)) {d:Nat} (hd:d<E.N) {v:Value} {ψ:VT} (hv':ψ.p v (hv E M w)) :
  St E D ((d, ψ) :: Γ) (o :: M) (a.put (some d) v) (w.alloc (.cells c T)):=by
 have hx:Ext w (w.alloc (.cells c T)):=Ext.alloc w _
 have hnew : ∀ b∈E.O ++ bf M,b<w.heap.size:=hS.base.ex
 have hle:Hp.le (hv E M w) (hv E (o :: M) (w.alloc (.cells c T))):=by
  intro b x e
  obtain ⟨h1,h2⟩:=fB e
  refine iF ?_ (hx.view _ _ h2)
  intro hb
  have hlt:=fw h2
  rw [blks_cons,hbl] at hb
  rcases List.mem_append.1 hb with h | h
  ·exact h1 (List.mem_append.2 (.inl h))
  ·rcases List.mem_append.1 h with h | h
   ·simp at h;omega
   ·exact h1 (List.mem_append.2 (.inr h))
 have hb':=hS.base.ext hx
 have hmap : ∀ b∈bf (o :: M),b=w.heap.size∨b∈bf M:=by
  intro b hb;rw [blks_cons,hbl] at hb
  rcases List.mem_append.1 hb with h | h
  ·simp at h;exact .inl h
  ·exact .inr h
 refine ⟨⟨?_,?_,?_,?_,?_,hb'.fr⟩,by simp [Act.put,hS.sz],hS.df,?_⟩
 ·intro q hq
  rcases List.mem_cons.1 hq with rfl | hq
  ·exact q.loc (fun _ _=>rfl) hle hp
  ·exact q.loc (fun b hb=>(gZ (hx.block b (hS.base.ex b (List.mem_append.2 (.inr (dk hq hb)))))).symm) hle (hS.base.mem q hq)
 ·rw [blks_cons,hbl,List.nodup_append]
  refine ⟨by simp,hS.base.nd,fun x hx y hy => ?_⟩
  simp at hx;subst hx
  have:=hnew y (List.mem_append.2 (.inr hy));omega
 ·intro b hb
  rcases hmap b hb with rfl | h
  ·intro hO;have:=hnew _ (List.mem_append.2 (.inl hO));omega
  ·exact hS.base.dis b h
 ·intro b hb
  rcases hmap b hb with rfl | h
  ·exact .inl hS.base.fr.size
  ·exact hS.base.lo b h
 ·intro b hb
  have:(w.alloc (.cells c T)).heap.size=w.heap.size+1:=by simp
  rw [this]
  rcases List.mem_append.1 hb with h | h
  ·have:=hnew b (List.mem_append.2 (.inl h));omega
  ·rcases hmap b h with rfl | h
   ·omega
   ·have:=hnew b (List.mem_append.2 (.inr h));omega
 ·intro t φ h
  rw [bq] at h
  split at h
  ·rename_i e;cases h;rw [← e,ce (by rw [hS.sz]; exact hd)]; exact ψ.mono hle hv'
  ·rename_i e;rw [cd e]; exact φ.mono hle (hS.tm t φ h)
theorem Own.freeze {w:World} {sv:Option Nat} {T:TypeId} {L:Lay} {cap n:Nat} {φ:Nat→VT} {h h':Hp} (ho:(a8 sv T L cap n φ).p (raw w) h) (hle:Hp.le h h') (hb : ∀ b,sv=some b→cC w b=h' b) :
  (slT L n φ).p (slV sv n cap) h':=by
 obtain ⟨h1,h2,h3,h4⟩:=ho
 cases sv with
 | none =>
  have hc:=h3 Z
  exact ⟨none,cap,rfl,h1,h2,fun i hi=>by omega⟩
 | some b =>
  obtain ⟨c,hc,hs,he⟩:=h4 b Z
  refine ⟨some ⟨b,0,none⟩,cap,rfl,h1,h2,fun i hi => ?_⟩
  obtain ⟨x,hx,hp⟩:=he i hi
  exact ⟨b,0,c,T,(0,0),x,rfl,by rw [← hb b Z]; exact hc,by rw [Nat.zero_add]; exact hx,(φ i).mono hle hp⟩
theorem qI : ∀ {M:Mem} {i:Nat},(bf (M.eraseIdx i)).Sublist (bf M)
 | [], _ => by simp
 | x :: M, 0 => by simp
 | x :: M, i + 1 => by simp only [List.eraseIdx_cons_succ, blks_cons]; exact List.Sublist.append_left qI _
theorem lX : ∀ (M:Mem) (i:Nat),SubM M (M.eraseIdx i)
 | [], _ => .nil
 | _ :: M, 0 => .drop (SubM.refl M)
 | _ :: M, i + 1 => .keep Ak (lX M i)
theorem iJ : ∀ {M:Mem} {i:Nat} {o:Own},(bf M).Nodup→M[i]? = some o → ∀ b∈o.bl,b ∉ bf (M.eraseIdx i)
 | [], _, _, _, h, _, _ => by simp at h
 | x :: M, 0, o, hn, h, b, hb => by
  simp at h;subst h
  rw [blks_cons,List.nodup_append] at hn
  simp only [List.eraseIdx_cons_zero]; intro h';exact hn.2.2 b hb b h' Z
 | x :: M, i + 1, o, hn, h, b, hb => by
  simp at h
  rw [blks_cons,List.nodup_append] at hn
  simp only [List.eraseIdx_cons_succ,blks_cons,List.mem_append,not_or]
  exact ⟨fun h'=>hn.2.2 b h' b (dk (eF h) hb) Z,iJ hn.2.1 h b hb⟩
theorem ni {t i:Nat} {sv:Option Nat} {T:TypeId} {L:Lay} {cap n:Nat} {φ:Nat→VT} (ht:bJ Γ t=some (one (slV sv n cap))) (hM:M[i]? = some (a8 sv T L cap n φ))
  {a:Act} {w:World} (hS:St E D Γ M a w):St E D ((t,slT L n φ) :: Γ) (M.eraseIdx i) a w:=by
 refine ⟨hS.base.sub (lX M i),hS.sz,hS.df,fun s ψ hs => ?_⟩
 have hle:Hp.le (hv E M w) (hv E (M.eraseIdx i) w):=kG fun b hb=>qI.subset hb
 rw [bq] at hs
 split at hs
 ·rename_i e;subst e;cases hs
  have hval:a.tmps.getD t undef=slV sv n cap:=hS.tm t _ ht
  rw [hval]
  refine Own.freeze (dZ hS.base hM) hle (fun b hb => ?_)
  have hbM:b∈bf M:=dk (eF hM) (by simp [a8,hb])
  have hn:b ∉ E.O ++ bf (M.eraseIdx i):=by
   rw [List.mem_append,not_or]
   exact ⟨hS.base.dis b hbM,iJ hS.base.nd hM b (by simp [a8,hb])⟩
  simp only [hv,hid,if_neg hn]
 ·exact ψ.mono hle (hS.tm s ψ hs)
theorem dz {e:Exit} {t i:Nat} {b:Option Nat} {T:TypeId} {L:Lay} {cap n:Nat} {φ:Nat→VT} (ht:bJ Γ t=some (one (slV b n cap))) (hM:M[i]? = some (a8 b T L cap n φ))
  (h:PJ E D ((t,slT L n φ) :: Γ) (M.eraseIdx i) e Q):PJ E D Γ M e Q:=fun a w hS=>h a w (ni ht hM hS)
theorem g7 {ops:Array Oper} {i:Nat} {os:List Oper} {K:List Deferred→Ctx→Mem→Prop} {t j:Nat} {b:Option Nat} {T:TypeId} {L:Lay} {cap n:Nat} {φ:Nat→VT} (ht:bJ Γ t=some (one (slV b n cap))) (hM:M[j]? = some (a8 b T L cap n φ))
  (h:Run P E ops false i D ((t,slT L n φ) :: Γ) (M.eraseIdx j) os K):Run P E ops false i D Γ M os K := .conv (fun a w hS=>ni ht hM hS) h
/-! ### Operations -/
variable {ops:Array Oper} {i:Nat} {ty:TypeId} {pos:String} {af:Array Edge} {os:List Oper} {K:List Deferred→Ctx→Mem→Prop}
theorem Run.one {o:Oper} {K':List Deferred→Ctx→Mem→Prop} (hg:o.guard=none)
  (h : ∀ a w,St E D Γ M a w → ∃ r,(execOp a.eval o).run P w=r∧(match r with
   | .ok (.value v) w' => ∃ D' Γ' M', K' D' Γ' M' ∧ St E D' Γ' M' (a.put o.dst v) w'
   | .ok .skip w' => ∃ D' Γ' M', K' D' Γ' M' ∧ St E D' Γ' M' (a.put o.dst undef) w'
   | _ => False))
  (hr : ∀ D' Γ' M',K' D' Γ' M'→Run P E ops false (i+1) D' Γ' M' os K) (hi:ops[i]? = some o):Run P E ops false i D Γ M (o :: os) K:=by
 refine .act (K':=K') (fun a w hS next Q hn => ?_) hr
 obtain ⟨r,hr',hm⟩:=h a w hS
 simp only [wpOp,hi,c7 hg,if_true]
 refine .inl ?_
 unfold Oper.wp;rw [hr']
 cases r with
 | halt x w' => exact hm.elim
 | ok n w' =>
  cases n with
  | value v => obtain ⟨D', Γ', M', hK, hS'⟩ := hm; exact hn D' Γ' M' _ _ hK hS'
  | skip => obtain ⟨D', Γ', M', hK, hS'⟩ := hm; exact hn D' Γ' M' _ _ hK hS'
  | _ => exact hm.elim
class Flat (φ:VT) (L:outParam Lay):Prop where
 ok : ∀ v h, φ.p v h→v.cells.size=L.sz∧v.cells.all (·.oneCell')=true∧bP L v.cells 0=some v
instance {k:IntKind} {n:Int} : Flat (one (.int k n)) .one:=⟨fun v h e=>by cases e;simp [Value.cells,Lay.sz,Value.oneCell',bP]⟩
instance {b:Bool} : Flat (one (.bool b)) .one:=⟨fun v h e=>by cases e;simp [Value.cells,Lay.sz,Value.oneCell',bP]⟩
instance {a:Option Addr} {n c:Nat} : Flat (one (.slice a n c)) .one:=⟨fun v h e=>by cases e;simp [Value.cells,Lay.sz,Value.oneCell',bP]⟩
instance {s:Option Nat} {n c:Nat} : Flat (one (slV s n c)) .one:=⟨fun v h e=>by cases e;simp [slV,Value.cells,Lay.sz,Value.oneCell',bP]⟩
instance {f:Go.Fn} {a b:Array Value} : Flat (one (.func f a b)) .one:=⟨fun v h e=>by cases e;simp [Value.cells,Lay.sz,Value.oneCell',bP]⟩
instance {L:Lay} {n:Nat} {φ:Nat→VT} : Flat (slT L n φ) .one:=⟨fun v h ⟨a,cap,e,_⟩=>by subst e;simp [Value.cells,Lay.sz,Value.oneCell',bP]⟩
instance {m:Nat} {cs:cf} : Flat (bG m cs) (.agg m):=⟨fun v h ⟨c,e,hs,ha,_⟩=>by subst e;subst hs;simp only [Value.cells,Lay.sz,bP]; exact ⟨trivial,ha,by simp⟩⟩
theorem jP {c:Array Value} {m:Nat} (hs:c.size=m) (ha:c.all (·.oneCell')=true):Flat (one (.agg c)) (.agg m):=⟨fun v h e=>by cases e;subst hs;simp only [Value.cells,Lay.sz,bP]; exact ⟨trivial,ha,by simp⟩⟩
theorem ZeroOf.run {T:TypeId} {z:Value} {b:Nat} [h:ZeroOf P T z b] (w:World):(zeroValue T).run P w = .ok z w:=by
 obtain ⟨i,hi,hz,_⟩:=h.info
 simp [zeroValue,Sem.run_bind,fM hi,hz]
theorem aT {T:TypeId} {z:Value} {by':Nat} {L:Lay} {d:Nat} [ZeroOf P T z by'] [hF:Flat (one z) L] (hi:ops[i]? = some ⟨some d, .alloc T,ty,pos,af,none⟩) (hd:d<E.N)
  (h : ∀ b,Run P E ops false (i+1) D ((d,one (.pointer (some ⟨b,0,none⟩))) :: Γ) (aX b T L.sz [(0,L,one z)] :: M) os K) :
  Run P E ops false i D Γ M (⟨some d, .alloc T,ty,pos,af,none⟩ :: os) K:=by
 refine Run.one (K':=fun D' Γ' M' => ∃ b,D'=D∧Γ'=(d,one (.pointer (some ⟨b,0,none⟩))) :: Γ∧M'=aX b T L.sz [(0,L,one z)] :: M) Z (fun a w hS => ?_) (fun D' Γ' M' ⟨b,h1,h2,h3⟩=>by subst h1 h2 h3;exact h b) hi
 refine ⟨.ok (.value (.pointer (some ⟨w.heap.size,0,none⟩))) (w.alloc (.cells z.cells T)),?_,D,_,_,⟨w.heap.size,rfl,rfl,rfl⟩,?_⟩
 ·have hz:=ZeroOf.run (P:=P) (T:=T) w
  simp [execOp,Instr.alloc,Sem.run_bind,hz,newVar,newRow,newObj,Sem.run]
 ·obtain ⟨h1,h2,h3⟩:=hF.ok z (fun _=>none) Z
  refine hS.alloc (o:=aX w.heap.size T L.sz [(0,L,one z)]) Z ⟨z.cells,cz w _ _ _,h1,h2,?_⟩ hd Z
  intro q hq;simp at hq;subst hq;exact ⟨z,h3,rfl⟩
theorem nj {T:TypeId} {x:Operand} {φ:VT} {L:Lay} {d:Nat} [hF:Flat φ L] (hx:aO Γ x=some φ) (hi:ops[i]? = some ⟨some d, .box T x,ty,pos,af,none⟩) (hd:d<E.N)
  (h : ∀ b,Run P E ops false (i+1) D ((d,one (.pointer (some ⟨b,0,none⟩))) :: Γ) (aX b T L.sz [(0,L, φ)] :: M) os K) :
  Run P E ops false i D Γ M (⟨some d, .box T x,ty,pos,af,none⟩ :: os) K:=by
 refine Run.one (K':=fun D' Γ' M' => ∃ b,D'=D∧Γ'=(d,one (.pointer (some ⟨b,0,none⟩))) :: Γ∧M'=aX b T L.sz [(0,L, φ)] :: M) Z (fun a w hS => ?_) (fun D' Γ' M' ⟨b,h1,h2,h3⟩=>by subst h1 h2 h3;exact h b) hi
 have hp:=cS hS hx
 refine ⟨.ok (.value (.pointer (some ⟨w.heap.size,0,none⟩))) (w.alloc (.cells (a.eval x).cells T)),?_,D,_,_,⟨w.heap.size,rfl,rfl,rfl⟩,?_⟩
 ·simp [execOp,Instr.box,Sem.run_bind,newVar,newRow,newObj,Sem.run]
 ·obtain ⟨h1,h2,h3⟩:=hF.ok _ _ hp
  refine hS.alloc (o:=aX w.heap.size T L.sz [(0,L, φ)]) Z ⟨(a.eval x).cells,cz w _ _ _,h1,h2,?_⟩ hd Z
  intro q hq;simp at hq;subst hq;exact ⟨_,h3,hp⟩
theorem aY {T:TypeId} {x:Operand} {m:Nat} {cs:cf} {d:Nat} (hx:aO Γ x=some (bG m cs)) (hi:ops[i]? = some ⟨some d, .box T x,ty,pos,af,none⟩) (hd:d<E.N)
  (h : ∀ b,Run P E ops false (i+1) D ((d,one (.pointer (some ⟨b,0,none⟩))) :: Γ) (aX b T m cs :: M) os K) :
  Run P E ops false i D Γ M (⟨some d, .box T x,ty,pos,af,none⟩ :: os) K:=by
 refine Run.one (K':=fun D' Γ' M' => ∃ b,D'=D∧Γ'=(d,one (.pointer (some ⟨b,0,none⟩))) :: Γ∧M'=aX b T m cs :: M) Z (fun a w hS => ?_) (fun D' Γ' M' ⟨b,h1,h2,h3⟩=>by subst h1 h2 h3;exact h b) hi
 obtain ⟨c,hc,hs,ha,hcs⟩:=cS hS hx
 refine ⟨.ok (.value (.pointer (some ⟨w.heap.size,0,none⟩))) (w.alloc (.cells c T)),?_,D,_,_,⟨w.heap.size,rfl,rfl,rfl⟩,?_⟩
 ·simp [execOp,Instr.box,Sem.run_bind,newVar,newRow,newObj,Sem.run,hc,Value.cells]
 ·exact hS.alloc (o:=aX w.heap.size T m cs) Z ⟨c,cz w _ _ _,hs,ha,hcs⟩ hd Z
def lY:cf→Nat→VT→cf
 | [], _, _ => []
 | (k, l, v) :: r, t, ψ => bif Nat.beq k t then (k, l, ψ) :: r else (k, l, v) :: lY r t ψ
def eV:cf→Bool
 | [] => true
 | (k, l, _) :: r => r.all (fun q => decide (k + l.sz ≤ q.1) || decide (q.1 + q.2.1.sz ≤ k)) && eV r
theorem nX {c vs:Array Value} {h:Hp} {o:Nat} {L:Lay} {φ ψ:VT} {v:Value} (hle:o+vs.size≤c.size) (hvs:vs.size=L.sz) (hv:bP L (cD c o vs) o=some v) (hp:ψ.p v h) :
  ∀ {cs:cf},eV cs=true→fC cs o=some (L, φ)→fZ cs c h→fZ (lY cs o ψ) (cD c o vs) h
 | [], _, hl, _ => by cases hl
 | (k, l, u) :: r, ha, hl, hc => by
  simp only [eV,Bool.and_eq_true,List.all_eq_true,Bool.or_eq_true,decide_eq_true_eq] at ha
  rw [fC] at hl;rw [lY]
  by_cases e:Nat.beq k o=true
  ·rw [e] at hl ⊢; simp only [cond_true,Option.some.injEq,Prod.mk.injEq] at hl ⊢
   have hk:=Nat.eq_of_beq_eq_true e;subst hk
   obtain ⟨rfl,rfl⟩:=hl
   intro q hq
   rcases List.mem_cons.1 hq with rfl | hq
   ·exact ⟨v,hv,hp⟩
   ·obtain ⟨x,hx,hpx⟩:=hc q (List.mem_cons_of_mem _ hq)
    refine ⟨x,?_,hpx⟩
    rw [dF hle]; · exact hx
    have:=ha.1 q hq;omega
  ·have e':Nat.beq k o=false:=by cases h':Nat.beq k o with | true=>exact absurd h' e | false=>rfl
   rw [e'] at hl ⊢; simp only [cond_false] at hl ⊢
   intro q hq
   rcases List.mem_cons.1 hq with rfl | hq
   ·obtain ⟨x,hx,hpx⟩:=hc (k,l,u) List.mem_cons_self
    refine ⟨x,?_,hpx⟩
    have hm:=ep hl
    have:=ha.1 _ hm
    simp only at this hx ⊢
    rw [dF hle]; · exact hx
    omega
   ·exact nX hle hvs hv hp ha.2 hl (fun q hq=>hc q (List.mem_cons_of_mem _ hq)) q hq
theorem g8 {c vs:Array Value} {o:Nat} (h1:c.all (·.oneCell')=true) (h2:vs.all (·.oneCell')=true):(cD c o vs).all (·.oneCell')=true:=by
 simp only [cD,Array.all_eq_true_iff_forall_mem,List.mem_toArray,List.mem_append] at *
 rintro x ((h | h) | h)
 ·exact h1 x (by simpa using List.mem_of_mem_take h)
 ·exact h2 x (by simpa using h)
 ·exact h1 x (by simpa using List.mem_of_mem_drop h)
theorem aF {T T':TypeId} {x y:Operand} {b o m:Nat} {cs:cf} {L:Lay} {φ ψ:VT} [hL:LayOf P T L] [hF:Flat ψ L] (j:Nat) (hx:aO Γ x=some (one (.pointer (some ⟨b,o,none⟩)))) (hy:aO Γ y=some ψ)
  (hM:M[j]? = some (aX b T' m cs)) (hl:fC cs o=some (L, φ)) (ha:eV cs=true) (hle:o+L.sz≤m) (hi:ops[i]? = some ⟨none, .store T x y,ty,pos,af,none⟩)
  (h:Run P E ops false (i+1) D Γ (M.set j (aX b T' m (lY cs o ψ))) os K):Run P E ops false i D Γ M (⟨none, .store T x y,ty,pos,af,none⟩ :: os) K:=by
 refine Run.one (K':=fun D' Γ' M'=>D'=D∧Γ'=Γ∧M'=M.set j (aX b T' m (lY cs o ψ))) Z (fun a w hS => ?_) (fun D' Γ' M' ⟨h1,h2,h3⟩=>by subst h1 h2 h3;exact h) hi
 have h1:a.eval x = .pointer (some ⟨b,o,none⟩):=cS hS hx
 have h2:=cS hS hy
 obtain ⟨f1,f2,f3⟩:=hF.ok _ _ h2
 obtain ⟨c,hc,hs,hall,hcs⟩:=dZ hS.base hM
 have hst:=dQ (P:=P) (T:=T) (L:=L) (o:=o) hc f1 S f2
 refine ⟨.ok .skip (w.setRow b (cD c o (a.eval y).cells)),?_,D, Γ,_,⟨rfl,rfl,rfl⟩,?_⟩
 ·simp only [execOp,h1,Instr.storeAt,Instr.sureAddr,Sem.run_bind,Sem.run_pure,Result.andThen_ok,hst]
 ·show St E D Γ _ a _
  refine hS.own hM Z (fun k hk=>db _ _ _ _ (by intro e;exact hk (by simp [aX,e]))) (dK _ _ _) Z Z Z ?_
  refine ⟨_,dJ hc,by rw [cT S]; exact hs,g8 hall f2,nX S f1 (dY S f1 f3) h2 ha hl hcs⟩
theorem aW {T T':TypeId} {x y:Operand} {b m:Nat} {cs cs':cf} [hL:LayOf P T (.agg m)] (j:Nat) (hx:aO Γ x=some (one (.pointer (some ⟨b,0,none⟩)))) (hy:aO Γ y=some (bG m cs'))
  (hM:M[j]? = some (aX b T' m cs)) (hi:ops[i]? = some ⟨none, .store T x y,ty,pos,af,none⟩)
  (h:Run P E ops false (i+1) D Γ (M.set j (aX b T' m cs')) os K):Run P E ops false i D Γ M (⟨none, .store T x y,ty,pos,af,none⟩ :: os) K:=by
 refine Run.one (K':=fun D' Γ' M'=>D'=D∧Γ'=Γ∧M'=M.set j (aX b T' m cs')) Z (fun a w hS => ?_) (fun D' Γ' M' ⟨h1,h2,h3⟩=>by subst h1 h2 h3;exact h) hi
 have h1:a.eval x = .pointer (some ⟨b,0,none⟩):=cS hS hx
 obtain ⟨c',hc',hs',ha',hcs'⟩:=cS hS hy
 obtain ⟨c,hc,hs,hall,hcs⟩:=dZ hS.base hM
 have hst:=dQ (P:=P) (T:=T) (L := .agg m) (v:=a.eval y) (o:=0) hc (by rw [hc']; exact hs') (by simp [Lay.sz,hs]) (by rw [hc']; exact ha')
 have hsp:cD c 0 (a.eval y).cells=c':=by
  rw [hc']; show cD c 0 c'=c'
  apply Array.ext_getElem?; intro k
  rw [dT S]
  by_cases hk:k<c'.size
  ·rw [if_pos S]; rfl
  ·rw [if_neg S,Array.getElem?_eq_none S,Array.getElem?_eq_none S]
 refine ⟨.ok .skip (w.setRow b c'),?_,D, Γ,_,⟨rfl,rfl,rfl⟩,?_⟩
 ·simp only [execOp,h1,Instr.storeAt,Instr.sureAddr,Sem.run_bind,Sem.run_pure,Result.andThen_ok,hst,hsp]
 ·show St E D Γ _ a _
  refine hS.own hM Z (fun k hk=>db _ _ _ _ (by intro e;exact hk (by simp [aX,e]))) (dK _ _ _) Z Z Z ?_
  exact ⟨c',dJ hc,hs',ha',hcs'⟩
theorem bD {T T':TypeId} {x y:Operand} {b k cap n:Nat} {φ:Nat→VT} {L:Lay} {ψ:VT} [hL:LayOf P T L] [hF:Flat ψ L] (j:Nat) (hx:aO Γ x=some (eP b k L.sz)) (hy:aO Γ y=some ψ)
  (hM:M[j]? = some (a8 (some b) T' L cap n φ)) (hk:k<n) (hi:ops[i]? = some ⟨none, .store T x y,ty,pos,af,none⟩)
  (h:Run P E ops false (i+1) D Γ (M.set j (a8 (some b) T' L cap n (upd φ k ψ))) os K):Run P E ops false i D Γ M (⟨none, .store T x y,ty,pos,af,none⟩ :: os) K:=by
 refine Run.one (K':=fun D' Γ' M'=>D'=D∧Γ'=Γ∧M'=M.set j (a8 (some b) T' L cap n (upd φ k ψ))) Z (fun a w hS => ?_) (fun D' Γ' M' ⟨h1,h2,h3⟩=>by subst h1 h2 h3;exact h) hi
 have h1:a.eval x = .pointer (some ⟨b,k*L.sz,none⟩):=cS hS hx
 have h2:=cS hS hy
 obtain ⟨f1,f2,f3⟩:=hF.ok _ _ h2
 obtain ⟨g1,g2,g3,g4⟩:=dZ hS.base hM
 obtain ⟨c,hc,hs,he⟩:=g4 b Z
 have hmul : ∀ q,q<cap→q*L.sz+L.sz≤cap*L.sz:=fun q hq=>by
  have:=Nat.mul_le_mul_right L.sz (show q+1≤cap by omega);rwa [Nat.succ_mul] at this
 have hfit:k*L.sz+L.sz≤c.size:=by rw [hs]; exact hmul k S
 have hst:=dQ (P:=P) (T:=T) (L:=L) (o:=k*L.sz) hc f1 hfit f2
 refine ⟨.ok .skip (w.setRow b (cD c (k*L.sz) (a.eval y).cells)),?_,D, Γ,_,⟨rfl,rfl,rfl⟩,?_⟩
 ·simp only [execOp,h1,Instr.storeAt,Instr.sureAddr,Sem.run_bind,Sem.run_pure,Result.andThen_ok,hst]
 ·show St E D Γ _ a _
  refine hS.own hM Z (fun k' hk'=>db _ _ _ _ (by intro e;exact hk' (by simp [a8,e]))) (dK _ _ _) Z Z Z ?_
  refine ⟨g1,g2,g3,fun b' hb' => ?_⟩
  cases hb'
  refine ⟨_,dJ hc,by rw [cT S]; exact hs,fun q hq => ?_⟩
  unfold upd
  by_cases e:q=k
  ·subst e;rw [if_pos Z]; exact ⟨_,dY hfit f1 f3,h2⟩
  ·rw [if_neg e]
   obtain ⟨v,hv,hp⟩:=he q hq
   refine ⟨v,?_,hp⟩
   rw [dF S]; · exact hv
   rw [f1]
   rcases Nat.lt_or_ge q k with h' | h'
   ·left
    have:=Nat.mul_le_mul_right L.sz (show q+1≤k by omega);rwa [Nat.succ_mul] at this
   ·right
    have:=Nat.mul_le_mul_right L.sz (show k+1≤q by omega);rwa [Nat.succ_mul] at this
end
end Tor
end
section
set_option linter.unusedSectionVars false
namespace Tor
open Go Go.RowKit
section
variable {P:Program} {E:Env} {D:List Deferred} {Γ:Ctx} {M:Mem} {Q:Exit→Act→World→Prop}
variable {ops:Array Oper} {i:Nat} {ty:TypeId} {pos:String} {af:Array Edge} {os:List Oper} {K:List Deferred→Ctx→Mem→Prop} {d:Option Tmp} {gd:Option (Nat × Bool)}
def dR (z:Array Value) (n:Nat):Array Value:=(Array.range n).map (z[· % z.size]!)
theorem eI (z:Array Value) (n:Nat):(dR z n).size=n:=by simp [dR]
theorem nk {z:Array Value} {n k:Nat} (hk:k<n) (hz:0<z.size):(dR z n)[k]? = z[k % z.size]? := by
 have:k % z.size<z.size:=Nat.mod_lt _ hz
 simp [dR,hk,this]
theorem jy {L:Lay} {v:Value} {n q:Nat} (hs:v.cells.size=L.sz) (hv:bP L v.cells 0=some v) (hq:q<n) (hz:0<L.sz):bP L (dR v.cells (n*L.sz)) (q*L.sz)=some v:=by
 have hfit:q*L.sz+L.sz≤n*L.sz:=by
  have:=Nat.mul_le_mul_right L.sz (show q+1≤n by omega);rwa [Nat.succ_mul] at this
 cases L with
 | one =>
  simp only [bP,Lay.sz,Nat.mul_one] at *
  rw [nk hq S,hs,Nat.mod_one]; exact hv
 | agg m =>
  have hs:v.cells.size=m:=hs
  have hz:0<m:=hz
  have hfit:q*m+m≤n*m:=hfit
  have hv:(if 0+m≤v.cells.size then some (Value.agg (v.cells.extract 0 (0+m))) else none)=some v:=hv
  show (if q*m+m≤(dR v.cells (n*m)).size then some (Value.agg ((dR v.cells (n*m)).extract (q*m) (q*m+m))) else none)=some v
  rw [if_pos S] at hv
  rw [eI,if_pos S, ← hv]
  congr 2
  apply Array.ext_getElem?; intro k
  have h0:=cP v.cells 0 m k
  rw [Nat.zero_add] at h0
  rw [cP,Nat.zero_add,h0]
  by_cases hk:k<m
  ·rw [if_pos hk,if_pos hk,Nat.zero_add,nk S S,hs]
   have:(q*m+k) % m=k:=by rw [Nat.mul_comm,Nat.mul_add_mod]; exact Nat.mod_eq_of_lt hk
   rw [this]
  ·rw [if_neg hk,if_neg hk]
theorem vB {k:IntKind} {n:Int} (h1:k.min≤n) (h2:n≤k.max):k.wrap n=n:=by
 cases k <;> simp [IntKind.wrap,IntKind.bits,IntKind.signed,IntKind.min,IntKind.max] at * <;> omega
theorem aR {n:Int} (h1 : -9223372036854775808≤n) (h2:n≤9223372036854775807):IntKind.i64.wrap n=n:=vB (by simp [IntKind.min,IntKind.signed,IntKind.bits]; omega) (by simp [IntKind.max,IntKind.signed,IntKind.bits]; omega)
theorem dL (n:Int):IntKind.u64.wrap n=n % 18446744073709551616:=by simp [IntKind.wrap,IntKind.bits,IntKind.signed]
theorem lZ (n:Int):IntKind.u32.wrap n=n % 4294967296:=by simp [IntKind.wrap,IntKind.bits,IntKind.signed]
theorem vC (n:Int):IntKind.u8.wrap n=n % 256:=by simp [IntKind.wrap,IntKind.bits,IntKind.signed]
theorem l0 {n:Nat} (h:n≤2^48):IntKind.i64.wrap (n:Int)=n:=aR S S
theorem pp (n:Nat) (w:World):(askRoom n).run P w = .ok () w:=by unfold askRoom;split <;> rfl
theorem g9 (T:TypeId) (c:Array Value) (w:World):(newRow T c).run P w = .ok ⟨w.heap.size,0,none⟩ (w.alloc (.cells c T)):=by
 simp [newRow,Sem.run_bind,newObj,Sem.run]
theorem gE {T e:TypeId} {z:Value} {by':Nat} {L:Lay} {l n:Nat} [hS:SliceOf P T e] [hL:LayOf P e L] [hZ:ZeroOf P e z by'] (hb0:0<by') (hln:l≤n) (hn:by'*n≤2^48) (w:World) :
  (Instr.makeSlice T (.int .i64 l) (.int .i64 n)).run P w = .ok (slV (some w.heap.size) l n) (w.alloc (.cells (dR z.cells (n*L.sz)) e)):=by
 obtain ⟨ti,hti,htz,htb⟩:=hZ.info
 have hn48:n≤2^48:=by
  have:n≤by'*n:=Nat.le_mul_of_pos_left n hb0
  omega
 have hw:=l0 hn48
 have hwl:=l0 (show l≤2^48 by omega)
 have hle:((by':Int)*n)≤2^48:=by
  have:((by'*n:Nat):Int)≤2^48:=by exact_mod_cast hn
  rw [Int.natCast_mul] at this;omega
 unfold Instr.makeSlice
 simp only [Sem.run_bind,bj hS.und,Result.andThen_ok,asInt,asIntOf,Sem.run_pure,fM hti,htb,hw,hwl]
 rw [if_neg (by simp;omega)]
 simp only [Sem.run_bind,pp,Result.andThen_ok,cJ (L:=L),Int.toNat_natCast]
 split
 ·rename_i h0
  simp only [Sem.run_pure,Sem.run_bind,Result.andThen_ok,g9,h0]
  rw [show dR z.cells 0=Array.map (fun x=>default) (Array.range 0) by simp [dR]]; rfl
 ·simp only [Sem.run_pure,Sem.run_bind,Result.andThen_ok,g9,ZeroOf.run (z:=z)]
  simp [slV,dR]
theorem cK {T e:TypeId} {z:Value} {by':Nat} {L:Lay} {x y:Operand} {il ic:Int} {d:Nat} [hS:SliceOf P T e] [hL:LayOf P e L] [hZ:ZeroOf P e z by'] [hF:Flat (one z) L] (l n:Nat) (hx:aO Γ x=some (one (.int .i64 il))) (hy:aO Γ y=some (one (.int .i64 ic)))
  (hil:il=l) (hic:ic=n) (hln:l≤n) (hb0:Nat.ble 1 by'=true) (hz0:Nat.ble 1 L.sz=true) (hn:by'*n≤2^48) (hi:ops[i]? = some ⟨some d, .makeSlice T x y,ty,pos,af,none⟩) (hd:Nat.ble (d+1) E.N=true)
  (h : ∀ b,Run P E ops false (i+1) D ((d,one (slV (some b) l n)) :: Γ) (a8 (some b) e L n l (fun _=>one z) :: M) os K) :
  Run P E ops false i D Γ M (⟨some d, .makeSlice T x y,ty,pos,af,none⟩ :: os) K:=by
 have hb0:=Nat.le_of_ble_eq_true hb0
 have hz0:=Nat.le_of_ble_eq_true hz0
 have hd:d<E.N:=Nat.le_of_ble_eq_true hd
 subst hil hic
 refine Run.one (K':=fun D' Γ' M' => ∃ b,D'=D∧Γ'=(d,one (slV (some b) l n)) :: Γ∧M'=a8 (some b) e L n l (fun _=>one z) :: M) Z (fun a w hSt => ?_) (fun D' Γ' M' ⟨b,h1,h2,h3⟩=>by subst h1 h2 h3;exact h b) hi
 have hx':a.eval x = .int .i64 l:=cS hSt hx
 have hy':a.eval y = .int .i64 n:=cS hSt hy
 obtain ⟨h1,h2,h3⟩:=hF.ok z (fun _=>none) Z
 have hn48:n≤2^48:=by
  have:n≤by'*n:=Nat.le_mul_of_pos_left n hb0
  omega
 refine ⟨.ok (.value (slV (some w.heap.size) l n)) (w.alloc (.cells (dR z.cells (n*L.sz)) e)),?_,D,_,_,⟨w.heap.size,rfl,rfl,rfl⟩,?_⟩
 ·simp only [execOp,hx',hy',Sem.run_bind,gE hb0 hln hn,Result.andThen_ok,Sem.run_pure]
 ·refine hSt.alloc (o:=a8 (some w.heap.size) e L n l (fun _=>one z)) Z ⟨hln,by omega,(fun h=>by cases h),fun b hb => ?_⟩ hd Z
  cases hb
  refine ⟨_,cz w _ _ _,eI _ _,fun q hq=>⟨z,jy h1 h3 S hz0,rfl⟩⟩
/-! ### Slices that are cut -/
def jQ (Γ:Ctx) (x:Option Operand) (dv:VT):Option VT:=match x with | none=>some dv | some y=>aO Γ y
theorem dh {k:IntKind} {iv:Int} {y:Nat} {code:BoundsCode} (h0:0≤iv) (h1:iv≤y) (w:World):(Instr.sliceBound (.int k iv) y code).run P w = .ok iv.toNat w:=by
 simp [Instr.sliceBound,asIntOf,h0,h1]
theorem fx {T e:TypeId} {L:Lay} [hS:SliceOf P T e] [hL:LayOf P e L] {x:Operand} {lo hi mx:Option Operand} {n:Nat} {φ:Nat→VT} {kl kh km:IntKind} {l h m:Int} (hx:aO Γ x=some (slT L n φ))
  (hlo:jQ Γ lo (one (.int .i64 0))=some (one (.int kl l))) (hhi:jQ Γ hi (one (.int .i64 n))=some (one (.int kh h))) (hmx:jQ Γ mx (one (.int .i64 n))=some (one (.int km m)))
  (hmh:mx.isSome=true→hi.isSome=true) (h0:0≤l) (h1:l≤h) (h2:h≤m) (h3:m≤n) :
  aQ P E Γ M ⟨d, .slice T x lo hi mx,ty,pos,af,gd⟩ (slT L (h - l).toNat (fun j=>φ (l.toNat+j))) :=
 aQ.ofRun fun a w hb hf=>by
  obtain ⟨ad,cap,hv',g1,g2,he⟩:=hf x _ (by simp [Op.operands]) hx
  have hl : ∀ y,lo=some y→a.eval y = .int kl l:=fun y hy=>by subst hy;exact hf y _ (by simp [Op.operands]) hlo
  have hh : ∀ y,hi=some y→a.eval y = .int kh h:=fun y hy=>by subst hy;exact hf y _ (by simp [Op.operands]) hhi
  have hm : ∀ y,mx=some y→a.eval y = .int km m:=fun y hy=>by subst hy;exact hf y _ (by simp [Op.operands]) hmx
  have hl0:lo=none→l=0:=fun hy=>by subst hy;simp [jQ,one] at hlo;have:=congrFun (congrFun hlo (.int .i64 0)) (fun _=>none);simp at this;exact this.2.symm
  have hh0:hi=none→h=n:=fun hy=>by subst hy;simp [jQ,one] at hhi;have:=congrFun (congrFun hhi (.int .i64 n)) (fun _=>none);simp at this;exact this.2.symm
  have hbd : ∃ mm:Nat,(Instr.sliceBounds true n cap (lo.map a.eval) (hi.map a.eval) (mx.map a.eval)).run P w = .ok (l.toNat,h.toNat,mm) w∧h.toNat≤mm∧mm≤cap:=by
   cases mx with
   | some y =>
    obtain ⟨z,rfl⟩ : ∃ z,hi=some z:=by cases hi with | none=>simp at hmh | some z=>exact ⟨z,rfl⟩
    refine ⟨m.toNat,?_,by omega,by omega⟩
    have e1:=dh (P:=P) (k:=km) (iv:=m) (y:=cap) (code := .slice3Acap) S S w
    have e2:=dh (P:=P) (k:=kh) (iv:=h) (y:=m.toNat) (code := .slice3B) S S w
    cases lo with
    | none => simp [Instr.sliceBounds, Sem.run_bind, hm y Z, hh z Z, e1, e2, hl0 Z]
    | some u =>
     have e3:=dh (P:=P) (k:=kl) (iv:=l) (y:=h.toNat) (code := .slice3C) S S w
     simp [Instr.sliceBounds,Sem.run_bind,hm y Z,hh z Z,hl u Z,e1,e2,e3]
   | none =>
    refine ⟨cap,?_,by omega,by omega⟩
    cases hi with
    | some z =>
     have e2:=dh (P:=P) (k:=kh) (iv:=h) (y:=cap) (code := .sliceAcap) S S w
     cases lo with
     | none => simp [Instr.sliceBounds, Sem.run_bind, hh z Z, e2, hl0 Z]
     | some u =>
      have e3:=dh (P:=P) (k:=kl) (iv:=l) (y:=h.toNat) (code := .sliceB) S S w
      simp [Instr.sliceBounds,Sem.run_bind,hh z Z,hl u Z,e2,e3]
    | none =>
     cases lo with
     | none => simp [Instr.sliceBounds, Sem.run_bind, hl0 Z, hh0 Z]
     | some u =>
      have e3:=dh (P:=P) (k:=kl) (iv:=l) (y:=n) (code := .sliceB) S (by have:=hh0 Z;omega) w
      simp [Instr.sliceBounds,Sem.run_bind,hl u Z,e3,hh0 Z]
  obtain ⟨mm,hrun,hmm,hmc⟩:=hbd
  have hdesc : ∀ y:Value,(Instr.sliceAt T (.slice ad n cap) (lo.map a.eval) (hi.map a.eval) (mx.map a.eval)).run P w = .ok (.slice (if mm=l.toNat then ad else ad.map (·.add (l.toNat*L.sz))) (h.toNat - l.toNat) (mm - l.toNat)) w:=by
   intro _
   simp only [Instr.sliceAt,Sem.run_bind,bj hS.und,Result.andThen_ok,Instr.slice,hrun,cJ (L:=L),Sem.run_pure]
  refine ⟨_,by simp only [execOp,hv',Sem.run_bind,hdesc undef,Result.andThen_ok,Sem.run_pure]; rfl,?_⟩
  refine ⟨_,_,by rw [show (h - l).toNat=h.toNat - l.toNat by omega],by omega,by omega,fun j hj => ?_⟩
  obtain ⟨b,o,c,T',f,v,h4,h5,h6,h7⟩:=he (l.toNat+j) S
  have hne : ¬ (mm=l.toNat):=by omega
  refine ⟨b,o+l.toNat*L.sz,c,T',f,v,?_,h5,?_,h7⟩
  ·rw [if_neg hne,h4]; simp [dH]
  ·rw [Nat.add_mul] at h6;rw [Nat.add_assoc]; exact h6
end
end Tor
namespace Tor
open Go Go.RowKit
section
variable {P:Program} {E:Env} {D:List Deferred} {Γ:Ctx} {M:Mem} {ops:Array Oper} {i:Nat} {op:Op} {ty:TypeId} {pos:String} {af:Array Edge} {os:List Oper} {K:List Deferred→Ctx→Mem→Prop} {dr:Bool}
theorem ltN {a b:Nat} (h:Nat.ble (a+1) b=true):a<b:=Nat.le_of_ble_eq_true h
theorem st {d:Nat} {ψ:VT} (h:aQ P E Γ M ⟨some d,op,ty,pos,af,none⟩ ψ) (hd:Nat.ble (d+1) E.N=true) (hr:Run P E ops dr (i+1) D ((d, ψ) :: Γ) M os K) :
  Run P E ops dr i D Γ M (⟨some d,op,ty,pos,af,none⟩ :: os) K := .step (.plain h Z Z (ltN hd)) hr
theorem _root_.Al {P:Program} {E:Env} {D:List Deferred} {Γ:Ctx} {M:Mem} {ops:Array Oper} {i:Nat} {op:Op} {ty:TypeId} {pos:String} {af:Array Edge} {os:List Oper} {K:List Deferred→Ctx→Mem→Prop} {dr:Bool} {d:Nat} {ψ:VT} (h:aQ P E Γ M ⟨some d,op,ty,pos,af,none⟩ ψ) (hr:Run P E ops dr (i+1) D ((d, ψ) :: Γ) M os K) (hd:Nat.ble (d+1) E.N=true:=by exact rfl):Run P E ops dr i D Γ M (⟨some d,op,ty,pos,af,none⟩ :: os) K:=st h hd hr
theorem _root_.Am {P:Program} {E:Env} {D:List Deferred} {Γ:Ctx} {M:Mem} {ops:Array Oper} {i:Nat} {ty:TypeId} {pos:String} {af:Array Edge} {os:List Oper} {K:List Deferred→Ctx→Mem→Prop} {dr:Bool} {d:Nat} {ψ:VT} {x:Operand} (hx:aO Γ x=some ψ) (hr:Run P E ops dr (i+1) D ((d, ψ) :: Γ) M os K) (hd:Nat.ble (d+1) E.N=true:=by exact rfl):Run P E ops dr i D Γ M (⟨some d, .move x,ty,pos,af,none⟩ :: os) K:=st (ae hx) hd hr
theorem _root_.An {P:Program} {E:Env} {D:List Deferred} {Γ:Ctx} {M:Mem} {ops:Array Oper} {i:Nat} {ty:TypeId} {pos:String} {af:Array Edge} {os:List Oper} {K:List Deferred→Ctx→Mem→Prop} {dr:Bool} {d:Nat} {ψ:VT} {x:Operand} (hx:aO Γ x=some ψ) (hr:Run P E ops dr (i+1) D ((d, ψ) :: Γ) M os K) (hd:Nat.ble (d+1) E.N=true:=by exact rfl):Run P E ops dr i D Γ M (⟨some d, .assign x,ty,pos,af,none⟩ :: os) K:=st (ai hx) hd hr
end
end Tor
namespace Tor
theorem fe {L:Lay} {n:Nat} {φ ψ:Nat→VT} (Ae : ∀ i,i<n→VT.le (φ i) (ψ i)):VT.le (slT L n φ) (slT L n ψ) :=
 fun v h ⟨a,cap,h1,h2,h3,h4⟩=>⟨a,cap,h1,h2,h3,fun i hi=>let ⟨b,o,c,T,f,x,k1,k2,k3,k4⟩:=h4 i hi;⟨b,o,c,T,f,x,k1,k2,k3,Ae i hi _ _ k4⟩⟩
theorem cL {L:Lay} {n m:Nat} {φ ψ:Nat→VT} (hn:n=m) (Ae : ∀ i,i<n→φ i=ψ i):VT.le (slT L n φ) (slT L m ψ):=by
 subst hn;exact fe fun i hi=>by rw [Ae i hi]; exact VT.le_refl _
theorem et {L:Lay} {n:Nat} {φ:Nat→VT} {v:Go.Value} {h:Hp} (Ae:(slT L n φ).p v h):n≤2^48:=by
 obtain ⟨_,_,_,h1,h2,_⟩:=Ae;omega
end Tor
end
section
set_option linter.unusedSectionVars false
namespace Tor
open Go Go.RowKit
section
variable {P:Program} {E:Env} {D:List Deferred} {Γ:Ctx} {M:Mem} {Q:Exit→Act→World→Prop}
variable {ops:Array Oper} {i:Nat} {ty:TypeId} {pos:String} {af:Array Edge} {os:List Oper} {K:List Deferred→Ctx→Mem→Prop} {d:Option Tmp} {gd:Option (Nat × Bool)} {dr:Bool} {op:Op}
/-! ### Guards -/
theorem sg1 {d t j:Nat} {want:Bool} {ψ:VT} (hg:eD ops ⟨some d,op,ty,pos,af,some (j,want)⟩=some (some t,want)) (hb:bJ Γ t=some (one (.bool want))) (h:aQ P E Γ M ⟨some d,op,ty,pos,af,some (j,want)⟩ ψ) (hd:Nat.ble (d+1) E.N=true)
  (hr:Run P E ops dr (i+1) D ((d, ψ) :: Γ) M os K):Run P E ops dr i D Γ M (⟨some d,op,ty,pos,af,some (j,want)⟩ :: os) K:=by
 refine .step (.guarded1 hg hb h Z (ltN hd)) hr
theorem _root_.Ao {P:Program} {E:Env} {D:List Deferred} {Γ:Ctx} {M:Mem} {ops:Array Oper} {i:Nat} {op:Op} {ty:TypeId} {pos:String} {af:Array Edge} {os:List Oper} {K:List Deferred→Ctx→Mem→Prop} {dr:Bool} {d t j:Nat} {want:Bool} {ψ:VT} (h:aQ P E Γ M ⟨some d,op,ty,pos,af,some (j,want)⟩ ψ) (hr:Run P E ops dr (i+1) D ((d, ψ) :: Γ) M os K) (hg:eD ops ⟨some d,op,ty,pos,af,some (j,want)⟩=some (some t,want):=by exact rfl) (hb:bJ Γ t=some (one (.bool want)):=by exact rfl) (hd:Nat.ble (d+1) E.N=true:=by exact rfl):Run P E ops dr i D Γ M (⟨some d,op,ty,pos,af,some (j,want)⟩ :: os) K:=sg1 hg hb h hd hr
theorem sg0 {d t j:Nat} {b want:Bool} (hg:eD ops ⟨some d,op,ty,pos,af,some (j,want)⟩=some (some t,want)) (hb:bJ Γ t=some (one (.bool b))) (hne:(b == want)=false) (hd:Nat.ble (d+1) E.N=true)
  (hr:Run P E ops dr (i+1) D ((d,bS) :: Γ) M os K):Run P E ops dr i D Γ M (⟨some d,op,ty,pos,af,some (j,want)⟩ :: os) K:=by
 refine .step (.guarded0 hg hb hne Z (ltN hd)) hr
theorem jp {t:Nat} {b:Bool} (ht:bJ Γ t=some (one (.bool b))) (h : ∀ b',b=b'→Run P E ops dr i D Γ M os K):Run P E ops dr i D Γ M os K:=h b Z
theorem aE {c x y:Operand} {φ:VT} (hc:aO Γ c=some (one (.bool true))) (hx:aO Γ x=some φ):aQ P E Γ M ⟨d, .pick c x y,ty,pos,af,gd⟩ φ :=
 aQ.ofRun fun ac w hb hf=>by
  have hc':ac.eval c = .bool true:=hf c _ (by simp [Op.operands]) hc
  exact ⟨ac.eval x,by simp [execOp,hc',asBool],hf x _ (by simp [Op.operands]) hx⟩
theorem ay {c x y:Operand} {φ:VT} (hc:aO Γ c=some (one (.bool false))) (hy:aO Γ y=some φ):aQ P E Γ M ⟨d, .pick c x y,ty,pos,af,gd⟩ φ :=
 aQ.ofRun fun ac w hb hf=>by
  have hc':ac.eval c = .bool false:=hf c _ (by simp [Op.operands]) hc
  exact ⟨ac.eval y,by simp [execOp,hc',asBool],hf y _ (by simp [Op.operands]) hy⟩
/-! ### Results -/
inductive ResOk (P:Program) (Γ:Ctx) (M:Mem):ResultVar→VT→Prop
 | tmp {t : Nat} {φ ψ : VT} : bJ Γ t = some φ → VT.le φ ψ → ResOk P Γ M (.tmp t) ψ
 | cellB {t b m : Nat} {T T' : TypeId} {L : Lay} {cs : cf} {φ ψ : VT} (i : Nat) [LayOf P T L] : bJ Γ t = some (one (.pointer (some ⟨b, 0, none⟩))) → M[i]? = some (aX b T' m cs) → fC cs 0 = some (L, φ) → VT.le φ ψ → ResOk P Γ M (.cell t T) ψ
 | cellW {t b m : Nat} {T T' : TypeId} {cs : cf} {ψ : VT} (i : Nat) [LayOf P T (.agg m)] : bJ Γ t = some (one (.pointer (some ⟨b, 0, none⟩))) → M[i]? = some (aX b T' m cs) → VT.le (bG m cs) ψ → ResOk P Γ M (.cell t T) ψ
def mT (tmps:Array Value):ResultVar→Sem Value
 | .tmp t => pure (tmps.getD t undef)
 | .cell c t => do loadVar t (← asAddr (tmps.getD c undef))
theorem ff (fn:Func) (tmps:Array Value):results fn tmps=(do
  let vs ← fn.results.mapM (mT tmps)
  pure (if h:vs.size=1 then vs[0] else .tuple vs)):=rfl
theorem ResOk.run {r:ResultVar} {ψ:VT} (h:ResOk P Γ M r ψ) {a:Act} {w:World} (hS:St E D Γ M a w) :
  ∃ v,(mT a.tmps r).run P w = .ok v w∧ψ.p v (hv E M w):=by
 cases h with
 | tmp h1 h2 => exact ⟨_, rfl, h2 _ _ (hS.tm _ _ h1)⟩
 | @cellB t b m T T' L cs φ _ i hL h1 h2 h3 h4 =>
  have e:a.tmps.getD t undef = .pointer (some ⟨b,0,none⟩):=hS.tm _ _ h1
  obtain ⟨c,hc,_,_,hcs⟩:=dZ hS.base h2
  obtain ⟨v,hv',hp⟩:=hcs _ (ep h3)
  refine ⟨v,?_,h4 _ _ hp⟩
  simp only [mT,e,asAddr,Sem.run_bind,Sem.run_pure,Result.andThen_ok,dI hc hv']
 | @cellW t b m T T' cs _ i hL h1 h2 h3 =>
  have e:a.tmps.getD t undef = .pointer (some ⟨b,0,none⟩):=hS.tm _ _ h1
  obtain ⟨c,hc,hs,ha,hcs⟩:=dZ hS.base h2
  have hx':bP (.agg m) c 0=some (.agg c):=by simp [bP, ← hs]
  refine ⟨.agg c,?_,h3 _ _ ⟨c,rfl,hs,ha,hcs⟩⟩
  simp only [mT,e,asAddr,Sem.run_bind,Sem.run_pure,Result.andThen_ok,dI hc hx']
theorem kH {w:World} {ψ:VT} {v:Value} (h:ψ.p v (hv E M w)):ψ.p v (hid E.O (cC w)):=ψ.mono (lC fun b hb=>List.mem_append.2 (.inl hb)) h
theorem aP {w0:World} {O:List Nat} {N:Nat} {fn:Func} {r:ResultVar} {ψ:VT} (hr:fn.results = #[r]) (h:ResOk P Γ M r ψ) :
  PJ ⟨w0,O, [],N,none⟩ [] Γ M .ret (bodyPost P fn (Ret O ψ w0)):=by
 intro a w hS
 obtain ⟨v,h1,h2⟩:=h.run hS
 refine ⟨hS.df,v,?_,v,rfl,kH h2,hS.ret⟩
 have hm:(fn.results.mapM (mT a.tmps)).run P w = .ok #[v] w:=by rw [hr]; simp [h1]
 rw [ff,Sem.run_bind,hm]; rfl
theorem gr {w0:World} {O:List Nat} {N:Nat} {fn:Func} {r r':ResultVar} {ψ ψ':VT} (hr:fn.results = #[r,r']) (h:ResOk P Γ M r ψ) (h':ResOk P Γ M r' ψ') :
  PJ ⟨w0,O, [],N,none⟩ [] Γ M .ret (bodyPost P fn (Ret O (bZ [ψ, ψ']) w0)):=by
 intro a w hS
 obtain ⟨v,h1,h2⟩:=h.run hS
 obtain ⟨v',h1',h2'⟩:=h'.run hS
 refine ⟨hS.df, .tuple #[v,v'],?_,_,rfl,⟨[_,_],rfl,kH h2,kH h2',Aq⟩,hS.ret⟩
 have hm:(fn.results.mapM (mT a.tmps)).run P w = .ok #[v,v'] w:=by rw [hr]; simp [h1,h1']
 rw [ff,Sem.run_bind,hm]; rfl
theorem jR {w0:World} {O:List Nat} {N:Nat} {fn:Func} {r r' r'':ResultVar} {ψ ψ' ψ'':VT} (hr:fn.results = #[r,r',r'']) (h:ResOk P Γ M r ψ) (h':ResOk P Γ M r' ψ') (h'':ResOk P Γ M r'' ψ'') :
  PJ ⟨w0,O, [],N,none⟩ [] Γ M .ret (bodyPost P fn (Ret O (bZ [ψ, ψ', ψ'']) w0)):=by
 intro a w hS
 obtain ⟨v,h1,h2⟩:=h.run hS
 obtain ⟨v',h1',h2'⟩:=h'.run hS
 obtain ⟨v'',h1'',h2''⟩:=h''.run hS
 refine ⟨hS.df, .tuple #[v,v',v''],?_,_,rfl,⟨[_,_,_],rfl,kH h2,kH h2',kH h2'',Aq⟩,hS.ret⟩
 have hm:(fn.results.mapM (mT a.tmps)).run P w = .ok #[v,v',v''] w:=by rw [hr]; simp [h1,h1',h1'']
 rw [ff,Sem.run_bind,hm]; rfl
/-! ### Struct literals -/
class BuildOf (P:Program) (T:TypeId) (m:outParam Nat) (z:outParam (Array Value)) (pl:outParam (List (Nat × Lay))):Prop where
 zero : ∀ w,(zeroValue T).run P w = .ok (.agg z) w
 zs:z.size=m
 zo:z.all (·.oneCell')=true
 run : ∀ (parts:Array (Nat × Value)) (cells:Array Value) (w:World),Instr.fill (fun i=>(pl[i]?).map fun q=>(q.1,q.2.sz)) z parts.toList=some cells →
  (Instr.build T parts).run P w = .ok (.agg cells) w
def dw (z:Array Value):List (Nat × Lay)→cf
 | [] => []
 | (o, L) :: r => (o, L, match bP L z o with | some v => one v | none => bS) :: dw z r
inductive BuildOk (Γ:Ctx) (pl:List (Nat × Lay)):cf→List (Nat × Operand)→cf→Prop
 | nil {C} : BuildOk Γ pl C [] C
 | cons {C i x r C' o L φ χ} [hF : Flat φ L] : pl[i]? = some (o, L) → aO Γ x = some φ → fC C o = some (L, χ) → BuildOk Γ pl (lY C o φ) r C' → BuildOk Γ pl C ((i, x) :: r) C'
theorem hP (v:Array Value) (off:Nat) (c:Array Value) (h:off+v.size≤c.size):v.zipIdx.foldl (fun cs (x,j)=>cs.setIfInBounds (off+j) x) c=cD c off v:=by
 have key : ∀ (l:List Value) (k:Nat) (c:Array Value),off+k+l.length≤c.size→(l.zipIdx k).foldl (fun cs (x:Value × Nat)=>cs.setIfInBounds (off+x.2) x.1) c=cD c (off+k) l.toArray:=by
  intro l
  induction l with
  | nil => intro k c h; apply Array.ext_getElem?; intro j; rw [dT (by simp at h ⊢; omega), if_neg (by simp only [List.size_toArray, List.length_nil]; omega)]; rfl
  | cons x l ih =>
   intro k c h
   simp only [List.length_cons] at h
   simp only [List.zipIdx_cons,List.foldl_cons]
   rw [ih (k+1) _ (by simp;omega)]
   apply Array.ext_getElem?; intro j
   have q1:off+(k+1)+l.toArray.size≤(c.setIfInBounds (off+k) x).size:=by simp only [List.size_toArray,Array.size_setIfInBounds]; omega
   have q2:off+k+(x :: l).toArray.size≤c.size:=by simp only [List.size_toArray,List.length_cons]; omega
   rw [dT q1,dT q2]
   simp only [List.size_toArray,List.length_cons]
   by_cases hj:j=off+k
   ·have hlt:off+k<c.size:=by omega
    subst hj;rw [if_neg S,if_pos S,Nat.sub_self]; simp [hlt]
   ·by_cases h2:off+(k+1)≤j∧j<off+(k+1)+l.length
    ·rw [if_pos h2,if_pos S]
     rw [show j - (off+k)=(j - (off+(k+1)))+1 by omega]; simp
    ·rw [if_neg h2,if_neg S]; simp [Ne.symm hj]
 have:=key v.toList 0 c (by simpa using h)
 simp only [Nat.add_zero,Array.toArray_toList] at this
 rw [← this, ← Array.foldl_toList,Array.toList_zipIdx]
theorem qJ : ∀ {C:cf} {o:Nat} {φ:VT},eV C=true→eV (lY C o φ)=true:=by
 have hall : ∀ (C:cf) (o:Nat) (φ:VT) (p:Nat→Lay→Bool),(lY C o φ).all (fun q=>p q.1 q.2.1)=C.all (fun q=>p q.1 q.2.1):=by
  intro C o φ p
  induction C with
  | nil => rfl
  | cons q C ih =>
   obtain ⟨k,l,v⟩:=q
   rw [lY]; cases h:Nat.beq k o
   ·simp only [cond_false,List.all_cons,ih]
   ·simp only [cond_true,List.all_cons]
 intro C
 induction C with
 | nil => intro o φ h; rfl
 | cons q C ih =>
  obtain ⟨k,l,v⟩:=q
  intro o φ h
  simp only [eV,Bool.and_eq_true] at h
  rw [lY]; cases hk:Nat.beq k o
  ·simp only [cond_false,eV,Bool.and_eq_true]
   exact ⟨by rw [hall C o φ (fun a b=>decide (k+l.sz≤a) || decide (a+b.sz≤k))]; exact h.1,ih h.2⟩
  ·simp only [cond_true,eV,Bool.and_eq_true]; exact h
theorem jS {z:Array Value} {h:Hp} : ∀ {pl:List (Nat × Lay)},(pl.all fun q=>(bP q.2 z q.1).isSome)=true→fZ (dw z pl) z h
 | [], _, q, hq => by cases hq
 | (o, L) :: r, ha, q, hq => by
  simp only [List.all_cons,Bool.and_eq_true] at ha
  rw [dw] at hq
  rcases List.mem_cons.1 hq with rfl | hq
  ·obtain ⟨v,hv⟩:=Option.isSome_iff_exists.1 ha.1
   simp only at hv ⊢; rw [hv]; exact ⟨v,rfl,rfl⟩
  ·exact jS ha.2 q hq
theorem pq {a:Act} {h:Hp} {pl:List (Nat × Lay)} {m:Nat} : ∀ {C C':cf} {parts:List (Nat × Operand)} {c:Array Value},BuildOk Γ pl C parts C'→(∀ x φ,x∈parts.map (·.2)→aO Γ x=some φ→φ.p (a.eval x) h) →
  (∀ q∈pl,q.1+q.2.sz≤m)→c.size=m→c.all (·.oneCell')=true→eV C=true→fZ C c h →
  ∃ c',Instr.fill (fun i=>(pl[i]?).map fun q=>(q.1,q.2.sz)) c (parts.map fun (i,x)=>(i,a.eval x))=some c'∧c'.size=m∧c'.all (·.oneCell')=true∧fZ C' c' h
 | C, _, [], c, .nil, _, _, hs, ho, _, hc => ⟨c, rfl, hs, ho, hc⟩
 | C, C', (i, x) :: r, c, .cons (o := o) (L := L) (φ := φ) (hF := hF) h1 h2 h3 h4, hf, hpl, hs, ho, hap, hc => by
  have hp:=hf x φ (by simp) h2
  obtain ⟨f1,f2,f3⟩:=hF.ok _ _ hp
  have hfit:=hpl _ (List.mem_of_getElem? h1)
  simp only at hfit
  have hle:o+(a.eval x).cells.size≤c.size:=by rw [f1,hs]; exact hfit
  obtain ⟨c',k1,k2,k3,k4⟩:=pq (c:=cD c o (a.eval x).cells) h4 (fun y ψ hy he=>hf y ψ (by simp at hy ⊢; exact .inr hy) he) hpl (by rw [cT hle]; exact hs) (g8 ho f2) (qJ hap)
   (nX hle f1 (dY (by rw [hs]; exact hfit) f1 f3) hp hap h3 hc)
  refine ⟨c',?_,k2,k3,k4⟩
  simp only [List.map_cons,Instr.fill,h1,Option.map_some]
  rw [if_neg (by simp [f1,hs]; exact hfit),hP _ _ _ hle]
  exact k1
theorem i5 {T:TypeId} {m:Nat} {z:Array Value} {pl:List (Nat × Lay)} [hB:BuildOf P T m z pl] {parts:Array (Nat × Operand)} {C:cf}
  (h:BuildOk Γ pl (dw z pl) parts.toList C) (hz:(pl.all fun q=>(bP q.2 z q.1).isSome && decide (q.1+q.2.sz≤m))=true) (hap:eV (dw z pl)=true) :
  aQ P E Γ M ⟨d, .build T parts,ty,pos,af,gd⟩ (bG m C) :=
 aQ.ofRun fun a w hb hf=>by
  have hz1:(pl.all fun q=>(bP q.2 z q.1).isSome)=true:=by
   rw [List.all_eq_true] at hz ⊢; intro q hq;have:=hz q hq;simp only [Bool.and_eq_true] at this;exact this.1
  have hz2 : ∀ q∈pl,q.1+q.2.sz≤m:=by
   rw [List.all_eq_true] at hz;intro q hq;have:=hz q hq;simp only [Bool.and_eq_true,decide_eq_true_eq] at this;exact this.2
  obtain ⟨c',k1,k2,k3,k4⟩:=pq (a:=a) (h:=hv E M w) h (fun x φ hx he=>hf x φ (by simpa [Op.operands] using hx) he) hz2 hB.zs hB.zo hap (jS hz1)
  refine ⟨.agg c',?_,c',rfl,k2,k3,k4⟩
  have hr:=hB.run (parts.map fun (i,x)=>(i,a.eval x)) c' w (by rw [Array.toList_map]; exact k1)
  simp only [execOp,Sem.run_bind,hr,Result.andThen_ok,Sem.run_pure]
/-! ### BuildOf from closed facts -/
def l3 (P:Program) (T:TypeId):Option (List (Nat × Option Nat)) :=
 match P.underlying T with
 | some (.struct fs) => some (fs.toList.map fun f => (f.offset, (P.info? f.type).map (·.size)))
 | _ => none
theorem l4 : ∀ (fs:List Field) (pl:List (Nat × Lay)) (w:World),fs.map (fun f=>(f.offset,(P.info? f.type).map (·.size)))=pl.map (fun q=>(q.1,some q.2.sz)) →
  (fs.mapM fun f=>(do pure (f.offset, ← Go.sizeOf f.type):Sem (Nat × Nat))).run P w = .ok (pl.map fun q=>(q.1,q.2.sz)) w
 | [], [], w, _ => by simp
 | [], _ :: _, w, h => by simp at h
 | _ :: _, [], w, h => by simp at h
 | f :: fs, q :: pl, w, h => by
  simp only [List.map_cons,List.cons.injEq,Prod.mk.injEq] at h
  have ih:=l4 fs pl w h.2
  have hs:(Go.sizeOf f.type).run P w = .ok q.2.sz w:=by
   cases hi:P.info? f.type with
   | none => rw [hi] at h; simp at h
   | some i => rw [hi] at h; simp at h; simp [Go.sizeOf, Sem.run_bind, fM hi, h.1.2]
  simp only [List.mapM_cons,Sem.run_bind,hs,Result.andThen_ok,Sem.run_pure,ih,List.map_cons,h.1.1]
theorem BuildOf.by_struct {T:TypeId} {m by':Nat} {z:Array Value} {pl:List (Nat × Lay)} (hz:ZeroOf P T (.agg z) by') (hs:z.size=m) (ho:z.all (·.oneCell')=true)
  (h:l3 P T=some (pl.map fun q=>(q.1,some q.2.sz))):BuildOf P T m z pl where
 zero:=fun w=>ZeroOf.run w
 zs:=hs
 zo:=ho
 run:=by
  intro parts cells w hfill
  unfold l3 at h
  split at h
  ·rename_i fs hfs
   simp only [Option.some.injEq] at h
   have hp:=l4 fs.toList pl w h
   have hp':(fs.mapM fun f=>(do pure (f.offset, ← Go.sizeOf f.type):Sem (Nat × Nat))).run P w = .ok (pl.map fun q=>(q.1,q.2.sz)).toArray w:=by
    rw [Array.mapM_eq_mapM_toList]
    show ((fs.toList.mapM fun f=>(do pure (f.offset, ← Go.sizeOf f.type):Sem (Nat × Nat))) >>= fun l=>pure l.toArray).run P w=_
    rw [Sem.run_bind,hp]; rfl
   have hz':=ZeroOf.run (P:=P) (T:=T) (z := .agg z) w
   unfold Instr.build
   simp only [Sem.run_bind,hz',Result.andThen_ok,bj hfs,hp',Value.cells]
   have e:(fun x=>(pl.map fun q=>(q.1,q.2.sz)).toArray[x]?)=fun (i:Nat)=>(pl[i]?).map fun (q:Nat × Lay)=>(q.1,q.2.sz):=by funext i;simp
   rw [e,hfill]; rfl
  ·cases h
theorem l5 {f g:Nat→Option (Nat × Nat)} {m:Nat} (h : ∀ i,f i=g i∨(g i=none ∧ ∃ o s,f i=some (o,s)∧0<s∧m<o+s)) : ∀ (l:List (Nat × Value)) (c:Array Value),c.size=m→Instr.fill f c l=Instr.fill g c l
 | [], c, _ => rfl
 | (i, v) :: l, c, hc => by
  simp only [Instr.fill]
  rcases h i with h1 | ⟨h1,o,s,h2,h3,h4⟩
  ·rw [h1]
   cases g i with
   | none => rfl
   | some q =>
    obtain ⟨o,s⟩:=q
    simp only
    split
    ·rfl
    ·rename_i hh
     refine l5 h l _ ?_
     rw [hP _ _ _ (by simp at hh;omega),cT (by simp at hh;omega)]; exact hc
  ·rw [h1,h2]; simp only
   rw [if_pos]
   simp only [ne_eq,Bool.or_eq_true,decide_eq_true_eq]
   by_cases hv:v.cells.size=s
   ·right;omega
   ·left;exact hv
theorem BuildOf.by_array {T e:TypeId} {n m by':Nat} {L:Lay} {z:Array Value} (hz:ZeroOf P T (.agg z) by') (hA:ArrayOf P T n e) (hL:LayOf P e L) (hs:z.size=m) (ho:z.all (·.oneCell')=true) (hm:n*L.sz=m) (h0:0<L.sz) :
  BuildOf P T m z ((List.range n).map fun i=>(i*L.sz,L)) where
 zero:=fun w=>ZeroOf.run w
 zs:=hs
 zo:=ho
 run:=by
  intro parts cells w hfill
  have hz':=ZeroOf.run (P:=P) (T:=T) (z := .agg z) w
  unfold Instr.build
  simp only [Sem.run_bind,hz',Result.andThen_ok,bj hA.und,cJ (L:=L),Value.cells]
  rw [l5 (g:=fun i=>(((List.range n).map fun i=>(i*L.sz,L))[i]?).map fun q=>(q.1,q.2.sz)) (m:=m) (fun i => ?_) _ _ hs]
  ·rw [hfill]; rfl
  ·rcases Nat.lt_or_ge i n with h | h
   ·left;simp [h]
   ·right
    refine ⟨by simp [List.getElem?_eq_none,h],i*L.sz,L.sz,rfl,h0,?_⟩
    have:=Nat.mul_le_mul_right L.sz h
    omega
end
end Tor
end
section
set_option linter.unusedSectionVars false
namespace Tor
open Go Go.RowKit
section
variable {P:Program} {E:Env} {D:List Deferred} {Γ:Ctx} {M:Mem} {Q:Exit→Act→World→Prop}
variable {ops:Array Oper} {i:Nat} {ty:TypeId} {pos:String} {af:Array Edge} {os:List Oper} {K:List Deferred→Ctx→Mem→Prop} {d:Option Tmp} {gd:Option (Nat × Bool)} {dr:Bool} {op:Op}
theorem t0 {L:Lay} {c:Array Value} {o:Nat} {x:Value} (h:bP L c o=some x):o+L.sz≤c.size:=by
  cases L with
  | one => have := (Array.getElem?_eq_some_iff.1 h).1; simp only [Lay.sz]; omega
  | agg n => simp only [bP] at h; split at h
             · assumption
             · cases h
theorem eJ {L:Lay} {c c':Array Value} {o o':Nat} (h1:o+L.sz≤c.size) (h2:o'+L.sz≤c'.size) (h : ∀ j,j<L.sz→c[o+j]? = c'[o'+j]?):bP L c o=bP L c' o':=by
 cases L with
 | one => have := h 0 (by simp [Lay.sz]); rw [Nat.add_zero, Nat.add_zero] at this; exact this
 | agg n =>
  simp only [bP,Lay.sz] at *
  rw [if_pos h1,if_pos h2]
  congr 2
  apply Array.ext_getElem?; intro j
  rw [cP,cP]
  split
  ·rename_i hj;exact h j hj
  ·rfl
theorem qK {L:Lay} {c:Array Value} {o j:Nat} {x:Value} (h:bP L c o=some x) (hx:x.cells.all (·.oneCell')=true) (hs:x.cells.size=L.sz) (h0:bP L x.cells 0=some x) (hj:j<L.sz) : ∃ y,c[o+j]? = some y∧y.oneCell'=true:=by
 cases L with
 | one =>
  simp only [Lay.sz] at *
  have:j=0:=by omega
  subst this
  refine ⟨x,h,?_⟩
  simp only [bP] at h0
  exact (Array.all_eq_true_iff_forall_mem.1 hx) x (Array.mem_of_getElem? h0)
 | agg n =>
  simp only [bP,Lay.sz] at *
  split at h
  ·rename_i hle
   cases h
   simp only [Value.cells] at hx
   have e:=cP c o n j
   rw [if_pos hj] at e
   have hlt:o+j<c.size:=by omega
   refine ⟨c[o+j],by simp [hlt],?_⟩
   refine (Array.all_eq_true_iff_forall_mem.1 hx) _ (Array.mem_of_getElem? (i:=j) ?_)
   rw [e]; simp [hlt]
  ·cases h
theorem iK {L:Lay} {w:World} {h:Hp} (hle:Hp.le h (cC w)) {a:Option Addr} {m cap:Nat} {ψ:Nat→VT} [hF : ∀ q,Flat (ψ q) L] (hsz:0<L.sz)
  (he : ∀ i,i<m → ∃ b o c T f x,a=some ⟨b,o,none⟩∧h b=some (c,T,f)∧bP L c (o+i*L.sz)=some x∧(ψ i).p x h) :
  ∃ new:Array Value,(Builtin.firstCells L.sz m (.slice a m cap)).run P w = .ok new w∧new.size=m*L.sz∧new.all (·.oneCell')=true ∧ ∀ i,i<m → ∃ x,bP L new (i*L.sz)=some x∧(ψ i).p x h:=by
 by_cases hm:m=0
 ·subst hm
  refine ⟨#[],?_,by simp,by simp,fun i hi=>by omega⟩
  cases a with
  | none => simp [Builtin.firstCells]
  | some ad => simp [Builtin.firstCells, loadCells, loadCellsFrom]
 ·obtain ⟨b,o,c,T,f,x0,rfl,hb,hx0,_⟩:=he 0 S
  have hc:cC w b=some (c,T,f):=hle _ _ hb
  have hel : ∀ i,i<m → ∃ x,bP L c (o+i*L.sz)=some x∧(ψ i).p x h:=by
   intro i hi
   obtain ⟨b',o',c',T',f',x,h1,h2,h3,h4⟩:=he i hi
   simp only [Option.some.injEq,Addr.mk.injEq,and_true] at h1
   obtain ⟨rfl,rfl⟩:=h1
   rw [hb] at h2;cases h2
   exact ⟨x,h3,h4⟩
  have hcell : ∀ k,k<m*L.sz → ∃ y,c[o+k]? = some y∧y.oneCell'=true:=by
   intro k hk
   have hq:k / L.sz<m:=Nat.div_lt_of_lt_mul (by rw [Nat.mul_comm]; exact hk)
   obtain ⟨x,hx,hp⟩:=hel (k / L.sz) hq
   obtain ⟨f1,f2,f3⟩:=(hF (k / L.sz)).ok _ _ hp
   obtain ⟨y,hy,ho⟩:=qK (j:=k % L.sz) hx f2 f1 f3 (Nat.mod_lt _ hsz)
   refine ⟨y,?_,ho⟩
   have:o+k / L.sz*L.sz+k % L.sz=o+k:=by
    have:=Nat.div_add_mod k L.sz;rw [Nat.mul_comm] at this;omega
   rw [this] at hy;exact hy
  have hfit:o+m*L.sz≤c.size:=by
   obtain ⟨x,hx,_⟩:=hel (m - 1) S
   have:=t0 hx
   have e:m*L.sz=(m - 1)*L.sz+L.sz:=by
    have:m=(m - 1)+1:=by omega
    conv=>lhs;rw [this,Nat.succ_mul]
   omega
  refine ⟨c.extract o (o+m*L.sz),?_,by simp;omega,?_,fun i hi => ?_⟩
  ·have hl:=run_loadCells (P:=P) w ⟨b,o,none⟩ (m*L.sz) (fun j=>c.getD (o+j) undef) (fun j hj=>by
    rw [dH,iY hc,Array.getD_eq_getD_getElem?]
    have:o+j<c.size:=by omega
    simp [this])
   have hE:((List.range (m*L.sz)).map fun j=>c.getD (o+j) undef).toArray=c.extract o (o+m*L.sz):=by
    apply Array.ext
    ·simp;omega
    ·intro i h1 h2
     simp at h1
     have:o+i<c.size:=by omega
     simp [Array.getD_eq_getD_getElem?,this]
   rw [hE] at hl
   exact hl
  ·rw [Array.all_eq_true_iff_forall_mem]
   intro y hy
   obtain ⟨k,hk⟩:=Array.mem_iff_getElem?.1 hy
   rw [cP] at hk
   split at hk
   ·rename_i hk'
    obtain ⟨y',h1,h2⟩:=hcell k hk'
    rw [h1] at hk;cases hk;exact h2
   ·cases hk
  ·obtain ⟨x,hx,hp⟩:=hel i hi
   refine ⟨x,?_,hp⟩
   have hi2:i*L.sz+L.sz≤m*L.sz:=by
    have:=Nat.mul_le_mul_right L.sz (show i+1≤m by omega);rwa [Nat.succ_mul] at this
   rw [← hx]
   refine eJ (by simp;omega) S fun j hj => ?_
   rw [cP,if_pos S]; congr 1;omega
theorem nl (need:Nat) : ∀ (r c:Nat),c≤2*need+1000→(c<need→True)→Builtin.growBy need r c≤2*need+1000
 | 0, c, h, _ => h
 | r + 1, c, h, _ => by
  rw [Builtin.growBy]
  split
  ·exact h
  ·exact nl need r _ S (fun _=>trivial)
theorem qL {need cap:Nat} (h:cap<need):Builtin.nextslicecap need cap≤2*need+1000:=by
 unfold Builtin.nextslicecap
 split
 ·omega
 ·split
  ·omega
  ·exact nl need 4 cap S (fun _=>trivial)
theorem Ext.drew (w:World):Ext w w.drew:=(Below.refl _ _).drew
theorem qM {T e:TypeId} {L:Lay} {z:Value} {by':Nat} [hS:SliceOf P T e] [hL:LayOf P e L] [hZ:ZeroOf P e z by'] {ψ:Nat→VT} [hF : ∀ q,Flat (ψ q) L] {w:World} {h h2:Hp} {sv:Option Nat} {n cap m cap2:Nat} {φ:Nat→VT} {a:Option Addr} {rt:TypeId}
  (hsz:0<L.sz) (hzs:z.cells.size=L.sz) (ho:(a8 sv e L cap n φ).p (raw w) h) (hle:Hp.le h2 (cC w))
  (he : ∀ i,i<m → ∃ b o c T f x,a=some ⟨b,o,none⟩∧h2 b=some (c,T,f)∧bP L c (o+i*L.sz)=some x∧(ψ i).p x h2)
  (hb:(2*(n+m)+1000)*by'≤2^48) (hnm:n+m≤2^48) (h12:Hp.le h2 h) :
  ∃ sv' cap' w',(Builtin.append_ #[T,T] rt #[slV sv n cap, .slice a m cap2]).run P w = .ok (slV sv' (n+m) cap') w'∧(a8 sv' e L cap' (n+m) (fun i=>if i<n then φ i else ψ (i - n))).p (raw w') h ∧
   ((sv'=sv∧(w'=w ∨ ∃ b c',sv=some b∧w'=w.setRow b c'))∨(sv'=some w.heap.size ∧ ∃ c',w'=w.drew.alloc (.cells c' e))):=by
 obtain ⟨g1,g2,g3,g4⟩:=ho
 obtain ⟨ti,hti,htz,htb⟩:=hZ.info
 have hsl:=hS.und
 have hund:(underlying T).run P w = .ok (.slice e) w:=bj hsl w
 obtain ⟨new,hn1,hn2,hn3,hn4⟩:=iK (P:=P) (cap:=cap2) hle hsz he
 have hsize:=cJ (P:=P) (T:=e) (L:=L) w
 have hnew' : ∀ i,i<m → ∃ x,bP L new (i*L.sz)=some x∧(ψ i).p x h:=fun i hi=>let ⟨x,hx,hp⟩:=hn4 i hi;⟨x,hx,(ψ i).mono h12 hp⟩
 have hmat:(match (TypeDesc.slice e) with | .int _=>true | _=>false)=false:=rfl
 by_cases hfit:n+m≤cap
 ·-- there is room
  cases sv with
  | none =>
   have hc0:cap=0:=g3 Z
   have hm0:m=0:=by omega
   have hn0:n=0:=by omega
   subst hm0 hn0 hc0
   refine ⟨none,0,w,?_,⟨by omega,by omega,fun _=>rfl,fun b hb=>by cases hb⟩, .inl ⟨rfl, .inl Z⟩⟩
   simp [Builtin.append_,slV,hund,hsize,Builtin.lenOf,hn1]
  | some b =>
   obtain ⟨c,hc,hcs,hce⟩:=g4 b Z
   have hrm:n*L.sz+new.size≤c.size:=by
    rw [hn2,hcs, ← Nat.add_mul]; exact Nat.mul_le_mul_right _ hfit
   have hst:=run_storeCells_at (P:=P) b (n*L.sz) e new.toList 0 c w (fb hc) (by simp;omega) (fun x hx=>(Array.all_eq_true_iff_forall_mem.1 hn3) x (by simpa using hx))
   simp only [Nat.add_zero,Array.length_toList] at hst
   refine ⟨some b,cap,w.setRow b (cD c (n*L.sz) new),?_,⟨hfit,hnm,fun hh=>(by cases hh),fun b' hb' => ?_⟩, .inl ⟨rfl, .inr ⟨b,_,rfl,rfl⟩⟩⟩
   ·simp [Builtin.append_,slV,hund,hsize,Builtin.lenOf,hn1,hfit,dH,hst,cD]
   ·cases hb'
    refine ⟨_,dJ hc,by rw [cT hrm]; exact hcs,fun i hi => ?_⟩
    by_cases hin:i<n
    ·simp only [hin,if_true]
     obtain ⟨x,hx,hp⟩:=hce i hin
     refine ⟨x,?_,hp⟩
     rw [dF hrm]; · exact hx
     left
     have:=Nat.mul_le_mul_right L.sz (show i+1≤n by omega);rwa [Nat.succ_mul] at this
    ·simp only [hin,if_false]
     obtain ⟨x,hx,hp⟩:=hnew' (i - n) S
     refine ⟨x,?_,hp⟩
     rw [← hx]
     have e1:i*L.sz=n*L.sz+(i - n)*L.sz:=by rw [← Nat.add_mul]; congr 1;omega
     have e2:(i - n)*L.sz+L.sz≤m*L.sz:=by
      have:=Nat.mul_le_mul_right L.sz (show (i - n)+1≤m by omega);rwa [Nat.succ_mul] at this
     refine eJ (by rw [cT hrm]; omega) S fun j hj => ?_
     rw [dT hrm,if_pos S]; congr 1;omega
 ·-- a new array
  have hold : ∃ old:Array Value,(Builtin.firstCells L.sz n (slV sv n cap)).run P w.drew = .ok old w.drew∧old.size=n*L.sz ∧ ∀ i,i<n → ∃ x,bP L old (i*L.sz)=some x∧(φ i).p x h:=by
   cases sv with
   | none =>
    have hc0:cap=0:=g3 Z
    have hn0:n=0:=by omega
    subst hn0
    exact ⟨#[],by simp [Builtin.firstCells,slV],by simp,fun i hi=>by omega⟩
   | some b =>
    obtain ⟨c,hc,hcs,hce⟩:=g4 b Z
    have hcn:n*L.sz≤c.size:=by rw [hcs]; exact Nat.mul_le_mul_right _ g1
    refine ⟨c.extract 0 (n*L.sz),?_,by simp;omega,fun i hi => ?_⟩
    ·have hc':cC w.drew b=some (c,e,(0,0)):=hc
     have hl:=run_loadCells (P:=P) w.drew ⟨b,0,none⟩ (n*L.sz) (fun j=>c.getD j undef) (fun j hj=>by
      rw [dH,iY hc',Array.getD_eq_getD_getElem?,Nat.zero_add]
      have:j<c.size:=by omega
      simp [this])
     have hE:((List.range (n*L.sz)).map fun j=>c.getD j undef).toArray=c.extract 0 (n*L.sz):=by
      apply Array.ext
      ·simp;omega
      ·intro i h1 h2
       simp at h1
       have:i<c.size:=by omega
       simp [Array.getD_eq_getD_getElem?,this]
     rw [hE] at hl
     exact hl
    ·obtain ⟨x,hx,hp⟩:=hce i hi
     refine ⟨x,?_,hp⟩
     have e2:i*L.sz+L.sz≤n*L.sz:=by
      have:=Nat.mul_le_mul_right L.sz (show i+1≤n by omega);rwa [Nat.succ_mul] at this
     rw [← hx]
     refine eJ (by simp;omega) S fun j hj => ?_
     have:=cP c 0 (n*L.sz) (i*L.sz+j)
     rw [Nat.zero_add,Nat.zero_add] at this
     rw [this,if_pos S]
  obtain ⟨old,ho1,ho2,ho3⟩:=hold
  have hnc:=qL (show cap<n+m by omega)
  have hnb : ¬ (Builtin.nextslicecap (n+m) cap*by'>2^48):=by
   have:=Nat.mul_le_mul_right by' hnc;omega
  obtain ⟨new2,hn1',hn2',hn3',hn4'⟩:=iK (P:=P) (w:=w.drew) (cap:=cap2) (h:=h2) hle hsz he
  let nc:=(Question.appendCap (n+m) cap e).cut (w.tape w.drawn (.appendCap (n+m) cap e))
  have hnc2:n+m≤nc:=by show n+m≤(n+m)+_;omega
  have hzr:=ZeroOf.run (P:=P) (T:=e) (z:=z)
  refine ⟨some w.heap.size,nc,w.drew.alloc (.cells (old ++ new2 ++ Builtin.zeroCells z.cells (nc - (n+m))) e),?_,⟨hnc2,hnm,fun hh=>(by cases hh),fun b' hb' => ?_⟩, .inr ⟨rfl,_,rfl⟩⟩
  ·have hn' : ¬ (n+m≤cap):=hfit
   have h63' : ¬ (9223372036854775807<((n:Int)+(m:Int))):=by omega
   have h48' : ¬ (281474976710656<Builtin.nextslicecap (n+m) cap*ti.bytes):=by rw [htb]; simpa using hnb
   have htis:ti.size=L.sz:=by
    obtain ⟨ti',k1,k2⟩:=hL.info
    rw [hti] at k1;cases k1;exact k2
   simp only [slV] at ho1 ⊢
   simp [Builtin.append_,bj hsl,Go.sizeOf,typeInfo,zeroValue,hti,htz,htis,Builtin.lenOf,hn',h63',h48',Question.forced,hn1',ho1,newRow]
   exact ⟨rfl,rfl⟩
  ·cases hb'
   refine ⟨_,cz w.drew _ _ _,?_,fun i hi => ?_⟩
   ·simp only [Array.size_append,ho2,hn2',Builtin.zeroCells,Array.size_map,Array.size_range,hzs, ← Nat.add_mul]
    congr 1;omega
   ·have key : ∀ (k:Nat),k<(n+m)*L.sz→(old ++ new2 ++ Builtin.zeroCells z.cells (nc - (n+m)))[k]? = if k<n*L.sz then old[k]? else new2[k - n*L.sz]? := by
     intro k hk
     rw [Nat.add_mul] at hk
     rw [Array.getElem?_append_left (by simp only [Array.size_append]; omega),Array.getElem?_append]
     simp only [ho2]
    have hsz2:(n+m)*L.sz≤(old ++ new2 ++ Builtin.zeroCells z.cells (nc - (n+m))).size:=by
     simp only [Array.size_append,ho2,hn2',Nat.add_mul]; omega
    have hi2:i*L.sz+L.sz≤(n+m)*L.sz:=by
     have:=Nat.mul_le_mul_right L.sz (show i+1≤n+m by omega);rwa [Nat.succ_mul] at this
    by_cases hin:i<n
    ·simp only [hin,if_true]
     obtain ⟨x,hx,hp⟩:=ho3 i hin
     refine ⟨x,?_,hp⟩
     have e2:i*L.sz+L.sz≤n*L.sz:=by
      have:=Nat.mul_le_mul_right L.sz (show i+1≤n by omega);rwa [Nat.succ_mul] at this
     rw [← hx]
     exact eJ S S fun j hj=>by rw [key _ S,if_pos S]
    ·simp only [hin,if_false]
     obtain ⟨x,hx,hp⟩:=hn4' (i - n) S
     refine ⟨x,?_,(ψ _).mono h12 hp⟩
     have e1:i*L.sz=n*L.sz+(i - n)*L.sz:=by rw [← Nat.add_mul]; congr 1;omega
     have e2:(i - n)*L.sz+L.sz≤m*L.sz:=by
      have:=Nat.mul_le_mul_right L.sz (show (i - n)+1≤m by omega);rwa [Nat.succ_mul] at this
     rw [← hx]
     refine eJ S S fun j hj => ?_
     rw [key _ S,if_neg S]; congr 1;omega
theorem St.renew {a:Act} {w:World} (hS:St E D Γ M a w) {j:Nat} {o o':Own} (hM:M[j]? = some o) {c:Array Value} {T:TypeId} (hbl:o'.bl = [w.heap.size])
  (hp:o'.p (raw (w.drew.alloc (.cells c T))) (hv E M w)) {d:Nat} (hd:d<E.N) {v:Value} {ψ:VT} (hv':ψ.p v (hv E M w)) :
  St E D ((d, ψ) :: Γ) (M.set j o') (a.put (some d) v) (w.drew.alloc (.cells c T)):=by
 have k:Ext w w.drew:=Ext.drew w
 have hS':St E D Γ M a w.drew:=⟨hS.base.ext k,hS.sz,hS.df,fun t φ h=>φ.mono (Base.hv_ext k) (hS.tm t φ h)⟩
 have h1:=hS'.alloc (o:=o') (c:=c) (T:=T) (d:=d) (v:=v) (ψ:=ψ) hbl hp hd hv'
 -- the entry is moved from the front to its place
 have hlt:=(List.getElem?_eq_some_iff.1 hM).1
 have hmem : ∀ q∈M.set j o',q∈o' :: M:=by
  intro q hq
  rcases List.mem_or_eq_of_mem_set hq with h | h
  ·exact List.mem_cons_of_mem _ h
  ·subst h;exact List.mem_cons_self
 have hblk : ∀ {M:Mem} {j:Nat},j<M.length → ∀ b,b∈bf (M.set j o')→b∈bf (o' :: M):=by
  intro M j hj b hb
  obtain ⟨q,hq,hbq⟩:=List.mem_flatMap.1 hb
  rcases List.mem_or_eq_of_mem_set hq with h | h
  ·exact List.mem_flatMap.2 ⟨q,List.mem_cons_of_mem _ h,hbq⟩
  ·subst h;exact List.mem_flatMap.2 ⟨_,List.mem_cons_self,hbq⟩
 have hnd : ∀ {M:Mem} {j:Nat},j<M.length→(bf (o' :: M)).Nodup→(bf (M.set j o')).Nodup:=by
  intro M
  induction M with
  | nil => intro j hj; simp at hj
  | cons x M ih =>
   intro j hj hn
   simp only [blks_cons] at hn
   rw [← List.append_assoc,List.nodup_append,List.nodup_append] at hn
   obtain ⟨⟨n1,n2,n3⟩,n4,n5⟩:=hn
   cases j with
   | zero =>
    simp only [List.set_cons_zero,blks_cons,List.nodup_append]
    exact ⟨n1,n4,fun a ha b hb=>n5 a (List.mem_append.2 (.inl ha)) b hb⟩
   | succ j =>
    simp only [List.set_cons_succ,blks_cons,List.nodup_append]
    have hj':j<M.length:=by simpa using hj
    refine ⟨n2,ih hj' ?_,fun a ha b hb => ?_⟩
    ·simp only [blks_cons,List.nodup_append]
     exact ⟨n1,n4,fun a ha b hb=>n5 a (List.mem_append.2 (.inl ha)) b hb⟩
    ·have:=hblk hj' b hb
     simp only [blks_cons,List.mem_append] at this
     rcases this with h | h
     ·exact fun e=>n3 b h a ha e.symm
     ·exact n5 a (List.mem_append.2 (.inr ha)) b h
 have hle:Hp.le (hv E (o' :: M) (w.drew.alloc (.cells c T))) (hv E (M.set j o') (w.drew.alloc (.cells c T))):=kG fun b hb=>hblk hlt b hb
 refine ⟨⟨fun q hq=>q.loc (fun _ _=>rfl) hle (h1.base.mem q (hmem q hq)),hnd hlt h1.base.nd,fun b hb=>h1.base.dis b (hblk hlt b hb),fun b hb=>h1.base.lo b (hblk hlt b hb),fun b hb=>h1.base.ex b ?_,h1.base.fr⟩,h1.sz,h1.df,fun t φ h=>φ.mono hle (h1.tm t φ h)⟩
 rcases List.mem_append.1 hb with h | h
 ·exact List.mem_append.2 (.inl h)
 ·exact List.mem_append.2 (.inr (hblk hlt b h))
theorem fD {T e:TypeId} {L:Lay} {z:Value} {by':Nat} [hS:SliceOf P T e] [hL:LayOf P e L] [hZ:ZeroOf P e z by'] [hFz:Flat (one z) L] {x y:Operand} {sv:Option Nat} {n cap m d:Nat} {φ ψ:Nat→VT} [hF : ∀ q,Flat (ψ q) L] (j:Nat)
  (hx:aO Γ x=some (one (slV sv n cap))) (hM:M[j]? = some (a8 sv e L cap n φ)) (hy:aO Γ y=some (slT L m ψ)) (hsz:0<L.sz) (hb:(2*(n+m)+1000)*by'≤2^48) (hnm:n+m≤2^48)
  (hi:ops[i]? = some ⟨some d, .call ⟨.builtin .append, #[x,y], #[T,T]⟩,ty,pos,af,none⟩) (hd:d<E.N)
  (h : ∀ sv' cap',Run P E ops false (i+1) D ((d,one (slV sv' (n+m) cap')) :: Γ) (M.set j (a8 sv' e L cap' (n+m) (fun q=>if q<n then φ q else ψ (q - n)))) os K) :
  Run P E ops false i D Γ M (⟨some d, .call ⟨.builtin .append, #[x,y], #[T,T]⟩,ty,pos,af,none⟩ :: os) K:=by
 refine Run.one (K':=fun D' Γ' M' => ∃ sv' cap',D'=D∧Γ'=(d,one (slV sv' (n+m) cap')) :: Γ∧M'=M.set j (a8 sv' e L cap' (n+m) (fun q=>if q<n then φ q else ψ (q - n)))) Z (fun a w hSt => ?_) (fun D' Γ' M' ⟨sv',cap',h1,h2,h3⟩=>by subst h1 h2 h3;exact h sv' cap') hi
 have h1:a.eval x=slV sv n cap:=cS hSt hx
 obtain ⟨ad,cap2,h2,h3,h4,he⟩:=cS hSt hy
 have ho:=dZ hSt.base hM
 obtain ⟨z1,_,_⟩:=hFz.ok z (fun _=>none) Z
 obtain ⟨sv',cap',w',hr,hp,hw⟩:=qM (P:=P) (T:=T) (e:=e) (rt:=ty) (cap2:=cap2) hsz z1 ho (qG _ _) he hb hnm (Hp.le_refl _)
 refine ⟨.ok (.value (slV sv' (n+m) cap')) w',?_,D,_,_,⟨sv',cap',rfl,rfl,rfl⟩,?_⟩
 ·simp only [execOp,resolve,invoke,builtin,Sem.run_bind,Sem.run_pure,Result.andThen_ok,List.map_toArray,List.map_cons,List.map_nil,h1,h2,hr]
 ·show St E D _ _ (a.put (some d) _) _
  rcases hw with ⟨rfl,hw⟩ | ⟨hs,c',rfl⟩
  ·have hSt2:St E D Γ (M.set j (a8 sv' e L cap' (n+m) (fun q=>if q<n then φ q else ψ (q - n)))) a w':=by
    refine hSt.own hM Z ?_ ?_ ?_ ?_ ?_ hp
    ·intro k hk
     rcases hw with rfl | ⟨b,c',hb',rfl⟩
     ·rfl
     ·exact db _ _ _ _ (by intro e';apply hk;simp [a8,hb',e'])
    all_goals (rcases hw with rfl | ⟨b,c',hb',rfl⟩ <;> first | rfl | exact dK _ _ _)
   exact hSt2.put (Ext.refl _) hd Z
  ·exact hSt.renew hM (by simp [a8,hs]) hp hd Z
/-! ### Slice literals -/
inductive PartsOk (Γ:Ctx) (L:Lay):Nat→List (Nat × Operand)→List VT→Prop
 | nil {k} : PartsOk Γ L k [] []
 | cons {k x r φ φs} [hF : Flat φ L] : aO Γ x = some φ → PartsOk Γ L (k + 1) r φs → PartsOk Γ L k ((k, x) :: r) (φ :: φs)
theorem PartsOk.len {L:Lay} {k:Nat} {r:List (Nat × Operand)} {φs:List VT} (h:PartsOk Γ L k r φs):φs.length=r.length:=by
 induction h with
 | nil => rfl
 | cons _ _ ih => simp [ih]
theorem l6 {L:Lay} {a:Act} {h:Hp} {m:Nat} {r:List (Nat × Operand)} {φs:List VT} {k:Nat} (hp:PartsOk Γ L k r φs) :
  ∀ (c:Array Value),(∀ x φ,x∈r.map (·.2)→aO Γ x=some φ→φ.p (a.eval x) h)→c.size=m→k*L.sz+r.length*L.sz≤m →
  ∃ c',Instr.fill (fun i=>some (i*L.sz,L.sz)) c (r.map fun (i,x)=>(i,a.eval x))=some c'∧c'.size=m ∧
   (∀ q,q<k→bP L c' (q*L.sz)=bP L c (q*L.sz)) ∧ ∀ q φ, φs[q]? = some φ → ∃ x,bP L c' ((k+q)*L.sz)=some x∧φ.p x h:=by
 induction hp with
 | nil => intro c _ hs _; exact ⟨c, rfl, hs, fun _ _ => rfl, fun q φ e => by simp at e⟩
 | @cons k x r φ φs hF hx hr ih =>
  intro c hf hs hle
  have hpv:=hf x φ (by simp) hx
  obtain ⟨f1,f2,f3⟩:=hF.ok _ _ hpv
  simp only [List.length_cons,Nat.add_mul,Nat.one_mul] at hle
  have hfit:k*L.sz+(a.eval x).cells.size≤c.size:=by rw [f1,hs]; omega
  obtain ⟨c',k1,k2,k3,k4⟩:=ih (cD c (k*L.sz) (a.eval x).cells) (fun y ψ hy he=>hf y ψ (by simp at hy ⊢; exact .inr hy) he) (by rw [cT hfit]; exact hs) (by rw [Nat.add_mul,Nat.one_mul]; omega)
  refine ⟨c',?_,k2,fun q hq => ?_,fun q ψ e => ?_⟩
  ·simp only [List.map_cons,Instr.fill]
   rw [if_neg (by simp [f1]; omega),hP _ _ _ hfit]; exact k1
  ·rw [k3 q S,dF hfit]
   left
   have:=Nat.mul_le_mul_right L.sz (show q+1≤k by omega);rwa [Nat.succ_mul] at this
  ·cases q with
   | zero =>
    simp at e;subst e
    refine ⟨a.eval x,?_,hpv⟩
    rw [Nat.add_zero,k3 k S]; exact dY (by rw [hs]; omega) f1 f3
   | succ q =>
    simp at e
    obtain ⟨v,hv1,hv2⟩:=k4 q ψ e
    exact ⟨v,by rw [show k+(q+1)=k+1+q by omega]; exact hv1,hv2⟩
theorem iL {T e:TypeId} {L:Lay} {z:Value} {by' n:Nat} [hS:SliceOf P T e] [hL:LayOf P e L] [hZ:ZeroOf P e z by'] {parts:Array (Nat × Value)} {c':Array Value} {w:World} (hn:n*L.sz≤2^24) (hzs:z.cells.size=L.sz)
  (h:Instr.fill (fun i=>some (i*L.sz,L.sz)) (dR z.cells (n*L.sz)) parts.toList=some c') :
  (Instr.buildSlice T n parts).run P w = .ok (.slice (some ⟨w.heap.size,0,none⟩) n n) (w.alloc (.cells c' e)):=by
 unfold Instr.buildSlice
 have hn' : ¬ (n*L.sz>2^24):=by omega
 simp only [Sem.run_bind,bj hS.und,Result.andThen_ok,cJ (L:=L),if_neg hn',Sem.run_pure]
 by_cases h0:n*L.sz=0
 ·simp only [if_pos h0,Sem.run_bind,Sem.run_pure,Result.andThen_ok]
  have e0:(Array.range (n*L.sz)).map (fun x=>(#[]:Array Value)[x % (#[]:Array Value).size]!)=dR z.cells (n*L.sz):=by rw [h0]; simp [dR]
  rw [e0,h]
  simp only [Sem.run_bind,g9,Result.andThen_ok,Sem.run_pure]
 ·have hz:=ZeroOf.run (P:=P) (T:=e) (z:=z) w
  simp only [if_neg h0,Sem.run_bind,hz,Result.andThen_ok,Sem.run_pure]
  have e0:(Array.range (n*L.sz)).map (fun x=>z.cells[x % z.cells.size]!)=dR z.cells (n*L.sz):=rfl
  rw [e0,h]
  simp only [Sem.run_bind,g9,Result.andThen_ok,Sem.run_pure]
theorem pr {w:World} {c:Array Value} {T:TypeId} (hb:Base E M w):hid (E.O ++ bf M) (cC (w.alloc (.cells c T))) w.heap.size=some (c,T,(0,0)) :=
 iF (fun h=>by have:=hb.ex _ h;omega) (cz w c T _)
theorem ia {T e:TypeId} {L:Lay} {z:Value} {by' n:Nat} [hS:SliceOf P T e] [hL:LayOf P e L] [hZ:ZeroOf P e z by'] [hFz:Flat (one z) L] {parts:Array (Nat × Operand)} {φs:List VT}
  (h:PartsOk Γ L 0 parts.toList φs) (hn:parts.size=n) (hsm:n*L.sz≤2^24) (hsz:0<L.sz):aQ P E Γ M ⟨d, .buildSlice T n parts,ty,pos,af,gd⟩ (slT L n (fun q=>φs.getD q bS)) :=
 aQ.ofRun' fun a w hb hf=>by
  obtain ⟨z1,_,_⟩:=hFz.ok z (fun _=>none) Z
  have hlen:=h.len
  have hn48:n≤2^24:=by
   have:=Nat.le_mul_of_pos_right n hsz;omega
  obtain ⟨c',k1,k2,_,k4⟩:=l6 (a:=a) (h:=hv E M w) (m:=n*L.sz) h (dR z.cells (n*L.sz)) (fun x φ hx he=>hf x φ (by simpa [Op.operands] using hx) he) (eI _ _) (by simp [hn])
  have hr:=iL (P:=P) (T:=T) (w:=w) (parts:=parts.map fun (i,x)=>(i,a.eval x)) hsm z1 (by rw [Array.toList_map]; exact k1)
  refine ⟨.slice (some ⟨w.heap.size,0,none⟩) n n,w.alloc (.cells c' e),?_,Ext.alloc w _,?_⟩
  ·simp only [execOp,Sem.run_bind,hr,Result.andThen_ok,Sem.run_pure]
  ·refine ⟨_,_,rfl,Nat.le_refl _,by omega,fun q hq => ?_⟩
   have hq':q<φs.length:=by rw [hlen]; simp [hn]; exact hq
   obtain ⟨x,hx,hp⟩:=k4 q φs[q] (by simp [hq'])
   refine ⟨w.heap.size,0,c',e,(0,0),x,rfl,pr hb,by simpa using hx,?_⟩
   have:φs.getD q bS=φs[q]:=by simp [List.getD,hq']
   show (φs.getD q bS).p x _
   rw [this]; exact (φs[q]).mono (Base.hv_ext (Ext.alloc w _)) hp
theorem nY {T e:TypeId} {L:Lay} {z:Value} {by' n d:Nat} [hS:SliceOf P T e] [hL:LayOf P e L] [hZ:ZeroOf P e z by'] [hFz:Flat (one z) L] {parts:Array (Nat × Operand)} {φs:List VT}
  (h:PartsOk Γ L 0 parts.toList φs) (hn:parts.size=n) (hsm:n*L.sz≤2^24) (hsz:0<L.sz) (hi:ops[i]? = some ⟨some d, .buildSlice T n parts,ty,pos,af,none⟩) (hd:d<E.N)
  (hr : ∀ b,Run P E ops false (i+1) D ((d,one (slV (some b) n n)) :: Γ) (a8 (some b) e L n n (fun q=>φs.getD q bS) :: M) os K) :
  Run P E ops false i D Γ M (⟨some d, .buildSlice T n parts,ty,pos,af,none⟩ :: os) K:=by
 refine Run.one (K':=fun D' Γ' M' => ∃ b,D'=D∧Γ'=(d,one (slV (some b) n n)) :: Γ∧M'=a8 (some b) e L n n (fun q=>φs.getD q bS) :: M) Z (fun a w hSt => ?_) (fun D' Γ' M' ⟨b,h1,h2,h3⟩=>by subst h1 h2 h3;exact hr b) hi
 obtain ⟨z1,_,_⟩:=hFz.ok z (fun _=>none) Z
 have hlen:=h.len
 have hn48:n≤2^24:=by
  have:=Nat.le_mul_of_pos_right n hsz;omega
 obtain ⟨c',k1,k2,_,k4⟩:=l6 (a:=a) (h:=hv E M w) (m:=n*L.sz) h (dR z.cells (n*L.sz)) (fun x φ hx he=>cS hSt he) (eI _ _) (by simp [hn])
 have hr':=iL (P:=P) (T:=T) (w:=w) (parts:=parts.map fun (i,x)=>(i,a.eval x)) hsm z1 (by rw [Array.toList_map]; exact k1)
 refine ⟨.ok (.value (slV (some w.heap.size) n n)) (w.alloc (.cells c' e)),?_,D,_,_,⟨w.heap.size,rfl,rfl,rfl⟩,?_⟩
 ·simp only [execOp,Sem.run_bind,hr',Result.andThen_ok,Sem.run_pure]; rfl
 ·refine hSt.alloc (o:=a8 (some w.heap.size) e L n n (fun q=>φs.getD q bS)) Z ⟨Nat.le_refl _,by omega,(fun h=>by cases h),fun b hb => ?_⟩ hd Z
  cases hb
  refine ⟨c',cz w _ _ _,k2,fun q hq => ?_⟩
  have hq':q<φs.length:=by rw [hlen]; simp [hn]; exact hq
  obtain ⟨x,hx,hp⟩:=k4 q φs[q] (by simp [hq'])
  have:φs.getD q bS=φs[q]:=by simp [List.getD,hq']
  exact ⟨x,by simpa using hx,by show (φs.getD q bS).p x _;rw [this]; exact hp⟩
end
end Tor
namespace Tor
open Go Go.RowKit
section
variable {P:Program} {E:Env} {D:List Deferred} {Γ:Ctx} {M:Mem} {ops:Array Oper} {i:Nat} {ty:TypeId} {pos:String} {af:Array Edge} {os:List Oper} {K:List Deferred→Ctx→Mem→Prop}
theorem a7 {T:TypeId} {m d:Nat} {z:Array Value} {pl:List (Nat × Lay)} [hB:BuildOf P T m z pl] (hz:(pl.all fun q=>(bP q.2 z q.1).isSome)=true) (hi:ops[i]? = some ⟨some d, .alloc T,ty,pos,af,none⟩) (hd:Nat.ble (d+1) E.N=true)
  (h : ∀ b,Run P E ops false (i+1) D ((d,one (.pointer (some ⟨b,0,none⟩))) :: Γ) (aX b T m (dw z pl) :: M) os K) :
  Run P E ops false i D Γ M (⟨some d, .alloc T,ty,pos,af,none⟩ :: os) K:=by
 refine Run.one (K':=fun D' Γ' M' => ∃ b,D'=D∧Γ'=(d,one (.pointer (some ⟨b,0,none⟩))) :: Γ∧M'=aX b T m (dw z pl) :: M) Z (fun a w hS => ?_) (fun D' Γ' M' ⟨b,h1,h2,h3⟩=>by subst h1 h2 h3;exact h b) hi
 refine ⟨.ok (.value (.pointer (some ⟨w.heap.size,0,none⟩))) (w.alloc (.cells z T)),?_,D,_,_,⟨w.heap.size,rfl,rfl,rfl⟩,?_⟩
 ·have hz:=hB.zero w
  simp [execOp,Instr.alloc,Sem.run_bind,hz,newVar,newRow,newObj,Sem.run,Value.cells]
 ·exact hS.alloc (o:=aX w.heap.size T m (dw z pl)) Z ⟨z,cz w _ _ _,hB.zs,hB.zo,jS hz⟩ (ltN hd) Z
theorem leN {a b:Nat} (h:Nat.ble a b=true):a≤b:=Nat.le_of_ble_eq_true h
end
end Tor
namespace Tor
open Go Go.RowKit
section
variable {P:Program} {E:Env} {D:List Deferred} {Γ:Ctx} {M:Mem} {Q:Exit→Act→World→Prop}
theorem t3 {c:Code} {t:Nat} {F:Prop} {φ:VT} (ht:bJ Γ t=some (cE F φ)) (h:F→J P E D ((t, φ) :: Γ) M c Q):J P E D Γ M c Q :=
 gC ht (fun _ _ h=>h.1) fun hF=>jN ht (fun _ _ h=>h.2) (h hF)
def Ok (P:Program) (f:FuncId) (φs:List VT) (ψ:VT):Prop :=
 ∀ (w:World) (O:List Nat) (vs:List Value),(∀ b∈O,b<w.heap.size)→f0 φs vs (hid O (cC w))→Calls P f vs.toArray w (Ret O ψ w)
theorem Ok.enter {f:FuncId} {fn:Func} {c:Code} {N:Nat} {φs:List VT} {ψ:VT} (hf:P.funcs[f]? = some fn) (hb:fn.body=some c) (hN:fn.ntmps=N) (hle:Nat.ble φs.length N=true)
  (h : ∀ (w:World) (O:List Nat),J P ⟨w,O, [],N,none⟩ [] (gD 0 φs) [] c (bodyPost P fn (Ret O ψ w))):Ok P f φs ψ :=
 fun w O vs hO hv=>Tor.js hf hb hN hO hv (Nat.le_of_ble_eq_true hle) (h w O)
def gK:List VT→List VT→Prop
 | [], [] => True
 | φ :: φs, ψ :: ψs => VT.le φ ψ ∧ gK φs ψs
 | _, _ => False
theorem fO {h:Hp} : ∀ {φs ψs:List VT} {vs:List Value},gK φs ψs→f0 φs vs h→f0 ψs vs h
 | [], [], _, _, hp => hp
 | _ :: _, _ :: _, _ :: _, ⟨h1, h2⟩, ⟨p1, p2⟩ => ⟨h1 _ _ p1, fO h2 p2⟩
 | [], _ :: _, _, h, _ => h.elim
 | _ :: _, [], _, h, _ => h.elim
theorem fg : ∀ φs:List VT,gK φs φs
 | [] => trivial
 | _ :: φs => ⟨W, fg φs⟩
theorem Ok.le {f:FuncId} {φs φs':List VT} {ψ ψ':VT} (h:Ok P f φs ψ) (hl:gK φs' φs) (hr:VT.le ψ ψ'):Ok P f φs' ψ' :=
 fun w O vs hO hv=>(h w O vs hO (fO hl hv)).mono fun e w' ⟨v,h1,h2,h3⟩=>⟨v,h1,hr _ _ h2,h3⟩
variable {d:Option Tmp} {ty:TypeId} {pos:String} {af:Array Edge} {gd:Option (Nat × Bool)}
theorem am {f:FuncId} [hF:Fn P f] {xs:Array Operand} {ats:Array TypeId} {φs φs':List VT} {ψ:VT} (h:Ok P f φs' ψ) (hx:f8 Γ xs.toList=some φs) (hle:gK φs φs') :
  aQ P E Γ M ⟨d, .call ⟨.value (.func f),xs,ats⟩,ty,pos,af,gd⟩ ψ :=
 w6 hx fun w vs hO hp=>h w _ vs hO (fO hle hp)
theorem jT {F:Prop} {φ ψ:VT} (hF:F) (h:VT.le φ ψ):VT.le φ (cE F ψ):=fun v g h2=>⟨hF,h v g h2⟩
theorem l7 {α:Type} {φ:VT} {ψ:α→VT} (x:α) (h:VT.le φ (ψ x)):VT.le φ (exT ψ):=fun v g h2=>⟨x,h v g h2⟩
theorem jt {φ ψ:VT} (h:φ=ψ):VT.le φ ψ:=h▸VT.le_refl _
theorem ej {m:Nat} {cs cs':cf} (h : ∀ q∈cs', ∃ ψ,(q.1,q.2.1, ψ)∈cs∧VT.le ψ q.2.2):VT.le (bG m cs) (bG m cs') :=
 fun v g ⟨c,h1,h2,h3,h4⟩=>⟨c,h1,h2,h3,fun q hq=>let ⟨ψ,h5,h6⟩:=h q hq;let ⟨x,h7,h8⟩:=h4 _ h5;⟨x,h7,h6 _ _ h8⟩⟩
end
end Tor
end
section
set_option linter.unusedSectionVars false
namespace Tor
open Go Go.RowKit
section
variable {P:Program} {E:Env} {D:List Deferred} {Γ:Ctx} {M:Mem} {Q:Exit→Act→World→Prop}
variable {d:Option Tmp} {ty:TypeId} {pos:String} {af:Array Edge} {gd:Option (Nat × Bool)}
theorem fh {σ:Type} {c:Code} {n:Act→World→Prop} (G:σ→Ctx) (Ms:σ→Mem) (ok:σ→Prop)
  (h:J P E D Γ M c (Exit.then (fun a w => ∃ s,ok s∧St E D (G s) (Ms s) a w) Q)) (hy : ∀ s,ok s→PJ E D (G s) (Ms s) .normal (Exit.then n Q)):J P E D Γ M c (Exit.then n Q) :=
 fun a w hS=>(h a w hS).mono fun e a w hq=>by
  cases e <;> first | exact hq | (obtain ⟨s,hs,hS'⟩:=hq;exact hy s hs a w hS')
theorem gu {L:Lay} {φ:Nat→VT} : VT.le (one (.slice none 0 0)) (slT L 0 φ):=fun v h e=>by
 cases e;exact ⟨none,0,rfl,Nat.le_refl _,by decide,fun i hi=>by omega⟩
theorem eW {sv:Option Nat} {T:TypeId} {L:Lay} {cap n:Nat} {φ ψ:Nat→VT} (Ae : ∀ q,q<n→VT.le (φ q) (ψ q)):Own.le (a8 sv T L cap n φ) (a8 sv T L cap n ψ) :=
 ⟨rfl,fun g h ⟨h1,h2,h3,h4⟩=>⟨h1,h2,h3,fun b hb=>let ⟨c,hc,hs,he⟩:=h4 b hb;⟨c,hc,hs,fun i hi=>let ⟨x,hx,hp⟩:=he i hi;⟨x,hx,Ae i hi _ _ hp⟩⟩⟩⟩
theorem cy {sv:Option Nat} {T:TypeId} {L:Lay} {cap n:Nat} {φ ψ:Nat→VT} (Ae : ∀ q,q<n→φ q=ψ q):Own.le (a8 sv T L cap n φ) (a8 sv T L cap n ψ) :=
 eW fun q hq=>by rw [Ae q hq]; exact VT.le_refl _
theorem vD {b:Nat} {T:TypeId} {m:Nat} {cs cs':cf} (h : ∀ q∈cs', ∃ ψ,(q.1,q.2.1, ψ)∈cs∧VT.le ψ q.2.2):Own.le (aX b T m cs) (aX b T m cs') :=
 ⟨rfl,fun g k ⟨c,h1,h2,h3,h4⟩=>⟨c,h1,h2,h3,fun q hq=>let ⟨ψ,h5,h6⟩:=h q hq;let ⟨x,h7,h8⟩:=h4 _ h5;⟨x,h7,h6 _ _ h8⟩⟩⟩
theorem d5 {T T':TypeId} {x y:Operand} {a b:Nat} (hx:aO Γ x=some (one (.int .u64 (a:Int)))) (hy:aO Γ y=some (one (.int .u64 (b:Int)))) (h:a+b<18446744073709551616) :
  aQ P E Γ M ⟨d, .binOp .add T x y T',ty,pos,af,gd⟩ (one (.int .u64 ((a+b:Nat):Int))) :=
 cq hx hy (by rw [dL]; omega)
theorem gF {T T':TypeId} {x y:Operand} {a b:Nat} (hx:aO Γ x=some (one (.int .u64 (a:Int)))) (hy:aO Γ y=some (one (.int .u64 (b:Int)))) (h:a*b<18446744073709551616) :
  aQ P E Γ M ⟨d, .binOp .mul T x y T',ty,pos,af,gd⟩ (one (.int .u64 ((a*b:Nat):Int))) :=
 lk hx hy (by rw [dL, ← Int.natCast_mul]; omega)
theorem f9 {T T':TypeId} {x y:Operand} {a b:Nat} (hx:aO Γ x=some (one (.int .u64 (a:Int)))) (hy:aO Γ y=some (one (.int .u64 (b:Int)))) (ha:a<18446744073709551616) (hb:b<18446744073709551616) :
  aQ P E Γ M ⟨d, .binOp .sub T x y T',ty,pos,af,gd⟩ (one (.int .u64 (((a+18446744073709551616 - b) % 18446744073709551616:Nat):Int))) :=
 ey hx hy (by rw [dL]; omega)
theorem jz {T T':TypeId} {x y:Operand} {a b:Nat} (hx:aO Γ x=some (one (.int .u64 (a:Int)))) (hy:aO Γ y=some (one (.int .u64 (b:Int)))) (ha:a<18446744073709551616) (h0:b≠0) :
  aQ P E Γ M ⟨d, .binOp .quo T x y T',ty,pos,af,gd⟩ (one (.int .u64 ((a / b:Nat):Int))) :=
 xJ hx hy S (by
  rw [← Int.ofNat_tdiv,dL]
  have:=Nat.div_le_self a b
  generalize a / b=q at *
  omega)
theorem rG {T T':TypeId} {x:Operand} {a:Nat} (hx:aO Γ x=some (one (.int .u64 (a:Int)))) (ha:a<18446744073709551616) :
  aQ P E Γ M ⟨d, .binOp .quo T x (.const (.int .u64 4294967296)) T',ty,pos,af,gd⟩ (one (.int .u64 ((a / 4294967296:Nat):Int))) :=
 jz (b:=4294967296) hx Z ha Y
theorem aQ.le {o:Oper} {φ ψ:VT} (h:aQ P E Γ M o φ) (hle:VT.le φ ψ):aQ P E Γ M o ψ :=
 fun a w hb hx next Q hn=>h a w hb hx next Q (fun v w' he hp=>hn v w' he (hle v _ hp))
theorem bL {T T':TypeId} {k:IntKind} [IntOf P T k] [IntOf P T' .u64] {x:Operand} {k0:IntKind} {a:Nat} (hx:aO Γ x=some (one (.int k0 (a:Int)))) (h:a<18446744073709551616) :
  aQ P E Γ M ⟨d, .convert T T' x,ty,pos,af,gd⟩ (one (.int .u64 (a:Int))):=iI hx (by rw [dL]; omega)
theorem cM {T T':TypeId} {k:IntKind} [IntOf P T k] [IntOf P T' .u32] {x:Operand} {k0:IntKind} {a:Nat} (hx:aO Γ x=some (one (.int k0 (a:Int)))) :
  aQ P E Γ M ⟨d, .convert T T' x,ty,pos,af,gd⟩ (one (.int .u32 ((a % 4294967296:Nat):Int))):=iI hx (by rw [lZ]; omega)
theorem fP {T T':TypeId} {x:Operand} {k':IntKind} {a:Nat} (hx:aO Γ x=some (one (.int .u64 (a:Int)))) :
  aQ P E Γ M ⟨d, .binOp .shr T x (.const (.int k' 32)) T',ty,pos,af,gd⟩ (one (.int .u64 ((a / 4294967296:Nat):Int))) :=
 tZ hx Z Y (by
  show Int.fdiv (a:Int) (2^32)=_
  rw [Int.fdiv_eq_ediv_of_nonneg _ Y]; omega)
theorem nZ {T T':TypeId} {x:Operand} {k':IntKind} {a:Nat} (hx:aO Γ x=some (one (.int .u64 (a:Int)))) :
  aQ P E Γ M ⟨d, .binOp .shr T x (.const (.int k' 63)) T',ty,pos,af,gd⟩ (one (.int .u64 ((a / 9223372036854775808:Nat):Int))) :=
 tZ hx Z Y (by
  show Int.fdiv (a:Int) (2^63)=_
  rw [Int.fdiv_eq_ediv_of_nonneg _ Y]; omega)
theorem fy {T T':TypeId} {k:IntKind} [IntOf P T k] [IntOf P T' .i64] {x:Operand} {k0:IntKind} {a:Int} (hx:aO Γ x=some (one (.int k0 a))) (h1 : -9223372036854775808≤a) (h2:a≤9223372036854775807) :
  aQ P E Γ M ⟨d, .convert T T' x,ty,pos,af,gd⟩ (one (.int .i64 a)):=iI hx (aR h1 h2)
end
end Tor
namespace Tor
open Go Go.RowKit
section
variable {P:Program} {E:Env} {D:List Deferred} {Γ:Ctx} {M:Mem} {Q:Exit→Act→World→Prop}
variable {ops:Array Oper} {i:Nat} {ty:TypeId} {pos:String} {af:Array Edge} {os:List Oper} {K:List Deferred→Ctx→Mem→Prop} {gd:Option (Nat × Bool)} {dr:Bool}
inductive BuildK (Γ:Ctx) (pl:List (Nat × Lay)) (K:cf→Prop):cf→List (Nat × Operand)→Prop
 | nil {C} : K C → BuildK Γ pl K C []
 | cons {C i x r o L φ χ} [hF : Flat φ L] : pl[i]? = some (o, L) → aO Γ x = some φ → fC C o = some (L, χ) → BuildK Γ pl K (lY C o φ) r → BuildK Γ pl K C ((i, x) :: r)
theorem BuildK.ok {pl:List (Nat × Lay)} {K:cf→Prop} {C:cf} {r:List (Nat × Operand)} (h:BuildK Γ pl K C r) : ∃ C',BuildOk Γ pl C r C'∧K C':=by
 induction h with
 | nil h => exact ⟨_, .nil, h⟩
 | cons h1 h2 h3 _ ih => obtain ⟨C', h4, h5⟩ := ih; exact ⟨C', .cons h1 h2 h3 h4, h5⟩
theorem stB {T:TypeId} {m d:Nat} {z:Array Value} {pl:List (Nat × Lay)} [hB:BuildOf P T m z pl] {parts:Array (Nat × Operand)} (hz:(pl.all fun q=>(bP q.2 z q.1).isSome && decide (q.1+q.2.sz≤m))=true) (hap:eV (dw z pl)=true) (hd:Nat.ble (d+1) E.N=true)
  (h:BuildK Γ pl (fun C=>Run P E ops dr (i+1) D ((d,bG m C) :: Γ) M os K) (dw z pl) parts.toList):Run P E ops dr i D Γ M (⟨some d, .build T parts,ty,pos,af,none⟩ :: os) K :=
 let ⟨_,h1,h2⟩:=h.ok;st (i5 h1 hz hap) hd h2
inductive PartsK (Γ:Ctx) (L:Lay) (K:List VT→Prop):Nat→List VT→List (Nat × Operand)→Prop
 | nil {k φs} : K φs.reverse → PartsK Γ L K k φs []
 | cons {k φs x r φ} [hF : Flat φ L] : aO Γ x = some φ → PartsK Γ L K (k + 1) (φ :: φs) r → PartsK Γ L K k φs ((k, x) :: r)
theorem PartsK.ok {L:Lay} {K:List VT→Prop} {k:Nat} {φs:List VT} {r:List (Nat × Operand)} (h:PartsK Γ L K k φs r) : ∃ ψs,PartsOk Γ L k r ψs∧K (φs.reverse ++ ψs):=by
 induction h with
 | nil h => exact ⟨[], .nil, by simpa using h⟩
 | cons h1 _ ih => obtain ⟨ψs, h2, h3⟩ := ih; exact ⟨_ :: ψs, .cons h1 h2, by simpa using h3⟩
theorem stS {T e:TypeId} {L:Lay} {z:Value} {by' n d:Nat} [hS:SliceOf P T e] [hL:LayOf P e L] [hZ:ZeroOf P e z by'] [hFz:Flat (one z) L] {parts:Array (Nat × Operand)}
  (hn:parts.size=n) (hsm:Nat.ble (n*L.sz) 16777216=true) (hsz:Nat.ble 1 L.sz=true) (hd:Nat.ble (d+1) E.N=true)
  (h:PartsK Γ L (fun φs=>Run P E ops dr (i+1) D ((d,slT L n (fun q=>φs.getD q bS)) :: Γ) M os K) 0 [] parts.toList):Run P E ops dr i D Γ M (⟨some d, .buildSlice T n parts,ty,pos,af,none⟩ :: os) K :=
 let ⟨_,h1,h2⟩:=h.ok;st (ia h1 hn (Nat.le_of_ble_eq_true hsm) (Nat.le_of_ble_eq_true hsz)) hd h2
theorem pt {T e:TypeId} {L:Lay} {z:Value} {by' d:Nat} [hS:SliceOf P T e] [hL:LayOf P e L] [hZ:ZeroOf P e z by'] [hFz:Flat (one z) L] {x:Operand} {φ:VT} [hF:Flat φ L]
  (hx:aO Γ x=some φ) (hsm:Nat.ble (1*L.sz) 16777216=true) (hsz:Nat.ble 1 L.sz=true) (hd:Nat.ble (d+1) E.N=true)
  (h:Run P E ops dr (i+1) D ((d,slT L 1 (fun _=>φ)) :: Γ) M os K):Run P E ops dr i D Γ M (⟨some d, .buildSlice T 1 #[(0,x)],ty,pos,af,none⟩ :: os) K :=
 st ((ia (n:=1) (φs := [φ]) (.cons hx .nil) Z (Nat.le_of_ble_eq_true hsm) (Nat.le_of_ble_eq_true hsz)).le (cL Z (fun q hq=>by
  have h3:q<1:=hq
  have:q=0:=by omega
  subst this;rfl))) hd h
theorem sJ {T e:TypeId} {L:Lay} {z:Value} {by' n d:Nat} [hS:SliceOf P T e] [hL:LayOf P e L] [hZ:ZeroOf P e z by'] [hFz:Flat (one z) L] {parts:Array (Nat × Operand)}
  (hn:parts.size=n) (hsm:Nat.ble (n*L.sz) 16777216=true) (hsz:Nat.ble 1 L.sz=true) (hi:ops[i]? = some ⟨some d, .buildSlice T n parts,ty,pos,af,none⟩) (hd:Nat.ble (d+1) E.N=true)
  (h:PartsK Γ L (fun φs => ∀ b,Run P E ops false (i+1) D ((d,one (slV (some b) n n)) :: Γ) (a8 (some b) e L n n (fun q=>φs.getD q bS) :: M) os K) 0 [] parts.toList):Run P E ops false i D Γ M (⟨some d, .buildSlice T n parts,ty,pos,af,none⟩ :: os) K :=
 let ⟨_,h1,h2⟩:=h.ok;nY h1 hn (Nat.le_of_ble_eq_true hsm) (Nat.le_of_ble_eq_true hsz) hi (ltN hd) h2
end
end Tor
end
section
set_option linter.unusedSectionVars false
namespace Tor
open Go Go.RowKit
section
variable {P:Program} {E:Env} {D:List Deferred} {Γ:Ctx} {M M':Mem} {Q:Exit→Act→World→Prop}
theorem gL (h:M.Perm M'):(bf M).Perm (bf M'):=h.flatMap_right _
theorem rH {w:World} (h:M.Perm M'):hv E M w=hv E M' w:=by
 funext b
 have:b∈E.O ++ bf M↔b∈E.O ++ bf M':=by simp only [List.mem_append,(gL h).mem_iff]
 simp only [hv,hid,this]
theorem ib {a:Act} {w:World} (h:M.Perm M') (hS:St E D Γ M a w):St E D Γ M' a w where
 base := {
  mem:=fun o ho=>by
   have:=hS.base.mem o (h.mem_iff.2 ho)
   have e:hid (E.O ++ bf M) (cC w)=hid (E.O ++ bf M') (cC w):=rH h
   rw [e] at this;exact this
  nd:=(gL h).nodup_iff.1 hS.base.nd
  dis:=fun b hb=>hS.base.dis b ((gL h).mem_iff.2 hb)
  lo:=fun b hb=>hS.base.lo b ((gL h).mem_iff.2 hb)
  ex:=fun b hb=>hS.base.ex b (by
   simp only [List.mem_append,(gL h).mem_iff] at hb ⊢; exact hb)
  fr:=hS.base.fr }
 sz:=hS.sz
 df:=hS.df
 tm:=fun t φ ht=>rH (E:=E) (w:=w) h▸hS.tm t φ ht
theorem w7 {c:Code} (h:M.Perm M') (hj:J P E D Γ M' c Q):J P E D Γ M c Q:=fun a w hS=>hj a w (ib h hS)
def vE {σ:Type} (O:List Nat) (ψ:σ→VT) (Ms:σ→Mem) (w:World) (e:Ending) (w':World):Prop :=
 ∃ s v,e = .returned v∧(ψ s).p v (hid (O ++ bf (Ms s)) (cC w'))∧Ext w w'∧(∀ o∈Ms s,o.p (raw w') (hid (O ++ bf (Ms s)) (cC w')))∧(bf (Ms s)).Nodup ∧ ∀ b∈bf (Ms s),w.heap.size≤b∧b<w'.heap.size∧b ∉ O
def OkM {σ:Type} (P:Program) (f:FuncId) (φs:List VT) (ψ:σ→VT) (Ms:σ→Mem):Prop :=
 ∀ (w:World) (O:List Nat) (vs:List Value),(∀ b∈O,b<w.heap.size)→f0 φs vs (hid O (cC w))→Calls P f vs.toArray w (vE O ψ Ms w)
theorem bt (N M:Mem):bf (N ++ M)=bf N ++ bf M:=List.flatMap_append
theorem St.take {a:Act} {w w':World} (hS:St E D Γ M a w) (hx:Ext w w') {N:Mem} (hmem : ∀ o∈N,o.p (raw w') (hid ((E.O ++ bf M) ++ bf N) (cC w'))) (hnd:(bf N).Nodup)
  (hb : ∀ b∈bf N,w.heap.size≤b∧b<w'.heap.size) {d:Nat} (hd:d<E.N) {v:Value} {ψ:VT} (hv':ψ.p v (hid ((E.O ++ bf M) ++ bf N) (cC w'))) :
  St E D ((d, ψ) :: Γ) (N ++ M) (a.put (some d) v) w':=by
 have hnew : ∀ b∈E.O ++ bf M,b<w.heap.size:=hS.base.ex
 have ehv:hid (E.O ++ bf (N ++ M)) (cC w')=hid ((E.O ++ bf M) ++ bf N) (cC w'):=by
  funext b
  have:b∈E.O ++ bf (N ++ M)↔b∈(E.O ++ bf M) ++ bf N:=by
   simp only [bt,List.mem_append]
   constructor
   ·rintro (h | h | h)
    ·exact .inl (.inl h)
    ·exact .inr h
    ·exact .inl (.inr h)
   ·rintro ((h | h) | h)
    ·exact .inl h
    ·exact .inr (.inr h)
    ·exact .inr (.inl h)
  simp only [hid,this]
 have hle:Hp.le (hv E M w) (hid (E.O ++ bf (N ++ M)) (cC w')):=by
  intro b x e
  obtain ⟨h1,h2⟩:=fB e
  refine iF ?_ (hx.view _ _ h2)
  intro h
  have hlt:=fw h2
  rw [bt] at h
  rcases List.mem_append.1 h with h | h
  ·exact h1 (List.mem_append.2 (.inl h))
  ·rcases List.mem_append.1 h with h | h
   ·have:=(hb b h).1;omega
   ·exact h1 (List.mem_append.2 (.inr h))
 have hb':=hS.base.ext hx
 refine ⟨⟨?_,?_,?_,?_,?_,hb'.fr⟩,by simp [Act.put,hS.sz],hS.df,?_⟩
 ·intro q hq
  rcases List.mem_append.1 hq with hq | hq
  ·rw [ehv]; exact hmem q hq
  ·exact q.loc (fun b hb=>(gZ (hx.block b (hS.base.ex b (List.mem_append.2 (.inr (dk hq hb)))))).symm) hle (hS.base.mem q hq)
 ·rw [bt,List.nodup_append]
  refine ⟨hnd,hS.base.nd,fun x hx y hy => ?_⟩
  have h1:=(hb x hx).1
  have h2:=hnew y (List.mem_append.2 (.inr hy));omega
 ·intro b h
  rw [bt] at h
  rcases List.mem_append.1 h with h | h
  ·intro hO;have:=hnew _ (List.mem_append.2 (.inl hO));have:=(hb b h).1;omega
  ·exact hS.base.dis b h
 ·intro b h
  rw [bt] at h
  rcases List.mem_append.1 h with h | h
  ·exact .inl (Nat.le_trans hS.base.fr.size (hb b h).1)
  ·exact hS.base.lo b h
 ·intro b h
  rw [bt] at h
  rcases List.mem_append.1 h with h | h
  ·exact hb'.ex b (List.mem_append.2 (.inl h))
  ·rcases List.mem_append.1 h with h | h
   ·exact (hb b h).2
   ·exact hb'.ex b (List.mem_append.2 (.inr h))
 ·intro t φ h
  rw [bq] at h
  show φ.p _ (hid (E.O ++ bf (N ++ M)) (cC w'))
  split at h
  ·rename_i e;cases h;rw [← e,ce (by rw [hS.sz]; exact hd),ehv]; exact hv'
  ·rename_i e;rw [cd e]; exact φ.mono hle (hS.tm t φ h)
theorem OkM.enter {σ:Type} {f:FuncId} {fn:Func} {c:Code} {N:Nat} {φs:List VT} {ψ:σ→VT} {Ms:σ→Mem} (hf:P.funcs[f]? = some fn) (hb:fn.body=some c) (hN:fn.ntmps=N) (hle:Nat.ble φs.length N=true)
  (h : ∀ (w:World) (O:List Nat),J P ⟨w,O, [],N,none⟩ [] (gD 0 φs) [] c (bodyPost P fn (vE O ψ Ms w))):OkM P f φs ψ Ms :=
 fun w O vs hO hv=>Tor.js hf hb hN hO hv (Nat.le_of_ble_eq_true hle) (h w O)
theorem iB {σ:Type} {w0:World} {O:List Nat} {N:Nat} {fn:Func} {r:ResultVar} {ψ:σ→VT} {Ms:σ→Mem} (s:σ) (hr:fn.results = #[r]) (h:ResOk P Γ M r (ψ s)) (hm:SubM M (Ms s)) :
  PJ ⟨w0,O, [],N,none⟩ [] Γ M .ret (bodyPost P fn (vE O ψ Ms w0)):=by
 intro a w hS
 obtain ⟨v,h1,h2⟩:=h.run hS
 have hB:=hS.base.sub hm
 refine ⟨hS.df,v,?_,s,v,rfl,(ψ s).mono (kG fun b hb=>hm.sub.subset hb) h2,hS.ret,hB.mem,hB.nd,fun b hb=>⟨?_,hB.ex b (List.mem_append.2 (.inr hb)),hB.dis b hb⟩⟩
 ·have hm:(fn.results.mapM (mT a.tmps)).run P w = .ok #[v] w:=by rw [hr]; simp [h1]
  rw [ff,Sem.run_bind,hm]; rfl
 ·rcases hB.lo b hb with h | h
  ·exact h
  ·cases h
variable {ops:Array Oper} {i:Nat} {ty:TypeId} {pos:String} {af:Array Edge} {os:List Oper} {K:List Deferred→Ctx→Mem→Prop}
theorem eu {σ:Type} {f:FuncId} [hF:Fn P f] {xs:Array Operand} {ats:Array TypeId} {φs φs':List VT} {ψ:σ→VT} {Ms:σ→Mem} {d:Nat} (h:OkM P f φs' ψ Ms) (hx:f8 Γ xs.toList=some φs) (hle:gK φs φs')
  (hi:ops[i]? = some ⟨some d, .call ⟨.value (.func f),xs,ats⟩,ty,pos,af,none⟩) (hd:Nat.ble (d+1) E.N=true)
  (hr : ∀ s,Run P E ops false (i+1) D ((d, ψ s) :: Γ) (Ms s ++ M) os K):Run P E ops false i D Γ M (⟨some d, .call ⟨.value (.func f),xs,ats⟩,ty,pos,af,none⟩ :: os) K:=by
 refine .act (K':=fun D' Γ' M' => ∃ s,D'=D∧Γ'=(d, ψ s) :: Γ∧M'=Ms s ++ M) (fun a w hS next Q hn => ?_) (fun D' Γ' M' ⟨s,h1,h2,h3⟩=>by subst h1 h2 h3;exact hr s)
 have hp:=fN (a:=a) (h:=hv E M w) hx (fun x φ hx' he=>cS hS he)
 have hc:=h w _ _ hS.base.ex (fO hle hp)
 simp only [wpOp,hi,c7 (o:=⟨some d, .call ⟨.value (.func f),xs,ats⟩,ty,pos,af,none⟩) Z,if_true]
 refine .inl ?_
 unfold Oper.wp
 have hr:(execOp a.eval ⟨some d, .call ⟨.value (.func f),xs,ats⟩,ty,pos,af,none⟩).run P w = .ok (.enter f (xs.toList.map a.eval).toArray) w:=by
  have h0:a.eval (.func f) = .func (.func f) #[] #[]:=rfl
  have h9:(xs.map a.eval)=(xs.toList.map a.eval).toArray:=by simp [← Array.toList_map]
  simp [execOp,resolve,Deferred.ofValue,invoke,h0,hF.run,h9]
 rw [hr]
 refine Calls.mono hc ?_
 rintro e w' ⟨s,v,rfl,hv',hext,hmem,hnd,hb⟩
 exact hn _ _ _ _ _ ⟨s,rfl,rfl,rfl⟩ (hS.take hext hmem hnd (fun b h=>⟨(hb b h).1,(hb b h).2.1⟩) (Nat.le_of_ble_eq_true hd) hv')
theorem t4 (h:M.Perm M') (hr:Run P E ops false i D Γ M' os K):Run P E ops false i D Γ M os K := .conv (fun a w hS=>ib h hS) hr
theorem SubM.dropN : ∀ (N:Mem) {K:Mem},SubM (N ++ K) K
 | [], K => SubM.refl K
 | _ :: N, _ => .drop (SubM.dropN N)
end
end Tor
end
