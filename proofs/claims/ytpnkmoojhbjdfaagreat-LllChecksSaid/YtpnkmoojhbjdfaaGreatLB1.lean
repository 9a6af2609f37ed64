/-
  Theorems that the proofs of laws of this seat rest on.
  No condition.
-/
import Derived.WalkKit
import Derived.Orders
import Derived.Scope
import Derived.OrdersIn
import Derived.LoopNIn
set_option maxHeartbeats 16000000
set_option linter.unusedVariables false
set_option linter.unusedSimpArgs false
theorem Z {α:Sort _} {a:α}:a=a:=rfl
theorem Y {P:Prop} (h:P:=by omega):P:=h
theorem X {P:Prop} (h:P:=by kernel_rfl):P:=h
theorem S {P:Prop} (h:P:=by decide):P:=h
theorem W {P:Prop} (h:P:=by decide +kernel):P:=h
theorem Ed:True:=trivial
section
namespace Tor
open Go Go.RowKit
/-! ### Memory views -/
abbrev Blk:=Array Value × TypeId × (Nat × Nat)
abbrev Hp:=Nat→Option Blk
def Hp.le (h h':Hp):Prop := ∀ b x,h b=some x→h' b=some x
theorem Hp.le_refl (h:Hp):Hp.le h h:=fun _ _ e=>e
def ct (w:World):Hp:=fun b=>match w.heap[b]? with | some (.cells c T f)=>some (c,T,f) | _=>none
def hid (O:List Nat) (h:Hp):Hp:=fun b=>if b∈O then none else h b
theorem xr (O:List Nat) (h:Hp):Hp.le (hid O h) h:=by
 intro b x e;unfold hid at e;split at e
 ·cases e
 ·exact e
theorem oh {O:List Nat} {h h':Hp} (DS:Hp.le h h'):Hp.le (hid O h) (hid O h'):=by
 intro b x e;unfold hid at e ⊢; split at e
 ·cases e
 ·rename_i hn;rw [if_neg hn]; exact DS _ _ e
theorem lT {O O':List Nat} {h:Hp} (DS : ∀ b,b∈O'→b∈O):Hp.le (hid O h) (hid O' h):=by
 intro b x e;unfold hid at e ⊢; split at e
 ·cases e
 ·rename_i hn;rw [if_neg (fun k=>hn (DS _ k))]; exact e
theorem fS {O:List Nat} {h:Hp} {b:Nat} {x:Blk} (e:hid O h b=some x):b ∉ O∧h b=some x:=by
 unfold hid at e;split at e
 ·cases e
 ·rename_i hn;exact ⟨hn,e⟩
theorem jv {O:List Nat} {h:Hp} {b:Nat} {x:Blk} (hn:b ∉ O) (e:h b=some x):hid O h b=some x:=by
 unfold hid;rw [if_neg hn]; exact e
theorem hP {w:World} {b:Nat} {c:Array Value} {T:TypeId} {f:Nat × Nat} (e:ct w b=some (c,T,f)):w.heap[b]? = some (.cells c T f):=by
 unfold ct at e;split at e
 ·rename_i h;cases e;exact h
 ·cases e
theorem nW {w:World} {b:Nat} {c:Array Value} {T:TypeId} {f:Nat × Nat} (e:w.heap[b]? = some (.cells c T f)):ct w b=some (c,T,f):=by
 unfold ct;rw [e]
theorem eX {w:World} {b:Nat} {x:Blk} (e:ct w b=some x):b<w.heap.size:=by
 obtain ⟨c,T,f⟩:=x
 have:=hP e
 rcases Nat.lt_or_ge b w.heap.size with h | h
 ·exact h
 ·rw [Array.getElem?_eq_none h] at this;cases this
theorem kF {w:World} {b:Nat} {c:Array Value} {T:TypeId} {f:Nat × Nat} (e:ct w b=some (c,T,f)) (o:Nat):w.cell? ⟨b,o,none⟩=c[o]? := by
 simp [World.cell?,hP e]
abbrev Ext (w w':World):Prop:=Below w.heap.size w w'
theorem Ext.view {w w':World} (h:Ext w w'):Hp.le (ct w) (ct w'):=by
 intro b x e
 have hb:=eX e
 obtain ⟨c,T,f⟩:=x
 exact nW ((h.block b hb).trans (hP e))
theorem Ext.refl (w:World):Ext w w:=Below.refl _ _
theorem Ext.trans {a b c:World} (h:Ext a b) (k:Ext b c):Ext a c:=Below.trans h (Below.mono k h.size)
theorem Ext.alloc (w:World) (o:Obj):Ext w (w.alloc o):=(Below.refl _ _).alloc (Nat.le_refl _) o
theorem cg (w:World) (c:Array Value) (T:TypeId) (f:Nat × Nat):Tor.ct (w.alloc (.cells c T f)) w.heap.size=some (c,T,f):=by
 apply nW;show (w.heap.push _)[_]? = _;simp
/-! ### Predicates on values -/
structure VT where
 p:Value→Hp→Prop
 mono : ∀ {v h h'},Hp.le h h'→p v h→p v h'
def VT.le (φ ψ:VT):Prop := ∀ v h, φ.p v h→ψ.p v h
theorem VT.le_refl (φ:VT):VT.le φ φ:=fun _ _ h=>h
theorem _root_.H {φ:VT}:VT.le φ φ:=VT.le_refl _
theorem VT.le_trans {a b c:VT} (h:VT.le a b) (k:VT.le b c):VT.le a c:=fun _ _ e=>k _ _ (h _ _ e)
def one (v:Value):VT:=⟨fun x _=>x=v,fun _ h=>h⟩
theorem ao {v v':Value} (h:v=v'):VT.le (one v) (one v'):=fun _ _ e=>e.trans h
def bO:VT:=⟨fun _ _=>True,fun _ h=>h⟩
def exT {α:Sort _} (φ:α→VT):VT:=⟨fun v h => ∃ x,(φ x).p v h,fun DS ⟨x,h⟩=>⟨x,(φ x).mono DS h⟩⟩
def cq (F:Prop) (φ:VT):VT:=⟨fun v h=>F∧φ.p v h,fun DS ⟨x,h⟩=>⟨x, φ.mono DS h⟩⟩
inductive Lay where
 | one
 | agg (n : Nat)
def Lay.sz:Lay→Nat
 | .one => 1
 | .agg n => n
def bT:Lay→Array Value→Nat→Option Value
 | .one, c, o => c[o]?
 | .agg n, c, o => if o + n ≤ c.size then some (.agg (c.extract o (o + n))) else none
def cv (L:Lay) (φ:VT):VT where
 p v h := ∃ b o c T f x,v = .pointer (some ⟨b,o,none⟩)∧h b=some (c,T,f)∧bT L c o=some x∧φ.p x h
 mono:=fun DS ⟨b,o,c,T,f,x,hv,hb,hx,hp⟩=>⟨b,o,c,T,f,x,hv,DS _ _ hb,hx, φ.mono DS hp⟩
def slT (L:Lay) (n:Nat) (φ:Nat→VT):VT where
 p v h := ∃ a cap,v = .slice a n cap∧n≤cap∧n≤2^48 ∧
  ∀ i,i<n → ∃ b o c T f x,a=some ⟨b,o,none⟩∧h b=some (c,T,f)∧bT L c (o+i*L.sz)=some x∧(φ i).p x h
 mono:=fun DS ⟨a,cap,hv,h1,h2,he⟩=>⟨a,cap,hv,h1,h2,fun i hi =>
  let ⟨b,o,c,T,f,x,ha,hb,hx,hp⟩:=he i hi;⟨b,o,c,T,f,x,ha,DS _ _ hb,hx,(φ i).mono DS hp⟩⟩
abbrev cD:=List (Nat × Lay × VT)
def ik (cs:cD) (c:Array Value) (h:Hp):Prop := ∀ q∈cs, ∃ x,bT q.2.1 c q.1=some x∧q.2.2.p x h
theorem nF {cs:cD} {c:Array Value} {h h':Hp} (DS:Hp.le h h') (k:ik cs c h):ik cs c h' :=
 fun q hq=>let ⟨x,hx,hp⟩:=k q hq;⟨x,hx,q.2.2.mono DS hp⟩
def bA (m:Nat) (cs:cD):VT where
 p v h := ∃ c,v = .agg c∧c.size=m∧c.all (·.oneCell')=true∧ik cs c h
 mono:=fun DS ⟨c,hv,hs,ha,hc⟩=>⟨c,hv,hs,ha,nF DS hc⟩
def gS:List VT→List Value→Hp→Prop
 | [], [], _ => True
 | φ :: φs, v :: vs, h => φ.p v h ∧ gS φs vs h
 | _, _, _ => False
theorem mX {h h':Hp} (DS:Hp.le h h') : ∀ {φs:List VT} {vs:List Value},gS φs vs h→gS φs vs h'
 | [], [], _ => trivial
 | φ :: _, _ :: _, ⟨a, b⟩ => ⟨φ.mono DS a, mX DS b⟩
def bM (φs:List VT):VT where
 p v h := ∃ vs:List Value,v = .tuple vs.toArray∧gS φs vs h
 mono:=fun DS ⟨vs,hv,hp⟩=>⟨vs,hv,mX DS hp⟩
/-! ### Own memory -/
abbrev RH:=Nat→Option Obj
def vw (g:RH):Hp:=fun b=>match g b with | some (.cells c T f)=>some (c,T,f) | _=>none
def raw (w:World):RH:=fun b=>w.heap[b]?
theorem Bo {g g':RH} {b:Nat} {x:Option Blk} (h:g b=g' b) (e:vw g b=x):vw g' b=x:=by unfold vw at e ⊢; rw [← h]; exact e
theorem gK {w w':World} {b:Nat} (h:w'.heap[b]? = w.heap[b]?):raw w' b=raw w b:=h
structure Own where
 bl:List Nat
 p:RH→Hp→Prop
 loc : ∀ {g g':RH} {h h':Hp},(∀ b∈bl,g b=g' b)→Hp.le h h'→p g h→p g' h'
abbrev Mem:=List Own
def a5 (M:Mem):List Nat:=M.flatMap (·.bl)
@[simp] theorem blks_nil:a5 [] = []:=rfl
@[simp] theorem blks_cons (o:Own) (M:Mem):a5 (o :: M)=o.bl ++ a5 M:=rfl
def Own.le (o o':Own):Prop:=o.bl=o'.bl ∧ ∀ g h,o.p g h→o'.p g h
def slV (sv:Option Nat) (n cap:Nat):Value := .slice (sv.map fun b=>⟨b,0,none⟩) n cap
def aU (sv:Option Nat) (T:TypeId) (L:Lay) (cap n:Nat) (φ:Nat→VT):Own where
 bl:=sv.toList
 p g h:=n≤cap∧n≤2^48∧(sv=none→cap=0) ∧
  ∀ b,sv=some b → ∃ c,vw g b=some (c,T,(0,0))∧c.size=cap*L.sz ∧ ∀ i,i<n → ∃ x,bT L c (i*L.sz)=some x∧(φ i).p x h
 loc:=fun {g g' h h'} he DS ⟨h1,h2,h3,h4⟩=>⟨h1,h2,h3,fun b hb =>
  let ⟨c,hg,hs,hi⟩:=h4 b hb;⟨c,Bo (he b (by simp [hb])) hg,hs,fun i hn=>let ⟨x,hx,hp⟩:=hi i hn;⟨x,hx,(φ i).mono DS hp⟩⟩⟩
def upd (φ:Nat→VT) (j:Nat) (ψ:VT):Nat→VT:=fun i=>if i=j then ψ else φ i
def aW (b:Nat) (T:TypeId) (m:Nat) (cs:cD):Own where
 bl := [b]
 p g h := ∃ c,vw g b=some (c,T,(0,0))∧c.size=m∧c.all (·.oneCell')=true∧ik cs c h
 loc:=fun {g g' h h'} he DS ⟨c,hb,hs,ha,hc⟩=>⟨c,Bo (he b (by simp)) hb,hs,ha,nF DS hc⟩
/-! ### Contexts -/
abbrev Ctx:=List (Nat × VT)
def bP:Ctx→Nat→Option VT
 | [], _ => none
 | (k, v) :: r, t => bif Nat.beq k t then some v else bP r t
theorem bC {k:Nat} {v:VT} {r:Ctx} {t:Nat} : bP ((k,v) :: r) t=if k=t then some v else bP r t:=by
 rw [bP]
 by_cases h:k=t
 ·subst h;simp
 ·have:Nat.beq k t=false:=by rw [← Bool.not_eq_true]; intro e;exact h (Nat.eq_of_beq_eq_true e)
  rw [this,if_neg h]; rfl
def aQ (Γ:Ctx):Operand→Option VT
 | .tmp t => bP Γ t
 | .const v => some (one v)
 | .global g => some (one (.pointer (some ⟨g, 0, none⟩)))
 | .func f => some (one (.func (.func f) #[] #[]))
structure Env where
 w0:World
 O:List Nat
 I:List Nat
 N:Nat
 R:Option Nat
structure Fr (I:List Nat) (w w':World):Prop where
 os:w'.os=w.os
 tape:w'.tape=w.tape
 output:w'.output=w.output
 size:w.heap.size≤w'.heap.size
 block : ∀ k,k<w.heap.size→k ∉ I→w'.heap[k]? = w.heap[k]?
theorem Fr.refl (I:List Nat) (w:World):Fr I w w:=⟨rfl,rfl,rfl,Nat.le_refl _,fun _ _ _=>rfl⟩
theorem Fr.ext {I:List Nat} {a b c:World} (h:Fr I a b) (k:Ext b c):Fr I a c :=
 ⟨k.os.trans h.os,k.tape.trans h.tape,k.output.trans h.output,Nat.le_trans h.size k.size,fun i hi hn=>(k.block i (Nat.lt_of_lt_of_le hi h.size)).trans (h.block i hi hn)⟩
theorem Fr.toExt {a b:World} (h:Fr [] a b):Ext a b:=⟨h.os,h.tape,h.output,h.size,fun k hk=>h.block k hk (by simp)⟩
structure Base (E:Env) (M:Mem) (w:World):Prop where
 mem : ∀ o∈M,o.p (raw w) (hid (E.O ++ a5 M) (ct w))
 nd:(a5 M).Nodup
 dis : ∀ b∈a5 M,b ∉ E.O
 lo : ∀ b∈a5 M,E.w0.heap.size≤b∨b∈E.I
 ex : ∀ b∈E.O ++ a5 M,b<w.heap.size
 fr:Fr E.I E.w0 w
abbrev hv (E:Env) (M:Mem) (w:World):Hp:=hid (E.O ++ a5 M) (ct w)
structure St (E:Env) (D:List Deferred) (Γ:Ctx) (M:Mem) (a:Act) (w:World):Prop where
 base:Base E M w
 sz:a.tmps.size=E.N
 df:a.defers=D
 tm : ∀ t φ,bP Γ t=some φ→φ.p (a.tmps.getD t undef) (hv E M w)
theorem Base.ext {E:Env} {M:Mem} {w w':World} (h:Base E M w) (k:Ext w w'):Base E M w' where
 mem:=fun o ho=>o.loc (fun b hb=>by
   have hlt:b<w.heap.size:=h.ex b (List.mem_append.2 (.inr (List.mem_flatMap.2 ⟨o,ho,hb⟩)))
   unfold raw;rw [k.block b hlt]) (oh k.view) (h.mem o ho)
 nd:=h.nd
 dis:=h.dis
 lo:=h.lo
 ex:=fun b hb=>Nat.lt_of_lt_of_le (h.ex b hb) k.size
 fr:=h.fr.ext k
theorem Base.hv_ext {E:Env} {M:Mem} {w w':World} (k:Ext w w'):Hp.le (hv E M w) (hv E M w'):=oh k.view
theorem dw {E:Env} {D:List Deferred} {Γ:Ctx} {M:Mem} {a:Act} {w:World} (h:St E D Γ M a w) {x:Operand} {φ:VT} (e:aQ Γ x=some φ):φ.p (a.eval x) (hv E M w):=by
 cases x with
 | tmp t => exact h.tm t φ e
 | const v => cases e; rfl
 | global g => cases e; rfl
 | func f => cases e; rfl
theorem cy {a:Act} {d:Nat} {v:Value} (h:d<a.tmps.size):(a.put (some d) v).tmps.getD d undef=v:=by
 simp [Act.put,Array.getD_eq_getD_getElem?,h]
theorem cw {a:Act} {d t:Nat} {v:Value} (h:d≠t):(a.put (some d) v).tmps.getD t undef=a.tmps.getD t undef:=by
 simp [Act.put,Array.getD_eq_getD_getElem?,h]
theorem St.put {E:Env} {D:List Deferred} {Γ:Ctx} {M:Mem} {a:Act} {w w':World} (h:St E D Γ M a w) (k:Ext w w') {d:Nat} (hd:d<E.N) {ψ:VT} {v:Value} (hv':ψ.p v (hv E M w')) :
  St E D ((d, ψ) :: Γ) M (a.put (some d) v) w' where
 base:=h.base.ext k
 sz:=by simp [Act.put,h.sz]
 df:=h.df
 tm:=by
  intro t φ e
  rw [bC] at e
  split at e
  ·rename_i hdt;cases e;rw [← hdt,cy (by rw [h.sz]; exact hd)]; exact hv'
  ·rename_i hdt;rw [cw hdt]; exact φ.mono (Base.hv_ext k) (h.tm t φ e)
/-! ### Judgements -/
def fen:Option Nat→Fence
 | none => Fence.wide
 | some l => Fence.wide.inRound l
def mY (o:Oper):Bool:=match o.op with
 | .defer _ => false
 | _ => true
def jV:Code→Bool
 | .region _ ops _ => ops.all mY
 | .seq x y => jV x && jV y
 | .cond _ x y => jV x && jV y
 | .block _ c => jV c
 | .loop c => jV c
 | .skip => true
 | .exit _ => true
 | .label _ => true
 | .ret => true
 | _ => false
def JW (P:Program) (E:Env) (c:Code) (Q:Exit→Act→World→Prop) (a:Act) (w:World):Prop:=(E.R=none∨jV c=true)→c.wpIn (fen E.R) 9 P Q a w
def J (P:Program) (E:Env) (D:List Deferred) (Γ:Ctx) (M:Mem) (c:Code) (Q:Exit→Act→World→Prop):Prop :=
 ∀ a w,St E D Γ M a w→JW P E c Q a w
theorem JW.wp {P:Program} {E:Env} {c:Code} {Q:Exit→Act→World→Prop} {a:Act} {w:World} (h:JW P E c Q a w) (hR:E.R=none):c.wp P Q a w:=by
 have:=h (.inl hR);rw [hR] at this;exact wpIn_wide.1 this
theorem JW.mono {P:Program} {E:Env} {c:Code} {Q Q':Exit→Act→World→Prop} {a:Act} {w:World} (h:JW P E c Q a w) (hq : ∀ e a w,Q e a w→Q' e a w):JW P E c Q' a w :=
 fun hd=>wpIn_mono (h hd) hq
def PJ (E:Env) (D:List Deferred) (Γ:Ctx) (M:Mem) (e:Exit) (Q:Exit→Act→World→Prop):Prop := ∀ a w,St E D Γ M a w→Q e a w
def aP (P:Program) (E:Env) (Γ:Ctx) (M:Mem) (o:Oper) (ψ:VT):Prop :=
 ∀ (a:Act) (w:World),Base E M w→(∀ x φ,x∈o.op.operands→aQ Γ x=some φ→φ.p (a.eval x) (hv E M w)) →
  ∀ (next:Act→World→Prop) (Q:Exit→Act→World→Prop),
   (∀ v w',Ext w w'→ψ.p v (hv E M w')→next (a.put o.dst v) w')→o.wp P a w next Q
def fT (ops:Array Oper) (o:Oper):Option (Option Tmp × Bool):=o.guard.map fun (j,want)=>((ops[j]?).bind (·.dst),want)
inductive StepG (P:Program) (E:Env) (Γ:Ctx) (M:Mem) (ops:Array Oper) (o:Oper):Ctx→Prop
 | plain {ψ : VT} {d : Nat} : aP P E Γ M o ψ → o.guard = none → o.dst = some d → d < E.N → StepG P E Γ M ops o ((d, ψ) :: Γ)
 | guarded1 {ψ : VT} {d t : Nat} {want : Bool} : fT ops o = some (some t, want) → bP Γ t = some (one (.bool want)) →
   aP P E Γ M o ψ→o.dst=some d→d<E.N→StepG P E Γ M ops o ((d, ψ) :: Γ)
 | guarded0 {d t : Nat} {want b : Bool} : fT ops o = some (some t, want) → bP Γ t = some (one (.bool b)) → (b == want) = false →
   o.dst=some d→d<E.N→StepG P E Γ M ops o ((d,bO) :: Γ)
 | guardedN {d t : Nat} {want b : Bool} : fT ops o = some (some t, want) → bP Γ t = some (one (.bool b)) → (b == want) = false →
   o.dst=some d→d<E.N→StepG P E Γ M ops o ((d,one undef) :: Γ)
 | guardedU {d t : Nat} {want : Bool} : fT ops o = some (some t, want) → bP Γ t = some (one undef) →
   o.dst=some d→d<E.N→StepG P E Γ M ops o ((d,one undef) :: Γ)
def DG (P:Program) (E:Env) (ops:Array Oper) (i:Nat) (D:List Deferred) (Γ:Ctx) (M:Mem) (K:List Deferred→Ctx→Mem→Prop):Prop :=
 ∀ a w,St E D Γ M a w → ∀ (next:Act→World→Prop) (Q:Exit→Act→World→Prop),
  (∀ D' Γ' M' a' w',K D' Γ' M'→St E D' Γ' M' a' w'→next a' w')→wpOp P ops Q i next a w
inductive Run (P:Program) (E:Env) (ops:Array Oper):Bool→Nat→List Deferred→Ctx→Mem→List Oper→(List Deferred→Ctx→Mem→Prop)→Prop
 | nil {dr i D Γ M K} : K D Γ M → Run P E ops dr i D Γ M [] K
 | step {dr i D Γ M o os K Γ'} : StepG P E Γ M ops o Γ' → Run P E ops dr (i + 1) D Γ' M os K → Run P E ops dr i D Γ M (o :: os) K
 | conv {i D Γ M Γ' M' os K} : (∀ a w, St E D Γ M a w → St E D Γ' M' a w) → Run P E ops false i D Γ' M' os K → Run P E ops false i D Γ M os K
 | act {i D Γ M o os K} {K' : List Deferred → Ctx → Mem → Prop} : DG P E ops i D Γ M K' → (∀ D' Γ' M', K' D' Γ' M' → Run P E ops false (i + 1) D' Γ' M' os K) → Run P E ops false i D Γ M (o :: os) K
theorem _root_.Ec {P:Program} {E:Env} {D:List Deferred} {Γ:Ctx} {M:Mem} {ops:Array Oper} {i:Nat} {K:List Deferred→Ctx→Mem→Prop} {dr:Bool} (h:K D Γ M):Run P E ops dr i D Γ M [] K := .nil h
/-! ### Operations within a fence -/
theorem wC {P:Program} {r:Option Nat} {n:Nat} {f:FuncId} {args:Array Value} {w:World} {R:Ending→World→Prop} (h:Calls P f args w R):CallsIn (fen r) n P f args w R:=by
 have:=(callsIn_wide (n:=n)).2 h
 cases r <;> exact this
theorem xt {P:Program} {r:Option Nat} {n:Nat} {row:String} {args:Array Value} {w:World} {R:Value→World→Prop} (h:Rows P row args w R):RowsIn (fen r) n P row args w R:=by
 have:RowsIn Fence.wide n P row args w R:=fun c cs _=>let ⟨v,w',r,s⟩:=h c cs;⟨v,w',r,stepsIn_wide.2 s⟩
 cases r <;> exact this
theorem xu {r:Option Nat} (f:FuncId):(fen r).fn f:=by cases r <;> exact trivial
theorem wD {r:Option Nat} : (fen r).depth=none:=by cases r <;> rfl
theorem wE {r:Option Nat} : (fen r).round=r:=by cases r <;> rfl
section
variable {P:Program} {r:Option Nat} {n:Nat} {Q:Exit→Act→World→Prop} {K:Act→World→Prop} {a:Act} {w:World} {ops:Array Oper}
theorem CN {o:Oper} (hd:r=none∨mY o=true) (h:o.wp P a w K Q):o.wpIn (fen r) n P a w K Q:=by
 have e:o.semAt (fen r).round a.eval=execOp a.eval o:=by
  rw [wE]
  rcases hd with rfl | hd
  ·exact Oper.semAt_none _ _
  ·exact Oper.semAt_eq _ _ _ fun c hc=>by simp [mY,hc] at hd
 refine ⟨fun f _=>xu f,?_⟩
 rw [e]
 unfold Oper.wp at h
 have hz:(fen r).depth.isSome=true→1≤n:=fun h=>by rw [wD] at h;cases h
 generalize (execOp a.eval o).run P w=x at h
 cases x with
 | ok x w' => cases x <;> simp only [Oper.upon, Oper.uponIn] at h ⊢ <;> first | exact h | exact ⟨hz, wC h⟩ | exact ⟨hz, xt h⟩
 | halt x w' => cases x <;> simp only [Oper.upon, Oper.uponIn] at h ⊢ <;> exact h
theorem u7 {i:Nat} (hd:r=none∨ops.all mY=true) (hQ : ¬LetsOut Q) (h:wpOp P ops Q i K a w):wpOpIn (fen r) n P ops Q i K a w:=by
 unfold wpOp at h;unfold wpOpIn
 cases ho:ops[i]? with
 | none => simpa [ho] using h
 | some o =>
  simp only [ho] at h ⊢
  split
  ·rename_i hw
   rw [if_pos hw] at h
   refine CN (hd.imp id fun hd => ?_) (h.resolve_right fun h=>hQ h.2)
   obtain ⟨hi,e⟩:=Array.getElem?_eq_some_iff.1 ho
   rw [← e]; exact Array.all_eq_true.1 hd i hi
  ·rename_i hw
   rw [if_neg hw] at h
   exact ⟨fun f _=>xu f,h⟩
theorem r9 (hd:r=none∨ops.all mY=true) (hQ : ¬LetsOut Q) : ∀ (l:List Nat) (a:Act) (w:World),wpOps P ops Q l a w→wpOpsIn (fen r) n P ops Q l a w
 | [], _, _, h => h
 | i :: l, a, w, h => by
  rw [wpOps_cons] at h;rw [wpOpsIn_cons]
  exact u7 hd hQ (wpOp_mono (r9 hd hQ l) h)
theorem sb {md:Region.Mode} (hd:r=none∨ops.all mY=true) (hQ : ¬LetsOut Q) : ∀ (fuel:Nat) (l:Array Bool) (a:Act) (w:World),wpAny P md ops Q fuel l a w→wpAnyIn (fen r) n P md ops Q fuel l a w
 | 0, _, _, _, h => h
 | fuel + 1, l, a, w, h => ⟨h.1, fun i hi => u7 hd hQ (wpOp_mono (sb hd hQ fuel _) (h.2 i hi))⟩
end
def nrm (Q:Exit→Act→World→Prop):Exit→Act→World→Prop
 | .normal, a, w => Q .normal a w
 | _, _, _ => False
@[simp] theorem nrm_normal {Q:Exit→Act→World→Prop} {a:Act} {w:World} : nrm Q .normal a w=Q .normal a w:=rfl
theorem u9 {Q:Exit→Act→World→Prop} : ¬LetsOut (nrm Q):=fun ⟨_,_,h⟩=>h
theorem xv {Q:Exit→Act→World→Prop} : ∀ e a w,nrm Q e a w→Q e a w:=fun e a w h=>by cases e <;> first | exact h | exact h.elim
section
variable {P:Program} {E:Env} {Q:Exit→Act→World→Prop} {a:Act} {w:World} {ops:Array Oper} {id:Nat}
theorem BJ (h:wpOps P ops (nrm Q) (List.range ops.size) a w):JW P E (.region id ops false) Q a w :=
 fun hd=>wpIn_mono (wpIn_region (r9 hd u9 _ _ _ h)) xv
theorem eC (hm:P.follows .mixedOrders=true) (h:wpAny P .any ops (nrm Q) ops.size (Array.replicate ops.size false) a { w with drawn:=w.drawn+1 }):JW P E (.region id ops true) Q a w :=
 fun hd=>wpIn_mono (wpIn_region_any hm (sb hd u9 _ _ _ _ h)) xv
theorem JW.seq {x y:Code} (h:JW P E x (Exit.then (JW P E y Q) Q) a w):JW P E (.seq x y) Q a w:=fun hd =>
 wpIn_seq (wpIn_mono (h (hd.imp id fun h=>by simp only [jV,Bool.and_eq_true] at h;exact h.1)) fun e a w hq=>by
  cases e <;> first | exact hq | exact hq (hd.imp id fun h=>by simp only [jV,Bool.and_eq_true] at h;exact h.2))
end
def jx (ops:Array Oper) (o:Oper):List Tmp :=
 (o.op.operands.toList.filterMap fun | .tmp t=>some t | _=>none) ++ (match fT ops o with | some (some t,_) => [t] | _ => [])
end Tor
end
section
namespace Tor
open Go Go.RowKit
section
variable {P:Program} {E:Env} {ops:Array Oper}
theorem dG {o:Oper} {y:Nat→Option Bool} (h:o.guard=none):Region.wanted o y=true:=by
 simp [Region.wanted,h]
theorem j7 {o:Oper} {a:Act} {t:Nat} {want b:Bool} (hg:fT ops o=some (some t,want)) (hs:t<a.tmps.size)
  (hb:a.tmps.getD t undef = .bool b):Region.wanted o (yielded ops a.tmps)=(b == want):=by
 unfold fT at hg
 cases hgo:o.guard with
 | none => rw [hgo] at hg; cases hg
 | some jw =>
  obtain ⟨j,w'⟩:=jw
  rw [hgo] at hg
  simp only [Option.map_some,Option.some.injEq,Prod.mk.injEq] at hg
  obtain ⟨h1,h2⟩:=hg
  subst h2
  simp only [Region.wanted,hgo,yielded]
  have:a.tmps[t]? = some (.bool b):=by
   rw [Array.getD_eq_getD_getElem?] at hb
   have:a.tmps[t]? = some a.tmps[t]:=by simp [hs]
   rw [this] at hb ⊢; simpa using hb
  cases hj:ops[j]? with
  | none => rw [hj] at h1; cases h1
  | some oj =>
   rw [hj] at h1
   simp only [Option.bind_some] at h1 ⊢
   rw [h1]; simp only [Option.bind_some,this]
   cases b <;> cases w' <;> rfl
theorem lp {a:Act} {t:Nat} {b:Bool} (hb:a.tmps.getD t undef = .bool b):t<a.tmps.size:=by
 rcases Nat.lt_or_ge t a.tmps.size with h | h
 ·exact h
 ·rw [Array.getD_eq_getD_getElem?,Array.getElem?_eq_none h] at hb;cases hb
theorem sc {o:Oper} {a:Act} {t:Nat} {want:Bool} (hg:fT ops o=some (some t,want)) (hb:a.tmps.getD t undef=undef):Region.wanted o (yielded ops a.tmps)=false:=by
 unfold fT at hg
 cases hgo:o.guard with
 | none => rw [hgo] at hg; cases hg
 | some jw =>
  obtain ⟨j,w'⟩:=jw
  rw [hgo] at hg
  simp only [Option.map_some,Option.some.injEq,Prod.mk.injEq] at hg
  obtain ⟨h1,h2⟩:=hg
  simp only [Region.wanted,hgo,yielded,h1,Option.bind_some]
  rw [Array.getD_eq_getD_getElem?] at hb
  cases ht:a.tmps[t]? with
  | none => rfl
  | some v => rw [ht, Option.getD_some] at hb; subst hb; rfl
theorem StepG.run {Γ Γ':Ctx} {M:Mem} {o:Oper} {i:Nat} (hi:ops[i]? = some o) (h:StepG P E Γ M ops o Γ') :
  ∃ d ψ,o.dst=some d∧d<E.N∧Γ'=(d, ψ) :: Γ ∧ ∀ (a:Act) (w:World),Base E M w →
   (∀ t φ,t∈jx ops o→bP Γ t=some φ→φ.p (a.tmps.getD t undef) (hv E M w)) →
   ∀ (next:Act→World→Prop) (Q:Exit→Act→World→Prop),
    (∀ v w',Ext w w'→ψ.p v (hv E M w')→next (a.put (some d) v) w')→wpOp P ops Q i next a w:=by
 have opsOk : ∀ (a:Act) (w:World),(∀ t φ,t∈jx ops o→bP Γ t=some φ→φ.p (a.tmps.getD t undef) (hv E M w)) →
   ∀ x φ,x∈o.op.operands→aQ Γ x=some φ→φ.p (a.eval x) (hv E M w):=by
  intro a w hn x φ hx he
  cases x with
  | tmp t => exact hn t φ (List.mem_append.2 (.inl (List.mem_filterMap.2 ⟨.tmp t, by simpa using hx, rfl⟩))) he
  | const v => cases he; rfl
  | global g => cases he; rfl
  | func f => cases he; rfl
 cases h with
 | @plain ψ d hs hg hd hN =>
  refine ⟨d, ψ,hd,hN,rfl,fun a w hb hn next Q hnext => ?_⟩
  simp only [wpOp,hi,dG hg,if_true]
  exact .inl (hs a w hb (opsOk a w hn) next Q (by rw [hd]; exact hnext))
 | @guarded1 ψ d t want hg ht hs hd hN =>
  refine ⟨d,_,hd,hN,rfl,fun a w hb hn next Q hnext => ?_⟩
  have hbv:a.tmps.getD t undef = .bool want:=hn t _ (List.mem_append.2 (.inr (by rw [hg]; simp))) ht
  have hw:=j7 (a:=a) hg (lp hbv) hbv
  simp only [wpOp,hi,hw]
  rw [if_pos (by simp)]
  refine .inl (hs a w hb (opsOk a w hn) next Q ?_)
  rw [hd]; exact fun v w' k hv'=>hnext v w' k hv'
 | @guarded0 d t want b hg ht hne hd hN =>
  refine ⟨d,_,hd,hN,rfl,fun a w hb hn next Q hnext => ?_⟩
  have hbv:a.tmps.getD t undef = .bool b:=hn t _ (List.mem_append.2 (.inr (by rw [hg]; simp))) ht
  have hw:=j7 (a:=a) hg (lp hbv) hbv
  simp only [wpOp,hi,hw,hne]
  rw [if_neg (by simp),hd]
  exact hnext _ w (Ext.refl w) trivial
 | @guardedN d t want b hg ht hne hd hN =>
  refine ⟨d,_,hd,hN,rfl,fun a w hb hn next Q hnext => ?_⟩
  have hbv:a.tmps.getD t undef = .bool b:=hn t _ (List.mem_append.2 (.inr (by rw [hg]; simp))) ht
  have hw:=j7 (a:=a) hg (lp hbv) hbv
  simp only [wpOp,hi,hw,hne]
  rw [if_neg (by simp),hd]
  exact hnext _ w (Ext.refl w) Z
 | @guardedU d t want hg ht hd hN =>
  refine ⟨d,_,hd,hN,rfl,fun a w hb hn next Q hnext => ?_⟩
  have hbv:a.tmps.getD t undef=undef:=hn t _ (List.mem_append.2 (.inr (by rw [hg]; simp))) ht
  have hw:=sc (a:=a) hg hbv
  simp only [wpOp,hi,hw]
  rw [if_neg (by simp),hd]
  exact hnext _ w (Ext.refl w) Z
theorem St.names {D:List Deferred} {Γ:Ctx} {M:Mem} {a:Act} {w:World} (h:St E D Γ M a w) (o:Oper) :
  ∀ t φ,t∈jx ops o→bP Γ t=some φ→φ.p (a.tmps.getD t undef) (hv E M w):=fun t φ _ e=>h.tm t φ e
theorem Run.seq {i:Nat} {D:List Deferred} {Γ:Ctx} {M:Mem} {os:List Oper} {K:List Deferred→Ctx→Mem→Prop} {dr:Bool}
  (h:Run P E ops dr i D Γ M os K) : ∀ (Q:Exit→Act→World→Prop) (tl:List Nat),(∀ j,j<os.length→ops[i+j]? = os[j]?) →
   (∀ D' Γ' M' a w,K D' Γ' M'→St E D' Γ' M' a w→wpOps P ops Q tl a w) →
   ∀ a w,St E D Γ M a w→wpOps P ops Q (List.range' i os.length ++ tl) a w:=by
 induction h with
 | nil hK => intro Q tl _ hQ a w hS; exact hQ _ _ _ a w hK hS
 | @step dr i D Γ M o os K Γ' hs _ ih =>
  intro Q tl hops hQ a w hS
  have hi:ops[i]? = some o:=by simpa using hops 0 (by simp)
  obtain ⟨d, ψ,_,hN,rfl,hrun⟩:=hs.run hi
  simp only [List.length_cons,List.range'_succ,List.cons_append,wpOps_cons]
  refine hrun a w hS.base (hS.names o) _ Q fun v w' k hv' => ?_
  refine ih Q tl (fun j hj => ?_) hQ _ _ (hS.put k hN hv')
  have:=hops (j+1) (by simpa using hj)
  rw [show i+1+j=i+(j+1) by omega]; simpa using this
 | @conv i D Γ M Γ' M' os K hc _ ih =>
  intro Q tl hops hQ a w hS
  exact ih Q tl hops hQ a w (hc a w hS)
 | @act i D Γ M o os K K' hs _ ih =>
  intro Q tl hops hQ a w hS
  simp only [List.length_cons,List.range'_succ,List.cons_append,wpOps_cons]
  refine hs a w hS _ Q fun D' Γ' M' a' w' hK hS' => ?_
  refine ih D' Γ' M' hK Q tl (fun j hj => ?_) hQ _ _ hS'
  have:=hops (j+1) (by simpa using hj)
  rw [show i+1+j=i+(j+1) by omega]; simpa using this
theorem aj {D:List Deferred} {Γ:Ctx} {M:Mem} {id:Nat} {Q:Exit→Act→World→Prop}
  (h:Run P E ops false 0 D Γ M ops.toList (fun D' Γ' M'=>PJ E D' Γ' M' .normal Q)):J P E D Γ M (.region id ops false) Q:=by
 intro a w hS
 refine BJ ?_
 have:=h.seq (nrm Q) [] (fun j _=>by simp) (fun D' Γ' M' a w hK hS=>by simpa [wpOps] using hK a w hS) a w hS
 simpa [List.range_eq_range'] using this
/-! ### Any order -/
def predB (ops:Array Oper) (i j:Nat):Bool:=match ops[j]? with
 | some o => o.after.any fun e => Region.binds .any e && e.on == i
 | none => false
def dstOf (ops:Array Oper) (i:Nat):Option Tmp:=(ops[i]?).bind (·.dst)
def dL (ops:Array Oper) (i:Nat):List Tmp:=match ops[i]? with | some o=>jx ops o | none => []
def jW (ops:Array Oper) (i j:Nat):Bool :=
 (match dstOf ops i with | some t=>(dL ops j).contains t || dstOf ops j == some t | none=>false) ||
 (match dstOf ops j with | some t=>(dL ops i).contains t | none=>false)
def gg (n:Nat) (ops:Array Oper):Bool :=
 decide (n≤ops.size) &&
 ((List.range ops.size).all fun j =>
  (match ops[j]? with | some o=>o.after.all (fun e => !Region.binds .any e || decide (e.on<j)) | none=>true) &&
  ((List.range j).all fun i=>predB ops i j || (decide (j<n) && !jW ops i j)))
theorem cY {n:Nat} (h:gg n ops=true) {i j:Nat} (hij:i<j) (hj:j<ops.size):predB ops i j=true∨(j<n∧jW ops i j=false):=by
 simp only [gg,Bool.and_eq_true,List.all_eq_true,List.mem_range] at h
 have:=(h.2 j hj).2 i hij
 simpa using this
theorem xw {n:Nat} (h:gg n ops=true) {j:Nat} {o:Oper} (ho:ops[j]? = some o) {e:Edge} (he:e∈o.after) (hb:Region.binds .any e=true):e.on<j:=by
 simp only [gg,Bool.and_eq_true,List.all_eq_true,List.mem_range] at h
 have hj:j<ops.size:=by
  rcases Nat.lt_or_ge j ops.size with h | h
  ·exact h
  ·rw [Array.getElem?_eq_none h] at ho;cases ho
 have:=(h.2 j hj).1
 rw [ho] at this
 simp only [Array.all_eq_true'] at this
 have:=this e he
 simpa [hb] using this
structure Lst (ops:Array Oper) (l:Array Bool):Prop where
 size:l.size=ops.size
 closed : ∀ j,l.getD j false=true → ∀ i,predB ops i j=true→l.getD i false=true
theorem eg {l:Array Bool} {i:Nat} (h:i<l.size) (d d':Bool):l.getD i d=l.getD i d':=by
 simp [Array.getD_eq_getD_getElem?,h]
theorem cH {l:Array Bool} {j i:Nat} (hj:j∈Region.ready .any ops l) (hp:predB ops i j=true):l.getD i false=true:=by
 unfold predB at hp
 cases ho:ops[j]? with
 | none => rw [ho] at hp; cases hp
 | some o =>
  rw [ho] at hp
  simp only [Array.any_eq_true'] at hp
  obtain ⟨e,he,hh⟩:=hp
  simp only [Bool.and_eq_true,beq_iff_eq] at hh
  obtain ⟨o',ho',hall⟩:=(mem_ready.1 hj).2
  rw [ho] at ho';cases ho'
  rw [← hh.2]; exact hall e he hh.1
theorem Run.chain {i:Nat} {D:List Deferred} {Γ:Ctx} {M:Mem} {os:List Oper} {K:List Deferred→Ctx→Mem→Prop} {dr:Bool}
  (h:Run P E ops dr i D Γ M os K):dr=true → ∃ G:Nat→Ctx,G i=Γ∧K D (G (i+os.length)) M ∧ ∀ j o,os[j]? = some o→StepG P E (G (i+j)) M ops o (G (i+j+1)):=by
 induction h with
 | @nil dr i D Γ M K hK => intro _; exact ⟨fun _ => Γ, rfl, hK, fun j o h => by simp at h⟩
 | @act i D Γ M o os K K' _ _ _ => intro h; cases h
 | @conv i D Γ M Γ' M' os K _ _ _ => intro h; cases h
 | @step dr i D Γ M o os K Γ' hs _ ih =>
  intro hd
  obtain ⟨G,h0,hK,hG⟩:=ih hd
  refine ⟨fun j=>if j=i then Γ else G j,by simp,?_,fun j o' hj => ?_⟩
  ·have e1:i+(o :: os).length=i+1+os.length:=by simp only [List.length_cons]; omega
   have e2 : ¬ (i+(o :: os).length=i):=by simp only [List.length_cons]; omega
   show K D (if i+(o :: os).length=i then Γ else G (i+(o :: os).length)) M
   rw [if_neg e2,e1]; exact hK
  ·cases j with
   | zero =>
    simp only [List.getElem?_cons_zero,Option.some.injEq] at hj;subst hj
    simp only [Nat.add_zero,if_true]; rw [if_neg Y,h0]; exact hs
   | succ j =>
    simp only [List.getElem?_cons_succ] at hj
    have:=hG j o' hj
    show StepG P E (if i+(j+1)=i then Γ else G (i+(j+1))) M ops o' (if i+(j+1)+1=i then Γ else G (i+(j+1)+1))
    rw [if_neg Y,if_neg Y,show i+(j+1)=i+1+j by omega]; exact this
def Inv (E:Env) (ops:Array Oper) (n:Nat) (G:Nat→Ctx) (M:Mem) (l:Array Bool) (a:Act) (w:World):Prop :=
 ∀ k,k≤n → ∀ t φ,bP (G k) t=some φ→(∀ j,j<k→dstOf ops j=some t→l.getD j false=true) →
  (∀ j,k≤j→j<ops.size→dstOf ops j=some t→l.getD j false=false)→φ.p (a.tmps.getD t undef) (hv E M w)
theorem fk {n:Nat} {G:Nat→Ctx} {M:Mem} (hG : ∀ j o,j<n→ops[j]? = some o→StepG P E (G j) M ops o (G (j+1))) (hn:n≤ops.size) {t:Nat} {i k:Nat} (hik:i≤k) (hk:k≤n)
    (hno : ∀ j,i≤j→j<k→dstOf ops j≠some t):bP (G k) t=bP (G i) t:=by
  induction k with
  | zero => have : i = 0 := by omega
            subst this;rfl
  | succ k ih =>
    by_cases e:i=k+1
    · subst e;rfl
    · have hk':k<ops.size:=by omega
      have ho:ops[k]? = some ops[k]:=by simp [hk']
      obtain ⟨d, ψ,hd,_,hΓ,_⟩:=(hG k _ Y ho).run ho
      rw [hΓ,bC]
      have hne:d≠t:=by
        intro h;subst h
        exact hno k Y Y (by simp [dstOf,ho,hd])
      rw [if_neg hne]
      exact ih Y Y (fun j h1 h2=>hno j h1 Y)
theorem fK {i j:Nat} {t:Tmp} (hi:dstOf ops i=some t) (hj:dstOf ops j=some t):jW ops i j=true:=by
 simp [jW,hi,hj]
theorem e8 {i j:Nat} {t:Tmp} (hi:dstOf ops i=some t) (hj:t∈dL ops j):jW ops i j=true:=by
 simp [jW,hi,hj]
theorem ey {i j:Nat} {t:Tmp} (hj:dstOf ops j=some t) (hi:t∈dL ops i):jW ops i j=true:=by
 simp [jW,hi,hj]
theorem bD {l:Array Bool} {i j:Nat} (hi:i<l.size):(l.setIfInBounds i true).getD j false=(if i=j then true else l.getD j false):=by
 by_cases h:i=j
 ·subst h;simp [Array.getD_eq_getD_getElem?,hi]
 ·simp [Array.getD_eq_getD_getElem?,h]
def left (ops:Array Oper) (l:Array Bool):Nat:=((List.range ops.size).filter fun i => !l.getD i false).length
theorem eI {l:Array Bool} (hs:l.size=ops.size) {i:Nat} (hi:i<ops.size) (hl:l.getD i false=false):left ops (l.setIfInBounds i true)<left ops l:=by
 unfold left
 have hg : ∀ j,(l.setIfInBounds i true).getD j false=(if i=j then true else l.getD j false):=fun j=>bD Y
 generalize l.setIfInBounds i true=l' at hg
 have key : ∀ r:List Nat,(r.filter fun j => !l'.getD j false).length≤(r.filter fun j => !l.getD j false).length ∧
   (i∈r→(r.filter fun j => !l'.getD j false).length<(r.filter fun j => !l.getD j false).length):=by
  intro r
  induction r with
  | nil => simp
  | cons x r ih =>
   obtain ⟨ih1,ih2⟩:=ih
   rw [List.filter_cons,List.filter_cons,hg x]
   by_cases hx:i=x
   ·subst hx
    rw [if_pos Z,hl,if_neg (by simp),if_pos (by simp)]
    simp only [List.length_cons]; exact ⟨by omega,fun _=>by omega⟩
   ·rw [if_neg hx]
    have hm:i∈x :: r↔i∈r:=by simp [hx]
    rw [hm]
    split
    ·simp only [List.length_cons]; exact ⟨by omega,fun h=>by have:=ih2 h;omega⟩
    ·exact ⟨ih1,ih2⟩
 exact (key _).2 (by simpa using hi)
theorem dc {l:Array Bool} {j:Nat} (hj:j∈Region.ready .any ops l):j<ops.size:=by
 obtain ⟨_,o,ho,_⟩:=mem_ready.1 hj
 exact (Array.getElem?_eq_some_iff.1 ho).1
theorem oi {n:Nat} (hok:gg n ops=true) {l:Array Bool} (hs:l.size=ops.size) {j:Nat} (hj:j<ops.size) (hl:l.getD j false=false) : ∃ i,i∈Region.ready .any ops l:=by
 induction j using Nat.strongRecOn with
 | _ j ih =>
  by_cases h:j∈Region.ready .any ops l
  ·exact ⟨j,h⟩
  ·have ho:ops[j]? = some ops[j]:=by simp [hj]
   rw [mem_ready] at h
   have h1:l.getD j true=false:=by rw [eg Y true false]; exact hl
   have h2 : ¬ ∀ e∈ops[j].after,Region.binds .any e=true→l.getD e.on false=true:=fun hall=>h ⟨h1,_,ho,hall⟩
   obtain ⟨e,h2⟩:=Classical.not_forall.1 h2
   obtain ⟨he,h2⟩:=Classical.not_imp.1 h2
   obtain ⟨hb,h2⟩:=Classical.not_imp.1 h2
   have hlt:=xw hok ho he hb
   exact ih e.on hlt Y (by simpa using h2)
theorem wF {n:Nat} (hok:gg n ops=true) {G:Nat→Ctx} {M:Mem} {D:List Deferred} (hG : ∀ j o,j<n→ops[j]? = some o→StepG P E (G j) M ops o (G (j+1)))
  {Q:Exit→Act→World→Prop} (htail : ∀ a w,St E D (G n) M a w→wpOps P ops Q (List.range' n (ops.size - n)) a w) :
  ∀ (fuel:Nat) (l:Array Bool) (a:Act) (w:World),Lst ops l→left ops l≤fuel→Base E M w→a.tmps.size=E.N→a.defers=D→Inv E ops n G M l a w →
   (∃ i,i<n∧l.getD i false=false)→wpAny P .any ops Q fuel l a w:=by
 have hn:n≤ops.size:=by simp only [gg,Bool.and_eq_true] at hok;exact of_decide_eq_true hok.1
 -- the tail, once the head is done
 have tail : ∀ (m:Nat) (fuel:Nat) (l:Array Bool) (k:Nat) (a:Act) (w:World),k+m=ops.size→n≤k→Lst ops l→(∀ j,j<ops.size→(l.getD j false=true↔j<k))→m≤fuel →
   wpOps P ops Q (List.range' k m) a w→wpAny P .any ops Q fuel l a w:=by
  intro m
  induction m with
  | zero =>
   intro fuel l k a w hkm hnk hl hiff _ h
   have hr:Region.ready .any ops l = []:=by
    rw [List.eq_nil_iff_forall_not_mem]
    intro j hj
    have h1:=dc hj
    have h2:=(mem_ready.1 hj).1
    have h3:=(hiff j h1).2 Y
    rw [eg (by have:=hl.size;omega) true false,h3] at h2;cases h2
   have hq:Q .normal a w:=by simpa [wpOps] using h
   cases fuel with
   | zero => exact ⟨hr, hq⟩
   | succ f => exact ⟨fun _ => hq, fun i hi => by rw [hr] at hi; cases hi⟩
  | succ m ih =>
   intro fuel l k a w hkm hnk hl hiff hf h
   obtain ⟨f,rfl⟩ : ∃ f,fuel=f+1:=⟨fuel - 1,by omega⟩
   have hsz:=hl.size
   have hkl:l.getD k false=false:=by
    rw [← Bool.not_eq_true]; intro h';have:=(hiff k Y).1 h';omega
   refine ⟨fun hr => ?_,fun i hi => ?_⟩
   ·obtain ⟨i,hi⟩:=oi hok hsz (j:=k) Y hkl
    rw [hr] at hi;cases hi
   ·have hi1:=dc hi
    have hi2:=(mem_ready.1 hi).1
    rw [eg Y true false] at hi2
    have hik:k≤i:=by
     rcases Nat.lt_or_ge i k with h' | h'
     ·rw [(hiff i hi1).2 h'] at hi2;cases hi2
     ·exact h'
    have:i=k:=by
     rcases Nat.lt_or_ge k i with h' | h'
     ·rcases cY hok h' hi1 with hp | ⟨hp,_⟩
      ·have:=cH hi hp;rw [this] at hkl;cases hkl
      ·omega
     ·omega
    subst this
    rw [List.range'_succ,wpOps_cons] at h
    refine wpOp_mono (fun a' w' h' => ?_) h
    refine ih f _ (i+1) a' w' Y Y ⟨by simpa using hsz,?_⟩ ?_ Y h'
    ·intro j hj i' hp
     rw [bD Y] at hj ⊢
     split
     ·rfl
     ·split at hj
      ·rename_i h1;subst h1;exact cH hi hp
      ·exact hl.closed j hj i' hp
    ·intro j hj
     rw [bD Y]
     split
     ·rename_i h1;subst h1;simp
     ·rename_i h1;rw [hiff j hj]; omega
 intro fuel
 induction fuel with
 | zero =>
  intro l a w hl hleft _ _ _ _ ⟨i,hi,hil⟩
  have:=eI (ops:=ops) hl.size (i:=i) Y hil
  omega
 | succ fuel ih =>
  intro l a w hl hleft hbase hsz hdf hinv ⟨i0,hi0,hil0⟩
  have hls:=hl.size
  refine ⟨fun hr => ?_,fun i hi => ?_⟩
  ·obtain ⟨i,hi⟩:=oi hok hls (j:=i0) Y hil0
   rw [hr] at hi;cases hi
  ·have hi1:=dc hi
   have hi2:l.getD i false=false:=by
    have:=(mem_ready.1 hi).1
    rw [eg Y true false] at this;exact this
   have hin:i<n:=by
    rcases Nat.lt_or_ge i n with h' | h'
    ·exact h'
    ·rcases cY hok (i:=i0) (j:=i) Y hi1 with hp | ⟨hp,_⟩
     ·have:=cH hi hp;rw [this] at hil0;cases hil0
     ·omega
   have ho:ops[i]? = some ops[i]:=by simp [hi1]
   obtain ⟨d, ψ,hd,hN,hΓ,hrun⟩:=(hG i _ hin ho).run ho
   have hdi:dstOf ops i=some d:=by simp [dstOf,ho,hd]
   refine hrun a w hbase (fun t φ ht hlk => ?_) _ Q fun v w' k hv' => ?_
   ·refine hinv i Y t φ hlk (fun j hj hdj => ?_) (fun j hj hjs hdj => ?_)
    ·rcases cY hok hj hi1 with hp | ⟨_,hp⟩
     ·exact cH hi hp
     ·rw [e8 hdj (by simpa [dL,ho] using ht)] at hp;cases hp
    ·rcases Nat.lt_or_ge i j with h' | h'
     ·rw [← Bool.not_eq_true]; intro hlj
      rcases cY hok h' hjs with hp | ⟨_,hp⟩
      ·have:=hl.closed j hlj i hp;rw [this] at hi2;cases hi2
      ·rw [ey hdj (by simpa [dL,ho] using ht)] at hp;cases hp
     ·have:j=i:=by omega
      subst this;exact hi2
   ·have hl':Lst ops (l.setIfInBounds i true):=by
     refine ⟨by simpa using hls,fun j hj i' hp => ?_⟩
     rw [bD Y] at hj ⊢
     split
     ·rfl
     ·split at hj
      ·rename_i h1;subst h1;exact cH hi hp
      ·exact hl.closed j hj i' hp
    have hbase':=hbase.ext k
    have hsz':(a.put (some d) v).tmps.size=E.N:=by simp [Act.put,hsz]
    have hinv':Inv E ops n G M (l.setIfInBounds i true) (a.put (some d) v) w':=by
     intro k' hk' t φ hlk hlo hhi
     by_cases htd:d=t
     ·subst htd
      have hik:i<k':=by
       rcases Nat.lt_or_ge i k' with h' | h'
       ·exact h'
       ·have:=hhi i h' hi1 hdi;rw [bD Y] at this;simp at this
      have hno : ∀ j,i+1≤j→j<k'→dstOf ops j≠some d:=by
       intro j h1 h2 hdj
       have h3:=hlo j h2 hdj
       rw [bD Y,if_neg Y] at h3
       rcases cY hok (i:=i) (j:=j) Y Y with hp | ⟨_,hp⟩
       ·have:=hl.closed j h3 i hp;rw [this] at hi2;cases hi2
       ·rw [fK hdi hdj] at hp;cases hp
      rw [fk hG hn (i:=i+1) Y hk' hno,hΓ,bC,if_pos Z] at hlk
      cases hlk
      rw [cy (by rw [hsz]; exact hN)]; exact hv'
     ·rw [cw htd]
      refine φ.mono (Base.hv_ext k) (hinv k' hk' t φ hlk (fun j hj hdj => ?_) (fun j hj hjs hdj => ?_))
      ·have:=hlo j hj hdj;rw [bD Y] at this
       split at this
       ·rename_i h1;subst h1;rw [hdi] at hdj;cases hdj;exact absurd Z htd
       ·exact this
      ·have:=hhi j hj hjs hdj;rw [bD Y] at this
       split at this
       ·cases this
       ·exact this
    have hleft':=eI (ops:=ops) hls hi1 hi2
    by_cases hmore : ∃ i',i'<n∧(l.setIfInBounds i true).getD i' false=false
    ·exact ih _ _ _ hl' Y hbase' hsz' hdf hinv' hmore
    ·have hall : ∀ j,j<n→(l.setIfInBounds i true).getD j false=true:=by
      intro j hj;rw [← Bool.not_eq_false]; intro h;exact hmore ⟨j,hj,h⟩
     have hlate : ∀ j,n≤j→j<ops.size→(l.setIfInBounds i true).getD j false=false:=by
      intro j hj hjs
      rw [bD Y,if_neg Y, ← Bool.not_eq_true]
      intro hlj
      rcases cY hok (i:=i) (j:=j) Y hjs with hp | ⟨hp,_⟩
      ·have:=hl.closed j hlj i hp;rw [this] at hi2;cases hi2
      ·omega
     have hSt:St E D (G n) M (a.put (some d) v) w' :=
      ⟨hbase',hsz',hdf,fun t φ hlk=>hinv' n (Nat.le_refl _) t φ hlk (fun j hj _=>hall j hj) (fun j hj hjs _=>hlate j hj hjs)⟩
     refine tail (ops.size - n) fuel _ n _ w' Y (Nat.le_refl _) hl' (fun j hj => ?_) ?_ (htail _ _ hSt)
     ·constructor
      ·intro h;rcases Nat.lt_or_ge j n with h' | h'
       ·exact h'
       ·rw [hlate j h' hj] at h;cases h
      ·exact hall j
     ·have:ops.size - n≤left ops (l.setIfInBounds i true):=by
       unfold left
       have h1:(List.range' n (ops.size - n)).Sublist ((List.range ops.size).filter fun i' => !(l.setIfInBounds i true).getD i' false):=by
        have h2:((List.range' n (ops.size - n)).filter fun i' => !(l.setIfInBounds i true).getD i' false)=List.range' n (ops.size - n):=by
         rw [List.filter_eq_self]
         intro j hj;rw [List.mem_range'_1] at hj
         rw [hlate j Y Y]; rfl
        rw [← h2]
        refine List.Sublist.filter _ ?_
        have h3:List.range ops.size=List.range' 0 n ++ List.range' n (ops.size - n):=by
         have := @List.range'_append 0 n (ops.size - n) 1
         rw [List.range_eq_range']
         simp only [Nat.one_mul,Nat.zero_add] at this
         rw [this]; congr 1;omega
        rw [h3]; exact List.sublist_append_right _ _
       have:=h1.length_le;simpa using this
      omega
theorem aT {D:List Deferred} {Γ:Ctx} {M:Mem} {id:Nat} {Q:Exit→Act→World→Prop} (n:Nat) (hm:P.follows .mixedOrders=true) (hok:gg n ops=true) (hn0:0<n)
  (h:Run P E ops true 0 D Γ M (ops.toList.take n) (fun D' Γ' M'=>Run P E ops false n D' Γ' M' (ops.toList.drop n) (fun D' Γ' M'=>PJ E D' Γ' M' .normal Q))):J P E D Γ M (.region id ops true) Q:=by
 intro a w hS
 have hn:n≤ops.size:=by simp only [gg,Bool.and_eq_true] at hok;exact of_decide_eq_true hok.1
 refine eC hm ?_
 have k:Ext w { w with drawn:=w.drawn+1 } := ⟨rfl,rfl,rfl,Nat.le_refl _,fun _ _=>rfl⟩
 obtain ⟨G,hG0,hK,hG⟩:=h.chain Z
 have hlen:(ops.toList.take n).length=n:=by simp [hn]
 rw [hlen,Nat.zero_add] at hK
 refine wF (D:=D) hok (G:=G) (M:=M) (fun j o hj ho => ?_) (fun a' w' hS' => ?_) ops.size _ a _ ⟨by simp,fun j hj => ?_⟩ ?_ (hS.base.ext k) hS.sz hS.df ?_ ⟨0,hn0,?_⟩
 ·have:=hG j o (by rw [List.getElem?_take,if_pos hj]; simpa using ho)
  simpa using this
 ·have:=hK.seq (nrm Q) [] (fun j _=>by simp [List.getElem?_drop]) (fun D' Γ' M' a w hK hS=>by simpa [wpOps] using hK a w hS) a' w' hS'
  simpa using this
 ·simp [Array.getD_eq_getD_getElem?,Array.getElem?_replicate] at hj;split at hj <;> simp at hj
 ·unfold left;refine Nat.le_trans (List.length_filter_le _ _) (by simp)
 ·intro k' hk' t φ hlk hlo _
  have hno : ∀ j,0≤j→j<k'→dstOf ops j≠some t:=by
   intro j _ hj hd
   have:=hlo j hj hd
   simp [Array.getD_eq_getD_getElem?,Array.getElem?_replicate] at this;split at this <;> simp at this
  rw [fk (fun j o hj ho=>by have:=hG j o (by rw [List.getElem?_take,if_pos hj]; simpa using ho);simpa using this) hn (Nat.zero_le _) hk' hno,hG0] at hlk
  exact φ.mono (Base.hv_ext k) (hS.tm t φ hlk)
 ·simp [Array.getD_eq_getD_getElem?,Array.getElem?_replicate]; split <;> rfl
end
end Tor
end
section
namespace Tor
open Go Go.RowKit
/-! ### What a program says of its types -/
def BK:TypeDesc→Bool
 | .struct _ | .array _ _ => true
 | _ => false
def Lay.isAgg:Lay→Bool
 | .one => false
 | .agg _ => true
class LayOf (P:Program) (T:TypeId) (L:outParam Lay):Prop where
 sz:(P.info? T).map (·.size)=some L.sz
 ag:(P.underlying T).map BK=some L.isAgg
class ZeroOf (P:Program) (T:TypeId) (z:outParam Value) (bytes:outParam Nat):Prop where
 zb:(P.info? T).map (fun i=>(i.zero,i.bytes))=some (some z,bytes)
class SliceOf (P:Program) (T:TypeId) (e:outParam TypeId):Prop where
 und:P.underlying T=some (.slice e)
class ArrayOf (P:Program) (T:TypeId) (n:outParam Nat) (e:outParam TypeId):Prop where
 und:P.underlying T=some (.array n e)
class IntOf (P:Program) (T:TypeId) (k:outParam IntKind):Prop where
 und:P.underlying T=some (.int k)
class FieldOf (P:Program) (T:TypeId) (i:Nat) (off:outParam Nat) (L:outParam Lay):Prop where
 ex : ∃ fs f,P.underlying T=some (.struct fs)∧fs[i]? = some f∧f.offset=off∧LayOf P f.type L∧L.sz≠0
def pZ (P:Program) (T:TypeId) (i:Nat):Option (Nat × TypeId) :=
 match P.underlying T with
 | some (.struct fs) => (fs[i]?).map fun f => (f.offset, f.type)
 | _ => none
theorem FieldOf.by_info {P:Program} {T:TypeId} {i off:Nat} {ft:TypeId} {L:Lay} (hL:LayOf P ft L) (h:pZ P T i=some (off,ft)) (hs:L.sz≠0):FieldOf P T i off L where
 ex:=by
  unfold pZ at h
  split at h
  ·rename_i fs hfs
   cases hf:fs[i]? with
   | none => rw [hf] at h; cases h
   | some f =>
    rw [hf] at h;simp only [Option.map_some,Option.some.injEq,Prod.mk.injEq] at h
    obtain ⟨h1,h2⟩:=h
    subst h2
    exact ⟨fs,f,hfs,hf,h1,hL,hs⟩
  ·cases h
section
variable {P:Program} {E:Env} {Γ:Ctx} {M:Mem} {d:Option Tmp} {ty:TypeId} {pos:String} {af:Array Edge} {gd:Option (Nat × Bool)}
theorem LayOf.info {T:TypeId} {L:Lay} (h:LayOf P T L) : ∃ i,P.info? T=some i∧i.size=L.sz:=by
 have:=h.sz
 cases hi:P.info? T with
 | none => rw [hi] at this; cases this
 | some i => rw [hi] at this; exact ⟨i, rfl, by simpa using this⟩
theorem LayOf.und {T:TypeId} {L:Lay} (h:LayOf P T L) : ∃ d,P.underlying T=some d∧BK d=L.isAgg:=by
 have:=h.ag
 cases hi:P.underlying T with
 | none => rw [hi] at this; cases this
 | some i => rw [hi] at this; exact ⟨i, rfl, by simpa using this⟩
theorem ZeroOf.info {T:TypeId} {z:Value} {b:Nat} (h:ZeroOf P T z b) : ∃ i,P.info? T=some i∧i.zero=some z∧i.bytes=b:=by
 have:=h.zb
 cases hi:P.info? T with
 | none => rw [hi] at this; cases this
 | some i => rw [hi] at this; simp at this; exact ⟨i, rfl, this.1, this.2⟩
/-! ### Runs of the model's small steps -/
theorem gT {T:TypeId} {i:TypeInfo} (h:P.info? T=some i) (w:World):(typeInfo T).run P w = .ok i w:=by
 simp [typeInfo,program,h,Sem.run,pure,Bind.bind,Sem.bind]
theorem bj {T:TypeId} {d:TypeDesc} (h:P.underlying T=some d) (w:World):(underlying T).run P w = .ok d w:=by
 simp [underlying,program,h,Sem.run,pure,Bind.bind,Sem.bind]
theorem dY {b o n:Nat} : (⟨b,o,none⟩:Addr).add n=⟨b,o+n,none⟩:=by
 unfold Addr.add;split <;> simp_all
theorem p6 {T:TypeId} {L:Lay} [h:LayOf P T L] (w:World):(isAgg T).run P w = .ok L.isAgg w:=by
 obtain ⟨d,hd,hL⟩:=h.und
 unfold isAgg
 rw [Sem.run_bind,bj hd w]
 cases d <;> simp_all [BK]
theorem cN {T:TypeId} {L:Lay} [h:LayOf P T L] (w:World):(Go.sizeOf T).run P w = .ok L.sz w:=by
 obtain ⟨i,hi,hs⟩:=h.info
 simp [Go.sizeOf,Sem.run_bind,gT hi,hs]
theorem dB {T T':TypeId} {L:Lay} [h:LayOf P T L] {w:World} {b o:Nat} {c:Array Value} {f:Nat × Nat} {x:Value}
  (hb:ct w b=some (c,T',f)) (hx:bT L c o=some x):(loadVar T ⟨b,o,none⟩).run P w = .ok x w:=by
 unfold loadVar
 rw [Sem.run_bind,p6 (L:=L)]
 cases L with
 | one =>
  have:w.cell? ⟨b,o,none⟩=some x:=by rw [kF hb]; exact hx
  simp [Lay.isAgg,run_load,this]
 | agg n =>
  simp only [bT] at hx
  split at hx
  ·rename_i hle
   cases hx
   have hl:=run_loadCells (P:=P) w ⟨b,o,none⟩ n (fun j=>c.getD (o+j) undef) (fun j hj=>by
    rw [dY,kF hb,Array.getD_eq_getD_getElem?]
    have:o+j<c.size:=by omega
    simp [this])
   have he:((List.range n).map fun j=>c.getD (o+j) undef).toArray=c.extract o (o+n):=by
    apply Array.ext
    ·simp;omega
    ·intro i h1 h2
     simp at h1
     have:o+i<c.size:=by omega
     simp [Array.getD_eq_getD_getElem?,this]
   rw [he] at hl
   simp only [Lay.isAgg,Result.andThen_ok,if_true,Sem.run_bind,cN (L := .agg n),Lay.sz,hl,Sem.run_pure]
  ·cases hx
def cz (c:Array Value) (o:Nat) (vs:Array Value):Array Value:=(c.toList.take o ++ vs.toList ++ c.toList.drop (o+vs.size)).toArray
theorem cW {c vs:Array Value} {o:Nat} (h:o+vs.size≤c.size):(cz c o vs).size=c.size:=by
 simp [cz]; omega
theorem eO {c vs:Array Value} {o:Nat} (h:o+vs.size≤c.size) (j:Nat):(cz c o vs)[j]? = if o≤j∧j<o+vs.size then vs[j - o]? else c[j]? := by
 have hm:min o c.size=o:=by omega
 simp only [cz,List.getElem?_toArray,List.getElem?_append,List.length_take,List.length_append,Array.length_toList,List.getElem?_take,List.getElem?_drop,Array.getElem?_toList,hm]
 by_cases h1:j<o+vs.size
 ·rw [if_pos h1]
  by_cases h2:j<o
  ·rw [if_pos h2,if_pos h2,if_neg Y]
  ·rw [if_neg h2,if_pos Y]
 ·rw [if_neg h1,if_neg Y]; congr 1;omega
theorem cQ (c:Array Value) (o n j:Nat):(c.extract o (o+n))[j]? = if j<n then c[o+j]? else none:=by
 rw [Array.getElem?_extract]
 by_cases h1:j<n
 ·rw [if_pos h1]
  by_cases h2:o+j<c.size
  ·rw [if_pos Y]
  ·rw [if_neg Y,Array.getElem?_eq_none Y]
 ·rw [if_neg h1,if_neg Y]
theorem dC {T T':TypeId} {L:Lay} [h:LayOf P T L] {w:World} {b o:Nat} {c:Array Value} {v:Value}
  (hb:ct w b=some (c,T',(0,0))) (hs:v.cells.size=L.sz) (ho:o+L.sz≤c.size) (h1:v.cells.all (·.oneCell')=true) :
  (storeVar T ⟨b,o,none⟩ v).run P w = .ok () (w.setRow b (cz c o v.cells)):=by
 unfold storeVar
 rw [Sem.run_bind,cN (L:=L)]
 simp only [Result.andThen_ok,hs,ne_eq,not_true,if_false]
 have:=run_storeCells_at (P:=P) b o T' v.cells.toList 0 c w (hP hb) (by simp;omega) (fun x hx=>(Array.all_eq_true_iff_forall_mem.1 h1) x (by simpa using hx))
 simp only [Nat.add_zero,Array.length_toList] at this
 simpa [cz] using this
/-! ### Values by their cells -/
theorem dS {L:Lay} {c:Array Value} {o:Nat} {v:Value} (ho:o+L.sz≤c.size) (hs:v.cells.size=L.sz) (hv:bT L v.cells 0=some v) :
  bT L (cz c o v.cells) o=some v:=by
 cases L with
 | one =>
  simp only [bT,Lay.sz] at *
  rw [eO Y,if_pos Y]; simpa using hv
 | agg n =>
  simp only [bT,Lay.sz] at *
  have h1:0+n≤v.cells.size:=by omega
  rw [if_pos h1] at hv
  rw [cW Y,if_pos ho]
  have he:v.cells.extract 0 n=v.cells:=by
   apply Array.ext_getElem?; intro i
   have:=cQ v.cells 0 n i
   rw [Nat.zero_add] at this
   rw [this]; split
   ·rw [Nat.zero_add]
   ·rw [Array.getElem?_eq_none Y]
  rw [← hv,Nat.zero_add,he]; congr 2
  apply Array.ext_getElem?; intro i
  rw [cQ,eO Y]
  by_cases h2:i<n
  ·rw [if_pos h2,if_pos Y]; congr 1;omega
  ·rw [if_neg h2,Array.getElem?_eq_none Y]
theorem dN {L':Lay} {c vs:Array Value} {o o':Nat} (ho:o+vs.size≤c.size) (hd:o'+L'.sz≤o∨o+vs.size≤o') :
  bT L' (cz c o vs) o'=bT L' c o':=by
 cases L' with
 | one =>
  simp only [bT,Lay.sz] at *
  rw [eO ho,if_neg Y]
 | agg n =>
  simp only [bT,Lay.sz] at *
  rw [cW ho]
  split
  ·congr 2
   apply Array.ext_getElem?; intro i
   rw [cQ,cQ]
   split
   ·rw [eO ho,if_neg Y]
   ·rfl
  ·rfl
end
end Tor
end
section
set_option linter.unusedSectionVars false
namespace Tor
open Go Go.RowKit
section
variable {P:Program} {E:Env} {Γ:Ctx} {M:Mem} {d:Option Tmp} {ty:TypeId} {pos:String} {af:Array Edge} {gd:Option (Nat × Bool)}
theorem aP.ofRun' {o:Oper} {ψ:VT} (h : ∀ (a:Act) (w:World),Base E M w→(∀ x φ,x∈o.op.operands→aQ Γ x=some φ→φ.p (a.eval x) (hv E M w)) →
  ∃ v w',(execOp a.eval o).run P w = .ok (.value v) w'∧Ext w w'∧ψ.p v (hv E M w')):aP P E Γ M o ψ:=by
 intro a w hb hf next Q hn
 obtain ⟨v,w',hr,he,hp⟩:=h a w hb hf
 unfold Oper.wp;rw [hr]; exact hn v w' he hp
theorem aP.ofRun {o:Oper} {ψ:VT} (h : ∀ (a:Act) (w:World),Base E M w→(∀ x φ,x∈o.op.operands→aQ Γ x=some φ→φ.p (a.eval x) (hv E M w)) →
  ∃ v,(execOp a.eval o).run P w = .ok (.value v) w∧ψ.p v (hv E M w)):aP P E Γ M o ψ :=
 aP.ofRun' fun a w hb hf=>let ⟨v,hr,hp⟩:=h a w hb hf;⟨v,w,hr,Ext.refl w,hp⟩
theorem ab {x:Operand} {φ:VT} (hx:aQ Γ x=some φ):aP P E Γ M ⟨d, .move x,ty,pos,af,gd⟩ φ :=
 aP.ofRun fun a w hb hf=>⟨a.eval x,by simp [execOp],hf x φ (by simp [Op.operands]) hx⟩
theorem ai {x:Operand} {φ:VT} (hx:aQ Γ x=some φ):aP P E Γ M ⟨d, .assign x,ty,pos,af,gd⟩ φ :=
 aP.ofRun fun a w hb hf=>⟨a.eval x,by simp [execOp],hf x φ (by simp [Op.operands]) hx⟩
theorem bH {x:Operand} {a:Addr} (hx:aQ Γ x=some (one (.pointer (some a)))):aP P E Γ M ⟨d, .nilCheck x,ty,pos,af,gd⟩ (one (.pointer (some a))) :=
 aP.ofRun fun ac w hb hf=>by
  have h1:ac.eval x = .pointer (some a):=hf x _ (by simp [Op.operands]) hx
  exact ⟨_,by simp [execOp,h1],rfl⟩
/-! ### Loads -/
theorem aJ {T:TypeId} {L:Lay} [LayOf P T L] {x:Operand} {φ:VT} (hx:aQ Γ x=some (cv L φ)):aP P E Γ M ⟨d, .load T x,ty,pos,af,gd⟩ φ :=
 aP.ofRun fun a w hb hf=>by
  obtain ⟨b,o,c,T',f,v,hv',hc,hx',hp⟩:=hf x _ (by simp [Op.operands]) hx
  refine ⟨v,?_,hp⟩
  simp only [execOp,hv',Instr.loadAt,Instr.sureAddr,Sem.run_bind,Sem.run_pure,Result.andThen_ok,dB (xr _ _ _ _ hc) hx']
def eP (b j sz:Nat):VT:=one (.pointer (some ⟨b,j*sz,none⟩))
theorem eh {M:Mem} {w:World} (hb:Base E M w) {i:Nat} {o:Own} (hM:M[i]? = some o):o.p (raw w) (hv E M w):=hb.mem o (List.mem_of_getElem? hM)
theorem bk {T T':TypeId} {L:Lay} [LayOf P T L] {x:Operand} {b j cap n:Nat} {φ:Nat→VT} (i:Nat) (hx:aQ Γ x=some (eP b j L.sz)) (hM:M[i]? = some (aU (some b) T' L cap n φ)) (hj:j<n) :
  aP P E Γ M ⟨d, .load T x,ty,pos,af,gd⟩ (φ j) :=
 aP.ofRun fun a w hb hf=>by
  have h1:a.eval x = .pointer (some ⟨b,j*L.sz,none⟩):=hf x _ (by simp [Op.operands]) hx
  obtain ⟨_,_,_,h4⟩:=eh hb hM
  obtain ⟨c,hc,_,he⟩:=h4 b Z
  obtain ⟨v,hx',hp⟩:=he j hj
  refine ⟨v,?_,hp⟩
  simp only [execOp,h1,Instr.loadAt,Instr.sureAddr,Sem.run_bind,Sem.run_pure,Result.andThen_ok,dB hc hx']
def gy:cD→Nat→Option (Lay × VT)
 | [], _ => none
 | (k, l, v) :: r, t => bif Nat.beq k t then some (l, v) else gy r t
theorem fl : ∀ {cs:cD} {t:Nat} {l:Lay} {v:VT},gy cs t=some (l,v)→(t,l,v)∈cs
 | [], _, _, _, h => by cases h
 | (k, l', v') :: r, t, l, v, h => by
  rw [gy] at h
  by_cases e:Nat.beq k t=true
  ·rw [e] at h;simp only [cond_true,Option.some.injEq,Prod.mk.injEq] at h
   have:=Nat.eq_of_beq_eq_true e;subst this;rw [h.1,h.2]; exact List.mem_cons_self
  ·have e':Nat.beq k t=false:=by cases h':Nat.beq k t with | true=>exact absurd h' e | false=>rfl
   rw [e'] at h;exact List.mem_cons_of_mem _ (fl h)
theorem ak {T T':TypeId} {L:Lay} [LayOf P T L] {x:Operand} {b o m:Nat} {cs:cD} {φ:VT} (i:Nat) (hx:aQ Γ x=some (one (.pointer (some ⟨b,o,none⟩)))) (hM:M[i]? = some (aW b T' m cs)) (hl:gy cs o=some (L, φ)) :
  aP P E Γ M ⟨d, .load T x,ty,pos,af,gd⟩ φ :=
 aP.ofRun fun a w hb hf=>by
  have h1:a.eval x = .pointer (some ⟨b,o,none⟩):=hf x _ (by simp [Op.operands]) hx
  obtain ⟨c,hc,_,_,hcs⟩:=eh hb hM
  obtain ⟨v,hx',hp⟩:=hcs _ (fl hl)
  refine ⟨v,?_,hp⟩
  simp only [execOp,h1,Instr.loadAt,Instr.sureAddr,Sem.run_bind,Sem.run_pure,Result.andThen_ok,dB hc hx']
theorem ay {T T':TypeId} {m:Nat} [LayOf P T (.agg m)] {x:Operand} {b:Nat} {cs:cD} (i:Nat) (hx:aQ Γ x=some (one (.pointer (some ⟨b,0,none⟩)))) (hM:M[i]? = some (aW b T' m cs)) :
  aP P E Γ M ⟨d, .load T x,ty,pos,af,gd⟩ (bA m cs) :=
 aP.ofRun fun a w hb hf=>by
  have h1:a.eval x = .pointer (some ⟨b,0,none⟩):=hf x _ (by simp [Op.operands]) hx
  obtain ⟨c,hc,hs,ha,hcs⟩:=eh hb hM
  refine ⟨.agg c,?_,c,rfl,hs,ha,hcs⟩
  have hx':bT (.agg m) c 0=some (.agg c):=by simp [bT, ← hs]
  simp only [execOp,h1,Instr.loadAt,Instr.sureAddr,Sem.run_bind,Sem.run_pure,Result.andThen_ok,dB hc hx']
/-! ### Fields -/
theorem sd {T:TypeId} {i off:Nat} {L:Lay} (h:FieldOf P T i off L) {b o:Nat} (w:World):(Instr.fieldAt T (.pointer (some ⟨b,o,none⟩)) i).run P w = .ok (.pointer (some ⟨b,o+off,none⟩)) w:=by
 obtain ⟨fs,f,h1,h2,h3,h4,h5⟩:=h.ex
 have hs:(Go.sizeOf f.type).run P w = .ok L.sz w:=cN w
 unfold Instr.fieldAt
 rw [Sem.run_bind,bj h1]
 simp only [Result.andThen_ok,h2,Instr.sureAddr,Sem.run_bind,Sem.run_pure,fieldPlace,hs,h5,if_false,dY,h3]
theorem ah {T:TypeId} {fi off:Nat} {L:Lay} [hF:FieldOf P T fi off L] {x:Operand} {b o:Nat} (hx:aQ Γ x=some (one (.pointer (some ⟨b,o,none⟩)))) :
  aP P E Γ M ⟨d, .fieldAddr T x fi,ty,pos,af,gd⟩ (one (.pointer (some ⟨b,o+off,none⟩))) :=
 aP.ofRun fun a w hb hf=>by
  have h1:a.eval x = .pointer (some ⟨b,o,none⟩):=hf x _ (by simp [Op.operands]) hx
  refine ⟨_,?_,rfl⟩
  simp only [execOp,h1,Sem.run_bind,sd hF,Result.andThen_ok,Sem.run_pure]
theorem ol {T:TypeId} {L:Lay} [h:LayOf P T L] {c:Array Value} {o:Nat} {x:Value} (hx:bT L c o=some x) (w:World):(part T c o).run P w = .ok x w:=by
 unfold part
 rw [Sem.run_bind,p6 (L:=L)]
 cases L with
 | one => simp only [bT] at hx; simp [Lay.isAgg, hx]
 | agg n =>
  simp only [bT] at hx
  split at hx
  ·cases hx;simp only [Lay.isAgg,Result.andThen_ok,if_true,Sem.run_bind,cN (L := .agg n),Lay.sz,Sem.run_pure]
  ·cases hx
theorem va {T:TypeId} {fi off m:Nat} {L:Lay} [hF:FieldOf P T fi off L] {x:Operand} {cs:cD} {φ:VT} (hx:aQ Γ x=some (bA m cs)) (hl:gy cs off=some (L, φ)) :
  aP P E Γ M ⟨d, .field T x fi,ty,pos,af,gd⟩ φ :=
 aP.ofRun fun a w hb hf=>by
  obtain ⟨c,hv',hs,ha,hcs⟩:=hf x _ (by simp [Op.operands]) hx
  obtain ⟨y,hy,hp⟩:=hcs _ (fl hl)
  obtain ⟨fs,f,h1,h2,h3,h4,h5⟩:=hF.ex
  subst h3
  refine ⟨y,?_,hp⟩
  have h6:=ol (P:=P) (T:=f.type) hy w
  simp only [execOp,hv',Instr.field,Sem.run_bind,bj h1,Result.andThen_ok,h2,asAgg,Sem.run_pure,h6]
theorem se : ∀ {φs:List VT} {vs:List Value} {h:Hp} {i:Nat} {φ:VT},gS φs vs h→φs[i]? = some φ → ∃ v,vs[i]? = some v∧φ.p v h
 | [], [], _, _, _, _, e => by simp at e
 | φ :: φs, v :: vs, h, 0, ψ, ⟨a, _⟩, e => by simp at e; subst e; exact ⟨v, rfl, a⟩
 | φ :: φs, v :: vs, h, i + 1, ψ, ⟨_, b⟩, e => by simp at e; obtain ⟨u, h1, h2⟩ := se b e; exact ⟨u, by simpa using h1, h2⟩
theorem aq {x:Operand} {i:Nat} {φs:List VT} {φ:VT} (hx:aQ Γ x=some (bM φs)) (hi:φs[i]? = some φ):aP P E Γ M ⟨d, .extract x i,ty,pos,af,gd⟩ φ :=
 aP.ofRun fun a w hb hf=>by
  obtain ⟨vs,hv',hp⟩:=hf x _ (by simp [Op.operands]) hx
  obtain ⟨v,h1,h2⟩:=se hp hi
  exact ⟨v,by simp [execOp,hv',Instr.extract,h1],h2⟩
/-! ### Elements -/
theorem ei {T e:TypeId} {L:Lay} [hS:SliceOf P T e] [hL:LayOf P e L] {x y:Operand} {n:Nat} {φ:Nat→VT} {k:IntKind} {iv:Int} (hx:aQ Γ x=some (slT L n φ)) (hy:aQ Γ y=some (one (.int k iv)))
  (h0:0≤iv) (h1:iv<n):aP P E Γ M ⟨d, .indexAddr T x y,ty,pos,af,gd⟩ (cv L (φ iv.toNat)) :=
 aP.ofRun fun a w hb hf=>by
  obtain ⟨ad,cap,hv',_,_,he⟩:=hf x _ (by simp [Op.operands]) hx
  have hy':a.eval y = .int k iv:=hf y _ (by simp [Op.operands]) hy
  obtain ⟨b,o,c,T',f,v,h2,h3,h4,h5⟩:=he iv.toNat Y
  refine ⟨.pointer (some ⟨b,o+iv.toNat*L.sz,none⟩),?_,b,_,c,T',f,v,rfl,h3,h4,h5⟩
  have hi:0≤iv∧iv<(n:Int):=⟨h0,h1⟩
  simp [execOp,hv',hy',Instr.indexAt,asIntOf,bj hS.und,h2,hi,cN (L:=L),dY]
theorem xx {T e:TypeId} {L:Lay} [hS:SliceOf P T e] [hL:LayOf P e L] {x y:Operand} {b n cap:Nat} {k:IntKind} {iv:Int} (hx:aQ Γ x=some (one (slV (some b) n cap))) (hy:aQ Γ y=some (one (.int k iv)))
  (h0:0≤iv) (h1:iv<n):aP P E Γ M ⟨d, .indexAddr T x y,ty,pos,af,gd⟩ (eP b iv.toNat L.sz) :=
 aP.ofRun fun a w hb hf=>by
  have hx':a.eval x = .slice (some ⟨b,0,none⟩) n cap:=hf x _ (by simp [Op.operands]) hx
  have hy':a.eval y = .int k iv:=hf y _ (by simp [Op.operands]) hy
  refine ⟨.pointer (some ⟨b,iv.toNat*L.sz,none⟩),?_,rfl⟩
  have hi:0≤iv∧iv<(n:Int):=⟨h0,h1⟩
  simp [execOp,hx',hy',Instr.indexAt,asIntOf,bj hS.und,hi,cN (L:=L),dY]
theorem ax {T e:TypeId} {L:Lay} [hS:SliceOf P T e] [hL:LayOf P e L] {x y:Operand} {n j:Nat} {φ:Nat→VT} {k:IntKind} (hx:aQ Γ x=some (slT L n φ)) (hy:aQ Γ y=some (one (.int k (j:Int))))
  (h1:j<n):aP P E Γ M ⟨d, .indexAddr T x y,ty,pos,af,gd⟩ (cv L (φ j)):=by
 have:=ei (P:=P) (e:=e) (E:=E) (M:=M) (d:=d) (ty:=ty) (pos:=pos) (af:=af) (gd:=gd) (L:=L) (T:=T) hx hy Y Y
 rwa [Int.toNat_natCast] at this
theorem an {T e:TypeId} {L:Lay} [hS:SliceOf P T e] [hL:LayOf P e L] {x y:Operand} {b n cap j:Nat} {k:IntKind} (hx:aQ Γ x=some (one (slV (some b) n cap))) (hy:aQ Γ y=some (one (.int k (j:Int))))
  (h1:j<n):aP P E Γ M ⟨d, .indexAddr T x y,ty,pos,af,gd⟩ (eP b j L.sz):=by
 have:=xx (P:=P) (e:=e) (E:=E) (M:=M) (d:=d) (ty:=ty) (pos:=pos) (af:=af) (gd:=gd) (L:=L) (T:=T) hx hy Y Y
 rwa [Int.toNat_natCast] at this
theorem aZ {T e:TypeId} [hS:SliceOf P T e] {x:Operand} {L:Lay} {n:Nat} {φ:Nat→VT} (hx:aQ Γ x=some (slT L n φ)) :
  aP P E Γ M ⟨d, .call ⟨.builtin .len, #[x], #[T]⟩,ty,pos,af,gd⟩ (one (.int .i64 n)) :=
 aP.ofRun fun a w hb hf=>by
  obtain ⟨ad,cap,hv',_⟩:=hf x _ (by simp [Op.operands,Call.operands]) hx
  refine ⟨_,?_,rfl⟩
  simp [execOp,resolve,invoke,builtin,Builtin.len_,hv',bj hS.und,goInt]
theorem gL {T e:TypeId} [hS:SliceOf P T e] {x:Operand} {sv:Option Nat} {n cap:Nat} (hx:aQ Γ x=some (one (slV sv n cap))) :
  aP P E Γ M ⟨d, .call ⟨.builtin .len, #[x], #[T]⟩,ty,pos,af,gd⟩ (one (.int .i64 n)) :=
 aP.ofRun fun a w hb hf=>by
  have hx':a.eval x=slV sv n cap:=hf x _ (by simp [Op.operands,Call.operands]) hx
  refine ⟨_,?_,rfl⟩
  simp [execOp,resolve,invoke,builtin,Builtin.len_,hx',slV,bj hS.und,goInt]
/-! ### Numbers -/
theorem ck {T T':TypeId} {x y:Operand} {k:IntKind} {a b r:Int} (hx:aQ Γ x=some (one (.int k a))) (hy:aQ Γ y=some (one (.int k b))) (hr:k.wrap (a+b)=r) :
  aP P E Γ M ⟨d, .binOp .add T x y T',ty,pos,af,gd⟩ (one (.int k r)) :=
 aP.ofRun fun ac w hb hf=>by
  have hx':ac.eval x = .int k a:=hf x _ (by simp [Op.operands]) hx
  have hy':ac.eval y = .int k b:=hf y _ (by simp [Op.operands]) hy
  exact ⟨_,by simp [execOp,hx',hy',eqGuard,binOp,Op.intArith,hr],rfl⟩
theorem e9 {T T':TypeId} {x y:Operand} {k:IntKind} {a b r:Int} (hx:aQ Γ x=some (one (.int k a))) (hy:aQ Γ y=some (one (.int k b))) (hr:k.wrap (a - b)=r) :
  aP P E Γ M ⟨d, .binOp .sub T x y T',ty,pos,af,gd⟩ (one (.int k r)) :=
 aP.ofRun fun ac w hb hf=>by
  have hx':ac.eval x = .int k a:=hf x _ (by simp [Op.operands]) hx
  have hy':ac.eval y = .int k b:=hf y _ (by simp [Op.operands]) hy
  exact ⟨_,by simp [execOp,hx',hy',eqGuard,binOp,Op.intArith,hr],rfl⟩
theorem nG {T T':TypeId} {x y:Operand} {k:IntKind} {a b r:Int} (hx:aQ Γ x=some (one (.int k a))) (hy:aQ Γ y=some (one (.int k b))) (hr:k.wrap (a*b)=r) :
  aP P E Γ M ⟨d, .binOp .mul T x y T',ty,pos,af,gd⟩ (one (.int k r)) :=
 aP.ofRun fun ac w hb hf=>by
  have hx':ac.eval x = .int k a:=hf x _ (by simp [Op.operands]) hx
  have hy':ac.eval y = .int k b:=hf y _ (by simp [Op.operands]) hy
  exact ⟨_,by simp [execOp,hx',hy',eqGuard,binOp,Op.intArith,hr],rfl⟩
theorem CO {T T':TypeId} {x y:Operand} {k:IntKind} {a b r:Int} (hx:aQ Γ x=some (one (.int k a))) (hy:aQ Γ y=some (one (.int k b))) (h0:b≠0) (hr:k.wrap (a.tdiv b)=r) :
  aP P E Γ M ⟨d, .binOp .quo T x y T',ty,pos,af,gd⟩ (one (.int k r)) :=
 aP.ofRun fun ac w hb hf=>by
  have hx':ac.eval x = .int k a:=hf x _ (by simp [Op.operands]) hx
  have hy':ac.eval y = .int k b:=hf y _ (by simp [Op.operands]) hy
  exact ⟨_,by simp [execOp,hx',hy',eqGuard,binOp,Op.intDiv,h0,hr],rfl⟩
theorem jX {T T':TypeId} {x y:Operand} {k:IntKind} {a b r:Int} (hx:aQ Γ x=some (one (.int k a))) (hy:aQ Γ y=some (one (.int k b))) (h0:b≠0) (hr:a.tmod b=r) :
  aP P E Γ M ⟨d, .binOp .rem T x y T',ty,pos,af,gd⟩ (one (.int k r)) :=
 aP.ofRun fun ac w hb hf=>by
  have hx':ac.eval x = .int k a:=hf x _ (by simp [Op.operands]) hx
  have hy':ac.eval y = .int k b:=hf y _ (by simp [Op.operands]) hy
  exact ⟨_,by simp [execOp,hx',hy',eqGuard,binOp,Op.intDiv,h0,hr],rfl⟩
theorem CP {T T':TypeId} {x y:Operand} {k:IntKind} {a b r:Int} (hx:aQ Γ x=some (one (.int k a))) (hy:aQ Γ y=some (one (.int k b))) (hr:k.wrap ((BitVec.ofInt k.bits a &&& BitVec.ofInt k.bits b).toNat:Int)=r) :
  aP P E Γ M ⟨d, .binOp .and T x y T',ty,pos,af,gd⟩ (one (.int k r)) :=
 aP.ofRun fun ac w hb hf=>by
  have hx':ac.eval x = .int k a:=hf x _ (by simp [Op.operands]) hx
  have hy':ac.eval y = .int k b:=hf y _ (by simp [Op.operands]) hy
  exact ⟨.int k r,by rw [← hr]; simp [execOp,hx',hy',eqGuard,binOp,Op.intBits],rfl⟩
theorem CQ {T T':TypeId} {x y:Operand} {k:IntKind} {a b r:Int} (hx:aQ Γ x=some (one (.int k a))) (hy:aQ Γ y=some (one (.int k b))) (hr:k.wrap ((BitVec.ofInt k.bits a ||| BitVec.ofInt k.bits b).toNat:Int)=r) :
  aP P E Γ M ⟨d, .binOp .or T x y T',ty,pos,af,gd⟩ (one (.int k r)) :=
 aP.ofRun fun ac w hb hf=>by
  have hx':ac.eval x = .int k a:=hf x _ (by simp [Op.operands]) hx
  have hy':ac.eval y = .int k b:=hf y _ (by simp [Op.operands]) hy
  exact ⟨.int k r,by rw [← hr]; simp [execOp,hx',hy',eqGuard,binOp,Op.intBits],rfl⟩
theorem CS {T T':TypeId} {x y:Operand} {k k':IntKind} {a b r:Int} (hx:aQ Γ x=some (one (.int k a))) (hy:aQ Γ y=some (one (.int k' b))) (h0:0≤b) (hr:k.wrap (a*2^(min b.toNat k.bits))=r) :
  aP P E Γ M ⟨d, .binOp .shl T x y T',ty,pos,af,gd⟩ (one (.int k r)) :=
 aP.ofRun fun ac w hb hf=>by
  have hx':ac.eval x = .int k a:=hf x _ (by simp [Op.operands]) hx
  have hy':ac.eval y = .int k' b:=hf y _ (by simp [Op.operands]) hy
  have h1 : ¬ b<0:=by omega
  exact ⟨_,by simp [execOp,hx',hy',eqGuard,binOp,Op.shift,h1,hr],rfl⟩
theorem xy {T T':TypeId} {x y:Operand} {k k':IntKind} {a b r:Int} (hx:aQ Γ x=some (one (.int k a))) (hy:aQ Γ y=some (one (.int k' b))) (h0:0≤b) (hr:a.fdiv (2^(min b.toNat k.bits))=r) :
  aP P E Γ M ⟨d, .binOp .shr T x y T',ty,pos,af,gd⟩ (one (.int k r)) :=
 aP.ofRun fun ac w hb hf=>by
  have hx':ac.eval x = .int k a:=hf x _ (by simp [Op.operands]) hx
  have hy':ac.eval y = .int k' b:=hf y _ (by simp [Op.operands]) hy
  have h1 : ¬ b<0:=by omega
  exact ⟨_,by simp [execOp,hx',hy',eqGuard,binOp,Op.shift,h1,hr],rfl⟩
theorem cn {T T':TypeId} {x y:Operand} {k:IntKind} {a b:Int} (hx:aQ Γ x=some (one (.int k a))) (hy:aQ Γ y=some (one (.int k b))) :
  aP P E Γ M ⟨d, .binOp .eql T x y T',ty,pos,af,gd⟩ (one (.bool (decide (a=b)))) :=
 aP.ofRun fun ac w hb hf=>by
  have hx':ac.eval x = .int k a:=hf x _ (by simp [Op.operands]) hx
  have hy':ac.eval y = .int k b:=hf y _ (by simp [Op.operands]) hy
  refine ⟨_,?_,rfl⟩
  have:(a == b)=decide (a=b):=by by_cases h:a=b <;> simp [h]
  simp [execOp,hx',hy',eqGuard,binOp,Op.intCmp,this]
theorem cE {T T':TypeId} {x y:Operand} {k:IntKind} {a b:Int} (hx:aQ Γ x=some (one (.int k a))) (hy:aQ Γ y=some (one (.int k b))) :
  aP P E Γ M ⟨d, .binOp .neq T x y T',ty,pos,af,gd⟩ (one (.bool (decide (a≠b)))) :=
 aP.ofRun fun ac w hb hf=>by
  have hx':ac.eval x = .int k a:=hf x _ (by simp [Op.operands]) hx
  have hy':ac.eval y = .int k b:=hf y _ (by simp [Op.operands]) hy
  refine ⟨_,?_,rfl⟩
  have:(a != b)=decide (a≠b):=by by_cases h:a=b <;> simp [h]
  simp [execOp,hx',hy',eqGuard,binOp,Op.intCmp,this]
theorem a7 {T T':TypeId} {x y:Operand} {k:IntKind} {a b:Int} (hx:aQ Γ x=some (one (.int k a))) (hy:aQ Γ y=some (one (.int k b))) :
  aP P E Γ M ⟨d, .binOp .lss T x y T',ty,pos,af,gd⟩ (one (.bool (decide (a<b)))) :=
 aP.ofRun fun ac w hb hf=>by
  have hx':ac.eval x = .int k a:=hf x _ (by simp [Op.operands]) hx
  have hy':ac.eval y = .int k b:=hf y _ (by simp [Op.operands]) hy
  exact ⟨_,by simp [execOp,hx',hy',eqGuard,binOp,Op.intCmp],rfl⟩
theorem j8 {T T':TypeId} {x y:Operand} {k:IntKind} {a b:Int} (hx:aQ Γ x=some (one (.int k a))) (hy:aQ Γ y=some (one (.int k b))) :
  aP P E Γ M ⟨d, .binOp .leq T x y T',ty,pos,af,gd⟩ (one (.bool (decide (a≤b)))) :=
 aP.ofRun fun ac w hb hf=>by
  have hx':ac.eval x = .int k a:=hf x _ (by simp [Op.operands]) hx
  have hy':ac.eval y = .int k b:=hf y _ (by simp [Op.operands]) hy
  exact ⟨_,by simp [execOp,hx',hy',eqGuard,binOp,Op.intCmp],rfl⟩
theorem ej {T T':TypeId} {x y:Operand} {k:IntKind} {a b:Int} (hx:aQ Γ x=some (one (.int k a))) (hy:aQ Γ y=some (one (.int k b))) :
  aP P E Γ M ⟨d, .binOp .gtr T x y T',ty,pos,af,gd⟩ (one (.bool (decide (b<a)))) :=
 aP.ofRun fun ac w hb hf=>by
  have hx':ac.eval x = .int k a:=hf x _ (by simp [Op.operands]) hx
  have hy':ac.eval y = .int k b:=hf y _ (by simp [Op.operands]) hy
  exact ⟨_,by simp [execOp,hx',hy',eqGuard,binOp,Op.intCmp],rfl⟩
theorem j9 {T T':TypeId} {x y:Operand} {k:IntKind} {a b:Int} (hx:aQ Γ x=some (one (.int k a))) (hy:aQ Γ y=some (one (.int k b))) :
  aP P E Γ M ⟨d, .binOp .geq T x y T',ty,pos,af,gd⟩ (one (.bool (decide (b≤a)))) :=
 aP.ofRun fun ac w hb hf=>by
  have hx':ac.eval x = .int k a:=hf x _ (by simp [Op.operands]) hx
  have hy':ac.eval y = .int k b:=hf y _ (by simp [Op.operands]) hy
  exact ⟨_,by simp [execOp,hx',hy',eqGuard,binOp,Op.intCmp],rfl⟩
class BoolOf (P:Program) (T:TypeId):Prop where
 und:P.underlying T=some .bool
theorem t3 {T:TypeId} [hB:BoolOf P T] (n:Nat) (a b:Bool) (w:World):(Op.equalIn (n+1) T (.bool a) (.bool b)).run P w = .ok (a == b) w:=by
 unfold Op.equalIn
 rw [Sem.run_bind,bj hB.und]; rfl
theorem ve {T:TypeId} [hB:BoolOf P T] (a b:Bool) (w:World):(Op.equal T (.bool a) (.bool b)).run P w = .ok (a == b) w:=t3 9999 a b w
theorem fv {T T':TypeId} [hB:BoolOf P T] {x y:Operand} {a b:Bool} (hx:aQ Γ x=some (one (.bool a))) (hy:aQ Γ y=some (one (.bool b))) :
  aP P E Γ M ⟨d, .binOp .eql T x y T',ty,pos,af,gd⟩ (one (.bool (a == b))) :=
 aP.ofRun fun ac w hb hf=>by
  have hx':ac.eval x = .bool a:=hf x _ (by simp [Op.operands]) hx
  have hy':ac.eval y = .bool b:=hf y _ (by simp [Op.operands]) hy
  refine ⟨_,?_,rfl⟩
  simp only [execOp,hx',hy',eqGuard,binOp,Sem.run_bind,ve]; rfl
theorem ka {T T':TypeId} [hB:BoolOf P T] {x y:Operand} {a b:Bool} (hx:aQ Γ x=some (one (.bool a))) (hy:aQ Γ y=some (one (.bool b))) :
  aP P E Γ M ⟨d, .binOp .neq T x y T',ty,pos,af,gd⟩ (one (.bool (!(a == b)))) :=
 aP.ofRun fun ac w hb hf=>by
  have hx':ac.eval x = .bool a:=hf x _ (by simp [Op.operands]) hx
  have hy':ac.eval y = .bool b:=hf y _ (by simp [Op.operands]) hy
  refine ⟨_,?_,rfl⟩
  simp only [execOp,hx',hy',eqGuard,binOp,Sem.run_bind,ve]; rfl
theorem bF {T:TypeId} {x:Operand} {a:Bool} (hx:aQ Γ x=some (one (.bool a))):aP P E Γ M ⟨d, .unOp .not T x,ty,pos,af,gd⟩ (one (.bool (!a))) :=
 aP.ofRun fun ac w hb hf=>by
  have hx':ac.eval x = .bool a:=hf x _ (by simp [Op.operands]) hx
  exact ⟨_,by simp [execOp,hx',Op.unary],rfl⟩
theorem Bp {T:TypeId} {x:Operand} {k:IntKind} {a r:Int} (hx:aQ Γ x=some (one (.int k a))) (hr:k.wrap (0 - a)=r):aP P E Γ M ⟨d, .unOp .neg T x,ty,pos,af,gd⟩ (one (.int k r)) :=
 aP.ofRun fun ac w hb hf=>by
  have hx':ac.eval x = .int k a:=hf x _ (by simp [Op.operands]) hx
  exact ⟨.int k r,by rw [← hr]; simp [execOp,hx',Op.unary,Op.intArith],rfl⟩
theorem kb {T T':TypeId} {k k':IntKind} [h1:IntOf P T k] [h2:IntOf P T' k'] {x:Operand} {k0:IntKind} {a r:Int} (hx:aQ Γ x=some (one (.int k0 a))) (hr:k'.wrap a=r) :
  aP P E Γ M ⟨d, .convert T T' x,ty,pos,af,gd⟩ (one (.int k' r)) :=
 aP.ofRun fun ac w hb hf=>by
  have hx':ac.eval x = .int k0 a:=hf x _ (by simp [Op.operands]) hx
  exact ⟨.int k' r,by rw [← hr]; simp [execOp,hx',convert,bj h1.und,bj h2.und,Conv.intToInt],rfl⟩
theorem om {x y:Operand} {ats:Array TypeId} {k:IntKind} {a b:Int} (hx:aQ Γ x=some (one (.int k a))) (hy:aQ Γ y=some (one (.int k b))) :
  aP P E Γ M ⟨d, .call ⟨.builtin .max, #[x,y],ats⟩,ty,pos,af,gd⟩ (one (.int k (max a b))) :=
 aP.ofRun fun ac w hb hf=>by
  have hx':ac.eval x = .int k a:=hf x _ (by simp [Op.operands,Call.operands]) hx
  have hy':ac.eval y = .int k b:=hf y _ (by simp [Op.operands,Call.operands]) hy
  refine ⟨_,?_,rfl⟩
  have:(if b>a then b else a)=max a b:=by omega
  simp [execOp,resolve,invoke,builtin,Builtin.max_,Builtin.max2,hx',hy',this]
theorem Bq {x y:Operand} {ats:Array TypeId} {k:IntKind} {a b:Int} (hx:aQ Γ x=some (one (.int k a))) (hy:aQ Γ y=some (one (.int k b))) :
  aP P E Γ M ⟨d, .call ⟨.builtin .min, #[x,y],ats⟩,ty,pos,af,gd⟩ (one (.int k (min a b))) :=
 aP.ofRun fun ac w hb hf=>by
  have hx':ac.eval x = .int k a:=hf x _ (by simp [Op.operands,Call.operands]) hx
  have hy':ac.eval y = .int k b:=hf y _ (by simp [Op.operands,Call.operands]) hy
  refine ⟨_,?_,rfl⟩
  have:(if b<a then b else a)=min a b:=by omega
  simp [execOp,resolve,invoke,builtin,Builtin.min_,Builtin.min2,hx',hy',this]
end
end Tor
end
section
set_option linter.unusedSectionVars false
namespace Tor
open Go Go.RowKit
section
variable {P:Program} {E:Env} {D:List Deferred} {Γ:Ctx} {M:Mem} {Q:Exit→Act→World→Prop}
/-! ### Control -/
theorem aa {y:Code} (h:J P E D Γ M y Q):PJ E D Γ M .normal (Exit.then (JW P E y Q) Q):=h
theorem ae {x y:Code} (h:J P E D Γ M x (Exit.then (JW P E y Q) Q)):J P E D Γ M (.seq x y) Q:=fun a w hS=>JW.seq (h a w hS)
theorem av (h:PJ E D Γ M .normal Q):J P E D Γ M .skip Q:=fun a w hS _=>wpIn_skip (h a w hS)
theorem zS {l:Nat} (h:PJ E D Γ M .normal Q):J P E D Γ M (.label l) Q:=fun a w hS _=>wpIn_label (h a w hS)
theorem aY {id:Nat} (h:PJ E D Γ M (.exit id) Q):J P E D Γ M (.exit id) Q:=fun a w hS _=>wpIn_exit (h a w hS)
theorem aD (h:PJ E D Γ M .ret Q):J P E D Γ M .ret Q:=fun a w hS _=>wpIn_ret (h a w hS)
theorem zT {c:Code} (h:J P E D Γ M c (Exit.noGoto Q)):J P E D Γ M (.scope c) Q:=fun a w hS hd=>by
 have hR:E.R=none:=hd.resolve_right (by simp [jV])
 rw [hR]; exact wpIn_wide.2 (wp_scope_straight ((h a w hS).wp hR))
theorem ar {id:Nat} {c:Code} (h:J P E D Γ M c (Exit.inBlock id Q)):J P E D Γ M (.block id c) Q:=fun a w hS hd=>wpIn_block (h a w hS hd)
theorem a4 {c:Operand} {x y:Code} {b:Bool} (hc:aQ Γ c=some (one (.bool b))) (ht:b=true→J P E D Γ M x Q) (hf:b=false→J P E D Γ M y Q):J P E D Γ M (.cond c x y) Q :=
 fun a w hS hd=>wpIn_cond_split (dw hS hc) (fun h=>ht h a w hS (hd.imp id fun h=>by simp only [jV,Bool.and_eq_true] at h;exact h.1)) (fun h=>hf h a w hS (hd.imp id fun h=>by simp only [jV,Bool.and_eq_true] at h;exact h.2))
theorem aw {id:Nat} {n:Act→World→Prop} (h:PJ E D Γ M (.exit id) Q):PJ E D Γ M (.exit id) (Exit.then n Q):=h
theorem aE {id:Nat} (h:PJ E D Γ M .normal Q):PJ E D Γ M (.exit id) (Exit.inBlock id Q):=by
 intro a w hS;show if id=id then _ else _;rw [if_pos Z]; exact h a w hS
theorem iL {id id':Nat} (hne':Nat.beq id' id=false) (h:PJ E D Γ M (.exit id') Q):PJ E D Γ M (.exit id') (Exit.inBlock id Q):=by
 intro a w hS;show if id'=id then _ else _;rw [if_neg (Nat.ne_of_beq_eq_false hne')]; exact h a w hS
theorem aB {id:Nat} (h:PJ E D Γ M .normal Q):PJ E D Γ M .normal (Exit.inBlock id Q):=h
theorem a9 {id:Nat} (h:PJ E D Γ M .ret Q):PJ E D Γ M .ret (Exit.inBlock id Q):=h
theorem sf (h:PJ E D Γ M .ret Q):PJ E D Γ M .ret (Exit.noGoto Q):=h
/-! ### Weakening of states -/
def fU (Γ Γ':Ctx):Prop := ∀ t φ',bP Γ' t=some φ' → ∃ φ,bP Γ t=some φ∧VT.le φ φ'
theorem fU.nil:fU Γ []:=fun t φ' h=>by cases h
theorem fU.cons {Γ':Ctx} {t:Nat} {φ φ':VT} (h:bP Γ t=some φ) (hle:VT.le φ φ') (hr:fU Γ Γ'):fU Γ ((t, φ') :: Γ'):=by
 intro s ψ hs
 rw [bC] at hs
 split at hs
 ·rename_i e;subst e;cases hs;exact ⟨φ,h,hle⟩
 ·exact hr s ψ hs
theorem fU.refl (Γ:Ctx):fU Γ Γ:=fun t φ h=>⟨φ,h,H⟩
theorem _root_.DT {P:Prop} (h:P:=by repeat (first | exact fU.nil | refine fU.cons rfl (VT.le_refl _) ?_)):P:=h
theorem _root_.DU {P:Prop} (h:P:=by repeat (first | exact fU.refl _ | exact fU.nil | refine fU.cons Z H ?_ | (refine fU.cons Z (ao ?_) ?_;(congr 1;first | omega | (simp;omega) | simp)))):P:=h
theorem _root_.DV {P:Prop} (h:P:=by repeat (first | exact fU.nil | refine fU.cons Z H ?_ | (refine fU.cons Z (ao ?_) ?_;(congr 1;first | omega | (simp;omega) | simp)))):P:=h
theorem _root_.DW {P:Prop} (h:P:=by repeat (first | exact fU.nil | refine fU.cons Z H ?_)):P:=h
inductive SubM:Mem→Mem→Prop
 | nil : SubM [] []
 | drop {o M M'} : SubM M M' → SubM (o :: M) M'
 | keep {o o' M M'} : Own.le o o' → SubM M M' → SubM (o :: M) (o' :: M')
theorem Own.le_refl (o:Own):Own.le o o:=⟨rfl,fun _ _ h=>h⟩
theorem _root_.DX {a:Own}:Own.le a a:=Own.le_refl _
theorem SubM.refl : ∀ M:Mem,SubM M M
 | [] => .nil
 | o :: M => .keep (Own.le_refl o) (SubM.refl M)
theorem SubM.nilR : ∀ M:Mem,SubM M []
 | [] => .nil
 | _ :: M => .drop (SubM.nilR M)
theorem SubM.sub {M M':Mem} (h:SubM M M'):(a5 M').Sublist (a5 M):=by
 induction h with
 | nil => exact List.Sublist.refl _
 | drop _ ih => exact ih.trans (List.sublist_append_right _ _)
 | keep hle _ ih => simp only [blks_cons, ← hle.1]; exact List.Sublist.append_left ih _
theorem SubM.mem {M M':Mem} (h:SubM M M') : ∀ o'∈M', ∃ o∈M,Own.le o o':=by
 induction h with
 | nil => intro o' h; cases h
 | drop _ ih => intro o' h; obtain ⟨o, h1, h2⟩ := ih o' h; exact ⟨o, List.mem_cons_of_mem _ h1, h2⟩
 | keep hle _ ih =>
  intro o' h
  rcases List.mem_cons.1 h with rfl | h
  ·exact ⟨_,List.mem_cons_self,hle⟩
  ·obtain ⟨o,h1,h2⟩:=ih o' h;exact ⟨o,List.mem_cons_of_mem _ h1,h2⟩
theorem lA {M M':Mem} {w:World} (h : ∀ b∈a5 M',b∈a5 M):Hp.le (hv E M w) (hv E M' w) :=
 lT fun b hb=>by
  rcases List.mem_append.1 hb with h' | h'
  ·exact List.mem_append.2 (.inl h')
  ·exact List.mem_append.2 (.inr (h b h'))
theorem Base.sub {M':Mem} {w:World} (hb:Base E M w) (h:SubM M M'):Base E M' w where
 mem:=fun o' ho'=>let ⟨o,ho,hle⟩:=h.mem o' ho';o'.loc (fun _ _=>rfl) (lA fun b hb'=>h.sub.subset hb') (hle.2 _ _ (hb.mem o ho))
 nd:=h.sub.nodup hb.nd
 dis:=fun b hb'=>hb.dis b (h.sub.subset hb')
 lo:=fun b hb'=>hb.lo b (h.sub.subset hb')
 ex:=fun b hb'=>hb.ex b (by
  rcases List.mem_append.1 hb' with h' | h'
  ·exact List.mem_append.2 (.inl h')
  ·exact List.mem_append.2 (.inr (h.sub.subset h')))
 fr:=hb.fr
theorem St.sub {Γ':Ctx} {M':Mem} {a:Act} {w:World} (hS:St E D Γ M a w) (hg:fU Γ Γ') (hm:SubM M M'):St E D Γ' M' a w where
 base:=hS.base.sub hm
 sz:=hS.sz
 df:=hS.df
 tm:=fun t φ' h=>let ⟨φ,h1,h2⟩:=hg t φ' h;h2 _ _ (φ.mono (lA fun b hb=>hm.sub.subset hb) (hS.tm t φ h1))
theorem cm {Γ':Ctx} {M':Mem} {c:Code} (hg:fU Γ Γ') (hm:SubM M M') (h:J P E D Γ' M' c Q):J P E D Γ M c Q:=fun a w hS=>h a w (hS.sub hg hm)
theorem t4 {Γ':Ctx} {M':Mem} {e:Exit} (hg:fU Γ Γ') (hm:SubM M M') (h:PJ E D Γ' M' e Q):PJ E D Γ M e Q:=fun a w hS=>h a w (hS.sub hg hm)
theorem iX {c:Code} {t:Nat} {φ:VT} {F:Prop} (ht:bP Γ t=some φ) (hF : ∀ v h, φ.p v h→F) (h:F→J P E D Γ M c Q):J P E D Γ M c Q :=
 fun a w hS=>h (hF _ _ (hS.tm t φ ht)) a w hS
theorem kG {c:Code} {i:Nat} {o:Own} {F:Prop} (hM:M[i]? = some o) (hF : ∀ g h,o.p g h→F) (h:F→J P E D Γ M c Q):J P E D Γ M c Q :=
 fun a w hS=>h (hF _ _ (hS.base.mem o (List.mem_of_getElem? hM))) a w hS
theorem zU {c:Code} {t:Nat} {α:Type} {φ:α→VT} (ht:bP Γ t=some (exT φ)) (h : ∀ x,J P E D ((t, φ x) :: Γ) M c Q):J P E D Γ M c Q:=by
 intro a w hS
 obtain ⟨x,hx⟩:=hS.tm t _ ht
 refine h x a w ⟨hS.base,hS.sz,hS.df,fun s ψ hs => ?_⟩
 rw [bC] at hs
 split at hs
 ·rename_i e;subst e;cases hs;exact hx
 ·exact hS.tm s ψ hs
theorem oo {c:Code} {t:Nat} {φ ψ:VT} (ht:bP Γ t=some φ) (hle:VT.le φ ψ) (h:J P E D ((t, ψ) :: Γ) M c Q):J P E D Γ M c Q :=
 cm (fun s χ hs=>by
  rw [bC] at hs
  split at hs
  ·rename_i e;subst e;cases hs;exact ⟨φ,ht,hle⟩
  ·exact ⟨χ,hs,H⟩) (SubM.refl _) h
/-! ### Loops, joins -/
theorem cC {σ:Type} {c:Code} (G:σ→Ctx) (Ms:σ→Mem) (ok:σ→Prop) (μ:σ→Nat) (s0:σ) (h0:ok s0) (hg:fU Γ (G s0)) (hm:SubM M (Ms s0))
  (round : ∀ s,ok s→J P E D (G s) (Ms s) c (Exit.then (fun a w => ∃ s',ok s'∧μ s'<μ s∧St E D (G s') (Ms s') a w) Q)):J P E D Γ M (.loop c) Q:=by
 intro a w hS hd b k cs hro hb hr
 have key : ∀ n s,ok s→μ s=n → ∀ a w,St E D (G s) (Ms s) a w →
   ∃ e a' w',Q e a' w'∧ArrivesIn (Machine.fenced P (fen E.R)) P (lone (b.atR a (.code c :: .inLoop c :: k)) cs w) b k cs e a' w':=by
  intro n
  induction n using Nat.strongRecOn with
  | _ n ih =>
   intro s hs hn a w hS
   obtain ⟨e,a₁,w₁,hq,harr⟩:=round s hs a w hS hd b (.inLoop c :: k) cs hro hb hr
   cases e with
   | normal =>
    obtain ⟨s',hs',hlt,hS'⟩:=hq
    obtain ⟨e₂,a₂,w₂,hq₂,harr₂⟩:=ih (μ s') (hn▸hlt) s' hs' Z a₁ w₁ hS'
    exact ⟨e₂,a₂,w₂,hq₂, .of_steps (StepsIn.trans harr (.one (fenced_calm hb hr Z) stepR_inLoop)) harr₂⟩
   | exit id => exact ⟨_, a₁, w₁, hq, .pass (x := .inLoop c) Z (fun _ _ => .inl (by simp)) harr⟩
   | goto l => exact ⟨_, a₁, w₁, hq, .pass (x := .inLoop c) Z (fun _ _ => .inl (by simp)) harr⟩
   | ret => exact ⟨_, a₁, w₁, hq, .pass (x := .inLoop c) Z (fun _ _ => .inl (by simp)) harr⟩
   | panic ch => exact ⟨_, a₁, w₁, hq, .pass (x := .inLoop c) Z (fun _ _ => .inl (by simp)) harr⟩
   | outgrown => exact ⟨_, a₁, w₁, hq, .pass (x := .inLoop c) Z (fun _ _ => .inl (by simp)) harr⟩
 obtain ⟨e,a',w',hq,harr⟩:=key _ s0 h0 Z a w (hS.sub hg hm)
 exact ⟨e,a',w',hq, .of_steps (.one (fenced_calm hb hr Z) stepR_loop) harr⟩
theorem bK {σ:Type} {G:σ→Ctx} {Ms:σ→Mem} {ok:σ→Prop} {μ:σ→Nat} {s:σ} (s':σ) (h:ok s') (hμ:μ s'<μ s) (hg:fU Γ (G s')) (hm:SubM M (Ms s')) :
  PJ E D Γ M .normal (Exit.then (fun a w => ∃ s',ok s'∧μ s'<μ s∧St E D (G s') (Ms s') a w) Q) :=
 fun a w hS=>⟨s',h,hμ,hS.sub hg hm⟩
theorem dh {σ:Type} {G:σ→Ctx} {Ms:σ→Mem} {ok:σ→Prop} (s:σ) (h:ok s) (hg:fU Γ (G s)) (hm:SubM M (Ms s)) :
  PJ E D Γ M .normal (Exit.then (fun a w => ∃ s,ok s∧St E D (G s) (Ms s) a w) Q) :=
 fun a w hS=>⟨s,h,hS.sub hg hm⟩
/-! ### Calls -/
def Ret (O:List Nat) (ψ:VT) (w:World) (e:Ending) (w':World):Prop := ∃ v,e = .returned v∧ψ.p v (hid O (ct w'))∧Ext w w'
class Fn (P:Program) (f:FuncId):Prop where
 run : ∀ args w,(callFunc f args).run P w = .ok (.enter f args) w
theorem Fn.of {f:FuncId} {fn:Func} (h:P.funcs[f]? = some fn) (h1:fn.name ≠ "runtime.NumGoroutine") (h2:fn.body.isSome=true):Fn P f where
 run:=by
  intro args w
  have h3:fn.body.isNone=false:=by cases hb:fn.body <;> simp_all
  have h4:(fn.name == "runtime.NumGoroutine")=false:=by simpa using h1
  unfold callFunc
  rw [Sem.run_bind]
  have h5:(Go.program).run P w = .ok P w:=rfl
  rw [h5]
  simp only [Result.andThen_ok,h,h4,h3,Bool.false_eq_true,if_false]; rfl
def iM (Γ:Ctx):List Operand→Option (List VT)
 | [] => some []
 | x :: xs => match aQ Γ x, iM Γ xs with
  | some φ, some φs => some (φ :: φs)
  | _, _ => none
theorem iN {a:Act} {h:Hp} : ∀ {xs:List Operand} {φs:List VT},iM Γ xs=some φs→(∀ x φ,x∈xs→aQ Γ x=some φ→φ.p (a.eval x) h)→gS φs (xs.map a.eval) h
  | [], φs, e, _ => by cases e; trivial
  | x :: xs, φs, e, hf => by
    rw [iM] at e
    cases h1:aQ Γ x with
    | none => rw [h1] at e; cases e
    | some φ =>
      cases h2:iM Γ xs with
      | none => rw [h1, h2] at e; cases e
      | some ψs => rw [h1, h2] at e; cases e
                   exact ⟨hf x φ (by simp) h1,iN h2 fun y ψ hy=>hf y ψ (by simp [hy])⟩
variable {d:Option Tmp} {ty:TypeId} {pos:String} {af:Array Edge} {gd:Option (Nat × Bool)}
theorem BL {f:FuncId} [hF:Fn P f] {xs:Array Operand} {ats:Array TypeId} {φs:List VT} {ψ:VT} (hx:iM Γ xs.toList=some φs)
  (hc : ∀ (w:World) (vs:List Value),(∀ b∈E.O ++ a5 M,b<w.heap.size)→gS φs vs (hid (E.O ++ a5 M) (ct w))→Calls P f vs.toArray w (Ret (E.O ++ a5 M) ψ w)) :
  aP P E Γ M ⟨d, .call ⟨.value (.func f),xs,ats⟩,ty,pos,af,gd⟩ ψ:=by
 intro a w hb hf next Q hn
 have hp:=iN (a:=a) (h:=hv E M w) hx (fun x φ hx' he=>hf x φ (by simp [Op.operands,Call.operands]; exact .inr (by simpa using hx')) he)
 have:=hc w _ hb.ex hp
 unfold Oper.wp
 have hr:(execOp a.eval ⟨d, .call ⟨.value (.func f),xs,ats⟩,ty,pos,af,gd⟩).run P w = .ok (.enter f (xs.toList.map a.eval).toArray) w:=by
  have h0:a.eval (.func f) = .func (.func f) #[] #[]:=rfl
  have h9:(xs.map a.eval)=(xs.toList.map a.eval).toArray:=by simp [← Array.toList_map]
  simp [execOp,resolve,Deferred.ofValue,invoke,h0,hF.run,h9]
 rw [hr]
 refine Calls.mono this ?_
 rintro e w' ⟨v,rfl,hv',hext⟩
 exact hn v w' hext hv'
/-! ### Entry and return -/
def iY:Nat→List VT→Ctx
 | _, [] => []
 | i, φ :: φs => (i, φ) :: iY (i + 1) φs
theorem iO {h:Hp} {φ:VT} : ∀ {i t:Nat} {φs:List VT} {vs:List Value},bP (iY i φs) t=some φ→gS φs vs h → ∃ v,i≤t∧vs[t - i]? = some v∧φ.p v h
 | _, _, [], _, e, _ => by cases e
 | i, t, ψ :: φs, v :: vs, e, ⟨h1, h2⟩ => by
  rw [iY,bC] at e
  split at e
  ·rename_i he;subst he;cases e;exact ⟨v,Nat.le_refl _,by simp,h1⟩
  ·rename_i hne
   obtain ⟨u,hle,hu,hp⟩:=iO e h2
   refine ⟨u,by omega,?_,hp⟩
   rw [show t - i=(t - (i+1))+1 by omega]; simpa using hu
theorem lU {h:Hp} : ∀ {φs:List VT} {vs:List Value},gS φs vs h→φs.length=vs.length
 | [], [], _ => rfl
 | _ :: _, _ :: _, ⟨_, h⟩ => by simp [lU h]
 | [], _ :: _, h => h.elim
 | _ :: _, [], h => h.elim
theorem lg {f:FuncId} {fn:Func} {c:Code} {N:Nat} {w:World} {O:List Nat} {φs:List VT} {vs:List Value} {R:Ending→World→Prop}
  (hf:P.funcs[f]? = some fn) (hb:fn.body=some c) (hN:fn.ntmps=N) (hO : ∀ b∈O,b<w.heap.size) (hv':gS φs vs (hid O (ct w))) (hle:φs.length≤N)
  (h:J P ⟨w,O, [],N,none⟩ [] (iY 0 φs) [] c (bodyPost P fn R)):Calls P f vs.toArray w R:=by
 have hl:=lU hv'
 refine calls_of_wp hf hb ((h _ w ⟨⟨by simp,by simp,by simp,by simp,?_,Fr.refl _ _⟩,?_,rfl,?_⟩).wp Z)
 ·intro b hb';exact hO b (by simpa using hb')
 ·simp [hN]; omega
 ·intro t φ e
  obtain ⟨v,_,h2,h3⟩:=iO e hv'
  have h4:hv ⟨w,O, [],N,none⟩ [] w=hid O (ct w):=by simp [hv]
  rw [h4]
  rw [Nat.sub_zero] at h2
  have hlt:=(List.getElem?_eq_some_iff.1 h2).1
  rw [Array.getD_eq_getD_getElem?,Array.getElem?_append_left (by simpa using hlt)]
  simpa [h2] using h3
theorem St.ret {a:Act} {w:World} {w0:World} {O:List Nat} {N:Nat} (hS:St ⟨w0,O, [],N,none⟩ D Γ M a w):Ext w0 w:=hS.base.fr.toExt
theorem aI {n:Act→World→Prop} (h:PJ E D Γ M .ret Q):PJ E D Γ M .ret (Exit.then n Q):=h
end
end Tor
end
section
set_option linter.unusedSectionVars false
namespace Tor
open Go Go.RowKit
section
variable {P:Program} {E:Env} {D:List Deferred} {Γ:Ctx} {M:Mem} {Q:Exit→Act→World→Prop}
theorem si : ∀ {M:Mem} {i:Nat} {o o':Own},M[i]? = some o→o'.bl=o.bl→a5 (M.set i o')=a5 M
 | [], _, _, _, h, _ => by simp at h
 | x :: M, 0, o, o', h, e => by simp at h; subst h; simp [e]
 | x :: M, i + 1, o, o', h, e => by simp at h; simp [si h e]
theorem fF {M:Mem} {i:Nat} {o:Own} (h:M[i]? = some o):o∈M:=List.mem_of_getElem? h
theorem dH {M:Mem} {o:Own} (h:o∈M) {b:Nat} (hb:b∈o.bl):b∈a5 M:=List.mem_flatMap.2 ⟨o,h,hb⟩
theorem oq : ∀ {M:Mem} {i j:Nat} {o o':Own},(a5 M).Nodup→M[i]? = some o→M[j]? = some o'→i≠j → ∀ b,b∈o.bl→b ∉ o'.bl
 | [], _, _, _, _, _, h, _, _, _, _ => by simp at h
 | x :: M, 0, 0, _, _, _, _, _, h, _, _ => absurd Z h
 | x :: M, 0, j + 1, o, o', hn, hi, hj, _, b, hb => by
  simp at hi hj;subst hi
  rw [blks_cons,List.nodup_append] at hn
  intro h;exact hn.2.2 b hb b (dH (fF hj) h) Z
 | x :: M, i + 1, 0, o, o', hn, hi, hj, _, b, hb => by
  simp at hi hj;subst hj
  rw [blks_cons,List.nodup_append] at hn
  intro h;exact hn.2.2 b h b (dH (fF hi) hb) Z
 | x :: M, i + 1, j + 1, o, o', hn, hi, hj, hne, b, hb => by
  simp at hi hj
  rw [blks_cons,List.nodup_append] at hn
  exact oq hn.2.1 hi hj Y b hb
theorem iP {w w':World} {b:Nat} (h:w'.heap[b]? = w.heap[b]?):ct w' b=ct w b:=by unfold ct;rw [h]
theorem St.own {a:Act} {w w':World} (hS:St E D Γ M a w) {i:Nat} {o o':Own} (hM:M[i]? = some o) (hbl:o'.bl=o.bl)
  (hb : ∀ k,k ∉ o.bl→w'.heap[k]? = w.heap[k]?) (hsz:w'.heap.size=w.heap.size) (hos:w'.os=w.os) (ht:w'.tape=w.tape) (hout:w'.output=w.output)
  (hp:o'.p (raw w') (hv E M w)):St E D Γ (M.set i o') a w':=by
 have e1:a5 (M.set i o')=a5 M:=si hM hbl
 have e2:hv E (M.set i o') w'=hv E M w:=by
  unfold hv;rw [e1]; funext b;unfold hid
  by_cases h:b∈E.O ++ a5 M
  ·rw [if_pos h,if_pos h]
  ·rw [if_neg h,if_neg h]
   exact iP (hb b fun hk=>h (List.mem_append.2 (.inr (dH (fF hM) hk))))
 refine ⟨⟨?_,by rw [e1]; exact hS.base.nd,by rw [e1]; exact hS.base.dis,by rw [e1]; exact hS.base.lo,by rw [e1,hsz]; exact hS.base.ex,?_⟩,hS.sz,hS.df,?_⟩
 ·intro q hq
  rw [show hid (E.O ++ a5 (M.set i o')) (ct w')=hv E M w from e2]
  obtain ⟨j,hj⟩:=List.mem_iff_getElem?.1 hq
  rw [List.getElem?_set] at hj
  by_cases hij:i=j
  ·subst hij
   have hlt:=(List.getElem?_eq_some_iff.1 hM).1
   simp [hlt] at hj;subst hj;exact hp
  ·simp [hij] at hj
   refine q.loc (fun b hbq=>(gK (hb b fun hk => ?_)).symm) (Hp.le_refl _) (hS.base.mem q (fF hj))
   exact oq hS.base.nd hM hj hij b hk hbq
 ·have hf:=hS.base.fr
  exact ⟨hos.trans hf.os,ht.trans hf.tape,hout.trans hf.output,by rw [hsz]; exact hf.size,fun k hk hn=>by
   have hko:k ∉ o.bl:=fun h=>by
    rcases hS.base.lo k (dH (fF hM) h) with h' | h'
    ·omega
    ·exact hn h'
   rw [hb k hko]; exact hf.block k hk hn⟩
 ·intro t φ h;rw [e2]; exact hS.tm t φ h
theorem db (w:World) (g:Nat) (c:Array Value) (k:Nat) (h:k≠g):(w.setRow g c).heap[k]? = w.heap[k]? := by
 simp only [World.setRow,Array.getElem?_modify]
 rw [if_neg Y]
theorem dV {w:World} {g:Nat} {c c':Array Value} {T:TypeId} {f:Nat × Nat} (h:ct w g=some (c,T,f)):ct (w.setRow g c') g=some (c',T,f) :=
 nW (setRow_heap w g c c' T f (hP h))
theorem dW (w:World) (g:Nat) (c:Array Value):(w.setRow g c).heap.size=w.heap.size:=by simp [World.setRow]
theorem St.alloc {a:Act} {w:World} (hS:St E D Γ M a w) {o:Own} {c:Array Value} {T:TypeId} (hbl:o.bl = [w.heap.size])
  (hp:o.p (raw (w.alloc (.cells c T))) (hv E M w)) {d:Nat} (hd:d<E.N) {v:Value} {ψ:VT} (hv':ψ.p v (hv E M w)) :
  St E D ((d, ψ) :: Γ) (o :: M) (a.put (some d) v) (w.alloc (.cells c T)):=by
 have hx:Ext w (w.alloc (.cells c T)):=Ext.alloc w _
 have hnew : ∀ b∈E.O ++ a5 M,b<w.heap.size:=hS.base.ex
 have hle:Hp.le (hv E M w) (hv E (o :: M) (w.alloc (.cells c T))):=by
  intro b x e
  obtain ⟨h1,h2⟩:=fS e
  refine jv ?_ (hx.view _ _ h2)
  intro hb
  have hlt:=eX h2
  rw [blks_cons,hbl] at hb
  rcases List.mem_append.1 hb with h | h
  ·exact h1 (List.mem_append.2 (.inl h))
  ·rcases List.mem_append.1 h with h | h
   ·simp at h;omega
   ·exact h1 (List.mem_append.2 (.inr h))
 have hb':=hS.base.ext hx
 have hmap : ∀ b∈a5 (o :: M),b=w.heap.size∨b∈a5 M:=by
  intro b hb;rw [blks_cons,hbl] at hb
  rcases List.mem_append.1 hb with h | h
  ·simp at h;exact .inl h
  ·exact .inr h
 refine ⟨⟨?_,?_,?_,?_,?_,hb'.fr⟩,by simp [Act.put,hS.sz],hS.df,?_⟩
 ·intro q hq
  rcases List.mem_cons.1 hq with rfl | hq
  ·exact q.loc (fun _ _=>rfl) hle hp
  ·exact q.loc (fun b hb=>(gK (hx.block b (hS.base.ex b (List.mem_append.2 (.inr (dH hq hb)))))).symm) hle (hS.base.mem q hq)
 ·rw [blks_cons,hbl,List.nodup_append]
  refine ⟨by simp,hS.base.nd,fun x hx y hy => ?_⟩
  simp at hx;subst hx
  have:=hnew y (List.mem_append.2 (.inr hy));omega
 ·intro b hb
  rcases hmap b hb with rfl | h
  ·intro hO;have:=hnew _ (List.mem_append.2 (.inl hO));omega
  ·exact hS.base.dis b h
 ·intro b hb
  rcases hmap b hb with rfl | h
  ·exact .inl hS.base.fr.size
  ·exact hS.base.lo b h
 ·intro b hb
  have:(w.alloc (.cells c T)).heap.size=w.heap.size+1:=by simp
  rw [this]
  rcases List.mem_append.1 hb with h | h
  ·have:=hnew b (List.mem_append.2 (.inl h));omega
  ·rcases hmap b h with rfl | h
   ·omega
   ·have:=hnew b (List.mem_append.2 (.inr h));omega
 ·intro t φ h
  rw [bC] at h
  split at h
  ·rename_i e;cases h;rw [← e,cy (by rw [hS.sz]; exact hd)]; exact ψ.mono hle hv'
  ·rename_i e;rw [cw e]; exact φ.mono hle (hS.tm t φ h)
theorem Own.freeze {w:World} {sv:Option Nat} {T:TypeId} {L:Lay} {cap n:Nat} {φ:Nat→VT} {h h':Hp} (ho:(aU sv T L cap n φ).p (raw w) h) (hle:Hp.le h h') (hb : ∀ b,sv=some b→ct w b=h' b) :
  (slT L n φ).p (slV sv n cap) h':=by
 obtain ⟨h1,h2,h3,h4⟩:=ho
 cases sv with
 | none =>
  have hc:=h3 Z
  exact ⟨none,cap,rfl,h1,h2,fun i hi=>by omega⟩
 | some b =>
  obtain ⟨c,hc,hs,he⟩:=h4 b Z
  refine ⟨some ⟨b,0,none⟩,cap,rfl,h1,h2,fun i hi => ?_⟩
  obtain ⟨x,hx,hp⟩:=he i hi
  exact ⟨b,0,c,T,(0,0),x,rfl,by rw [← hb b Z]; exact hc,by rw [Nat.zero_add]; exact hx,(φ i).mono hle hp⟩
theorem t5 : ∀ {M:Mem} {i:Nat},(a5 (M.eraseIdx i)).Sublist (a5 M)
 | [], _ => by simp
 | x :: M, 0 => by simp
 | x :: M, i + 1 => by simp only [List.eraseIdx_cons_succ, blks_cons]; exact List.Sublist.append_left t5 _
theorem ot : ∀ (M:Mem) (i:Nat),SubM M (M.eraseIdx i)
 | [], _ => .nil
 | _ :: M, 0 => .drop (SubM.refl M)
 | _ :: M, i + 1 => .keep DX (ot M i)
theorem ke : ∀ {M:Mem} {i:Nat} {o:Own},(a5 M).Nodup→M[i]? = some o → ∀ b∈o.bl,b ∉ a5 (M.eraseIdx i)
 | [], _, _, _, h, _, _ => by simp at h
 | x :: M, 0, o, hn, h, b, hb => by
  simp at h;subst h
  rw [blks_cons,List.nodup_append] at hn
  simp only [List.eraseIdx_cons_zero]; intro h';exact hn.2.2 b hb b h' Z
 | x :: M, i + 1, o, hn, h, b, hb => by
  simp at h
  rw [blks_cons,List.nodup_append] at hn
  simp only [List.eraseIdx_cons_succ,blks_cons,List.mem_append,not_or]
  exact ⟨fun h'=>hn.2.2 b h' b (dH (fF h) hb) Z,ke hn.2.1 h b hb⟩
theorem mZ {t i:Nat} {sv:Option Nat} {T:TypeId} {L:Lay} {cap n:Nat} {φ:Nat→VT} (ht:bP Γ t=some (one (slV sv n cap))) (hM:M[i]? = some (aU sv T L cap n φ))
  {a:Act} {w:World} (hS:St E D Γ M a w):St E D ((t,slT L n φ) :: Γ) (M.eraseIdx i) a w:=by
 refine ⟨hS.base.sub (ot M i),hS.sz,hS.df,fun s ψ hs => ?_⟩
 have hle:Hp.le (hv E M w) (hv E (M.eraseIdx i) w):=lA fun b hb=>t5.subset hb
 rw [bC] at hs
 split at hs
 ·rename_i e;subst e;cases hs
  have hval:a.tmps.getD t undef=slV sv n cap:=hS.tm t _ ht
  rw [hval]
  refine Own.freeze (eh hS.base hM) hle (fun b hb => ?_)
  have hbM:b∈a5 M:=dH (fF hM) (by simp [aU,hb])
  have hn:b ∉ E.O ++ a5 (M.eraseIdx i):=by
   rw [List.mem_append,not_or]
   exact ⟨hS.base.dis b hbM,ke hS.base.nd hM b (by simp [aU,hb])⟩
  simp only [hv,hid,if_neg hn]
 ·exact ψ.mono hle (hS.tm s ψ hs)
theorem sj {c:Code} {t i:Nat} {b:Option Nat} {T:TypeId} {L:Lay} {cap n:Nat} {φ:Nat→VT} (ht:bP Γ t=some (one (slV b n cap))) (hM:M[i]? = some (aU b T L cap n φ))
  (h:J P E D ((t,slT L n φ) :: Γ) (M.eraseIdx i) c Q):J P E D Γ M c Q:=fun a w hS=>h a w (mZ ht hM hS)
theorem cR {e:Exit} {t i:Nat} {b:Option Nat} {T:TypeId} {L:Lay} {cap n:Nat} {φ:Nat→VT} (ht:bP Γ t=some (one (slV b n cap))) (hM:M[i]? = some (aU b T L cap n φ))
  (h:PJ E D ((t,slT L n φ) :: Γ) (M.eraseIdx i) e Q):PJ E D Γ M e Q:=fun a w hS=>h a w (mZ ht hM hS)
theorem jy {ops:Array Oper} {i:Nat} {os:List Oper} {K:List Deferred→Ctx→Mem→Prop} {t j:Nat} {b:Option Nat} {T:TypeId} {L:Lay} {cap n:Nat} {φ:Nat→VT} (ht:bP Γ t=some (one (slV b n cap))) (hM:M[j]? = some (aU b T L cap n φ))
  (h:Run P E ops false i D ((t,slT L n φ) :: Γ) (M.eraseIdx j) os K):Run P E ops false i D Γ M os K := .conv (fun a w hS=>mZ ht hM hS) h
/-! ### Operations -/
variable {ops:Array Oper} {i:Nat} {ty:TypeId} {pos:String} {af:Array Edge} {os:List Oper} {K:List Deferred→Ctx→Mem→Prop}
theorem Run.one {o:Oper} {K':List Deferred→Ctx→Mem→Prop} (hg:o.guard=none)
  (h : ∀ a w,St E D Γ M a w → ∃ r,(execOp a.eval o).run P w=r∧(match r with
   | .ok (.value v) w' => ∃ D' Γ' M', K' D' Γ' M' ∧ St E D' Γ' M' (a.put o.dst v) w'
   | .ok .skip w' => ∃ D' Γ' M', K' D' Γ' M' ∧ St E D' Γ' M' (a.put o.dst undef) w'
   | _ => False))
  (hr : ∀ D' Γ' M',K' D' Γ' M'→Run P E ops false (i+1) D' Γ' M' os K) (hi:ops[i]? = some o):Run P E ops false i D Γ M (o :: os) K:=by
 refine .act (K':=K') (fun a w hS next Q hn => ?_) hr
 obtain ⟨r,hr',hm⟩:=h a w hS
 simp only [wpOp,hi,dG hg,if_true]
 refine .inl ?_
 unfold Oper.wp;rw [hr']
 cases r with
 | halt x w' => exact hm.elim
 | ok n w' =>
  cases n with
  | value v => obtain ⟨D', Γ', M', hK, hS'⟩ := hm; exact hn D' Γ' M' _ _ hK hS'
  | skip => obtain ⟨D', Γ', M', hK, hS'⟩ := hm; exact hn D' Γ' M' _ _ hK hS'
  | _ => exact hm.elim
class Flat (φ:VT) (L:outParam Lay):Prop where
 ok : ∀ v h, φ.p v h→v.cells.size=L.sz∧v.cells.all (·.oneCell')=true∧bT L v.cells 0=some v
instance {k:IntKind} {n:Int} : Flat (one (.int k n)) .one:=⟨fun v h e=>by cases e;simp [Value.cells,Lay.sz,Value.oneCell',bT]⟩
instance {b:Bool} : Flat (one (.bool b)) .one:=⟨fun v h e=>by cases e;simp [Value.cells,Lay.sz,Value.oneCell',bT]⟩
instance {a:Option Addr} {n c:Nat} : Flat (one (.slice a n c)) .one:=⟨fun v h e=>by cases e;simp [Value.cells,Lay.sz,Value.oneCell',bT]⟩
instance {s:Option Nat} {n c:Nat} : Flat (one (slV s n c)) .one:=⟨fun v h e=>by cases e;simp [slV,Value.cells,Lay.sz,Value.oneCell',bT]⟩
instance {L:Lay} {n:Nat} {φ:Nat→VT} : Flat (slT L n φ) .one:=⟨fun v h ⟨a,cap,e,_⟩=>by subst e;simp [Value.cells,Lay.sz,Value.oneCell',bT]⟩
instance {m:Nat} {cs:cD} : Flat (bA m cs) (.agg m):=⟨fun v h ⟨c,e,hs,ha,_⟩=>by subst e;subst hs;simp only [Value.cells,Lay.sz,bT]; exact ⟨trivial,ha,by simp⟩⟩
theorem lV {c:Array Value} {m:Nat} (hs:c.size=m) (ha:c.all (·.oneCell')=true):Flat (one (.agg c)) (.agg m):=⟨fun v h e=>by cases e;subst hs;simp only [Value.cells,Lay.sz,bT]; exact ⟨trivial,ha,by simp⟩⟩
theorem ZeroOf.run {T:TypeId} {z:Value} {b:Nat} [h:ZeroOf P T z b] (w:World):(zeroValue T).run P w = .ok z w:=by
 obtain ⟨i,hi,hz,_⟩:=h.info
 simp [zeroValue,Sem.run_bind,gT hi,hz]
theorem aX {T:TypeId} {z:Value} {by':Nat} {L:Lay} {d:Nat} [ZeroOf P T z by'] [hF:Flat (one z) L] (hi:ops[i]? = some ⟨some d, .alloc T,ty,pos,af,none⟩) (hd:d<E.N)
  (h : ∀ b,Run P E ops false (i+1) D ((d,one (.pointer (some ⟨b,0,none⟩))) :: Γ) (aW b T L.sz [(0,L,one z)] :: M) os K) :
  Run P E ops false i D Γ M (⟨some d, .alloc T,ty,pos,af,none⟩ :: os) K:=by
 refine Run.one (K':=fun D' Γ' M' => ∃ b,D'=D∧Γ'=(d,one (.pointer (some ⟨b,0,none⟩))) :: Γ∧M'=aW b T L.sz [(0,L,one z)] :: M) Z (fun a w hS => ?_) (fun D' Γ' M' ⟨b,h1,h2,h3⟩=>by subst h1 h2 h3;exact h b) hi
 refine ⟨.ok (.value (.pointer (some ⟨w.heap.size,0,none⟩))) (w.alloc (.cells z.cells T)),?_,D,_,_,⟨w.heap.size,rfl,rfl,rfl⟩,?_⟩
 ·have hz:=ZeroOf.run (P:=P) (T:=T) w
  simp [execOp,Instr.alloc,Sem.run_bind,hz,newVar,newRow,newObj,Sem.run]
 ·obtain ⟨h1,h2,h3⟩:=hF.ok z (fun _=>none) Z
  refine hS.alloc (o:=aW w.heap.size T L.sz [(0,L,one z)]) Z ⟨z.cells,cg w _ _ _,h1,h2,?_⟩ hd Z
  intro q hq;simp at hq;subst hq;exact ⟨z,h3,rfl⟩
theorem lW {T:TypeId} {x:Operand} {φ:VT} {L:Lay} {d:Nat} [hF:Flat φ L] (hx:aQ Γ x=some φ) (hi:ops[i]? = some ⟨some d, .box T x,ty,pos,af,none⟩) (hd:d<E.N)
  (h : ∀ b,Run P E ops false (i+1) D ((d,one (.pointer (some ⟨b,0,none⟩))) :: Γ) (aW b T L.sz [(0,L, φ)] :: M) os K) :
  Run P E ops false i D Γ M (⟨some d, .box T x,ty,pos,af,none⟩ :: os) K:=by
 refine Run.one (K':=fun D' Γ' M' => ∃ b,D'=D∧Γ'=(d,one (.pointer (some ⟨b,0,none⟩))) :: Γ∧M'=aW b T L.sz [(0,L, φ)] :: M) Z (fun a w hS => ?_) (fun D' Γ' M' ⟨b,h1,h2,h3⟩=>by subst h1 h2 h3;exact h b) hi
 have hp:=dw hS hx
 refine ⟨.ok (.value (.pointer (some ⟨w.heap.size,0,none⟩))) (w.alloc (.cells (a.eval x).cells T)),?_,D,_,_,⟨w.heap.size,rfl,rfl,rfl⟩,?_⟩
 ·simp [execOp,Instr.box,Sem.run_bind,newVar,newRow,newObj,Sem.run]
 ·obtain ⟨h1,h2,h3⟩:=hF.ok _ _ hp
  refine hS.alloc (o:=aW w.heap.size T L.sz [(0,L, φ)]) Z ⟨(a.eval x).cells,cg w _ _ _,h1,h2,?_⟩ hd Z
  intro q hq;simp at hq;subst hq;exact ⟨_,h3,hp⟩
theorem aM {T:TypeId} {x:Operand} {m:Nat} {cs:cD} {d:Nat} (hx:aQ Γ x=some (bA m cs)) (hi:ops[i]? = some ⟨some d, .box T x,ty,pos,af,none⟩) (hd:d<E.N)
  (h : ∀ b,Run P E ops false (i+1) D ((d,one (.pointer (some ⟨b,0,none⟩))) :: Γ) (aW b T m cs :: M) os K) :
  Run P E ops false i D Γ M (⟨some d, .box T x,ty,pos,af,none⟩ :: os) K:=by
 refine Run.one (K':=fun D' Γ' M' => ∃ b,D'=D∧Γ'=(d,one (.pointer (some ⟨b,0,none⟩))) :: Γ∧M'=aW b T m cs :: M) Z (fun a w hS => ?_) (fun D' Γ' M' ⟨b,h1,h2,h3⟩=>by subst h1 h2 h3;exact h b) hi
 obtain ⟨c,hc,hs,ha,hcs⟩:=dw hS hx
 refine ⟨.ok (.value (.pointer (some ⟨w.heap.size,0,none⟩))) (w.alloc (.cells c T)),?_,D,_,_,⟨w.heap.size,rfl,rfl,rfl⟩,?_⟩
 ·simp [execOp,Instr.box,Sem.run_bind,newVar,newRow,newObj,Sem.run,hc,Value.cells]
 ·exact hS.alloc (o:=aW w.heap.size T m cs) Z ⟨c,cg w _ _ _,hs,ha,hcs⟩ hd Z
def ou:cD→Nat→VT→cD
 | [], _, _ => []
 | (k, l, v) :: r, t, ψ => bif Nat.beq k t then (k, l, ψ) :: r else (k, l, v) :: ou r t ψ
def fV:cD→Bool
 | [] => true
 | (k, l, _) :: r => r.all (fun q => decide (k + l.sz ≤ q.1) || decide (q.1 + q.2.1.sz ≤ k)) && fV r
theorem qS {c vs:Array Value} {h:Hp} {o:Nat} {L:Lay} {φ ψ:VT} {v:Value} (hle:o+vs.size≤c.size) (hvs:vs.size=L.sz) (hv:bT L (cz c o vs) o=some v) (hp:ψ.p v h) :
  ∀ {cs:cD},fV cs=true→gy cs o=some (L, φ)→ik cs c h→ik (ou cs o ψ) (cz c o vs) h
 | [], _, hl, _ => by cases hl
 | (k, l, u) :: r, ha, hl, hc => by
  simp only [fV,Bool.and_eq_true,List.all_eq_true,Bool.or_eq_true,decide_eq_true_eq] at ha
  rw [gy] at hl;rw [ou]
  by_cases e:Nat.beq k o=true
  ·rw [e] at hl ⊢; simp only [cond_true,Option.some.injEq,Prod.mk.injEq] at hl ⊢
   have hk:=Nat.eq_of_beq_eq_true e;subst hk
   obtain ⟨rfl,rfl⟩:=hl
   intro q hq
   rcases List.mem_cons.1 hq with rfl | hq
   ·exact ⟨v,hv,hp⟩
   ·obtain ⟨x,hx,hpx⟩:=hc q (List.mem_cons_of_mem _ hq)
    refine ⟨x,?_,hpx⟩
    rw [dN hle]; · exact hx
    have:=ha.1 q hq;omega
  ·have e':Nat.beq k o=false:=by cases h':Nat.beq k o with | true=>exact absurd h' e | false=>rfl
   rw [e'] at hl ⊢; simp only [cond_false] at hl ⊢
   intro q hq
   rcases List.mem_cons.1 hq with rfl | hq
   ·obtain ⟨x,hx,hpx⟩:=hc (k,l,u) List.mem_cons_self
    refine ⟨x,?_,hpx⟩
    have hm:=fl hl
    have:=ha.1 _ hm
    simp only at this hx ⊢
    rw [dN hle]; · exact hx
    omega
   ·exact qS hle hvs hv hp ha.2 hl (fun q hq=>hc q (List.mem_cons_of_mem _ hq)) q hq
theorem im {c vs:Array Value} {o:Nat} (h1:c.all (·.oneCell')=true) (h2:vs.all (·.oneCell')=true):(cz c o vs).all (·.oneCell')=true:=by
 simp only [cz,Array.all_eq_true_iff_forall_mem,List.mem_toArray,List.mem_append] at *
 rintro x ((h | h) | h)
 ·exact h1 x (by simpa using List.mem_of_mem_take h)
 ·exact h2 x (by simpa using h)
 ·exact h1 x (by simpa using List.mem_of_mem_drop h)
theorem aC {T T':TypeId} {x y:Operand} {b o m:Nat} {cs:cD} {L:Lay} {φ ψ:VT} [hL:LayOf P T L] [hF:Flat ψ L] (j:Nat) (hx:aQ Γ x=some (one (.pointer (some ⟨b,o,none⟩)))) (hy:aQ Γ y=some ψ)
  (hM:M[j]? = some (aW b T' m cs)) (hl:gy cs o=some (L, φ)) (ha:fV cs=true) (hle:o+L.sz≤m) (hi:ops[i]? = some ⟨none, .store T x y,ty,pos,af,none⟩)
  (h:Run P E ops false (i+1) D Γ (M.set j (aW b T' m (ou cs o ψ))) os K):Run P E ops false i D Γ M (⟨none, .store T x y,ty,pos,af,none⟩ :: os) K:=by
 refine Run.one (K':=fun D' Γ' M'=>D'=D∧Γ'=Γ∧M'=M.set j (aW b T' m (ou cs o ψ))) Z (fun a w hS => ?_) (fun D' Γ' M' ⟨h1,h2,h3⟩=>by subst h1 h2 h3;exact h) hi
 have h1:a.eval x = .pointer (some ⟨b,o,none⟩):=dw hS hx
 have h2:=dw hS hy
 obtain ⟨f1,f2,f3⟩:=hF.ok _ _ h2
 obtain ⟨c,hc,hs,hall,hcs⟩:=eh hS.base hM
 have hst:=dC (P:=P) (T:=T) (L:=L) (o:=o) hc f1 Y f2
 refine ⟨.ok .skip (w.setRow b (cz c o (a.eval y).cells)),?_,D, Γ,_,⟨rfl,rfl,rfl⟩,?_⟩
 ·simp only [execOp,h1,Instr.storeAt,Instr.sureAddr,Sem.run_bind,Sem.run_pure,Result.andThen_ok,hst]
 ·show St E D Γ _ a _
  refine hS.own hM Z (fun k hk=>db _ _ _ _ (by intro e;exact hk (by simp [aW,e]))) (dW _ _ _) Z Z Z ?_
  refine ⟨_,dV hc,by rw [cW Y]; exact hs,im hall f2,qS Y f1 (dS Y f1 f3) h2 ha hl hcs⟩
theorem aH {T T':TypeId} {x y:Operand} {b m:Nat} {cs cs':cD} [hL:LayOf P T (.agg m)] (j:Nat) (hx:aQ Γ x=some (one (.pointer (some ⟨b,0,none⟩)))) (hy:aQ Γ y=some (bA m cs'))
  (hM:M[j]? = some (aW b T' m cs)) (hi:ops[i]? = some ⟨none, .store T x y,ty,pos,af,none⟩)
  (h:Run P E ops false (i+1) D Γ (M.set j (aW b T' m cs')) os K):Run P E ops false i D Γ M (⟨none, .store T x y,ty,pos,af,none⟩ :: os) K:=by
 refine Run.one (K':=fun D' Γ' M'=>D'=D∧Γ'=Γ∧M'=M.set j (aW b T' m cs')) Z (fun a w hS => ?_) (fun D' Γ' M' ⟨h1,h2,h3⟩=>by subst h1 h2 h3;exact h) hi
 have h1:a.eval x = .pointer (some ⟨b,0,none⟩):=dw hS hx
 obtain ⟨c',hc',hs',ha',hcs'⟩:=dw hS hy
 obtain ⟨c,hc,hs,hall,hcs⟩:=eh hS.base hM
 have hst:=dC (P:=P) (T:=T) (L := .agg m) (v:=a.eval y) (o:=0) hc (by rw [hc']; exact hs') (by simp [Lay.sz,hs]) (by rw [hc']; exact ha')
 have hsp:cz c 0 (a.eval y).cells=c':=by
  rw [hc']; show cz c 0 c'=c'
  apply Array.ext_getElem?; intro k
  rw [eO Y]
  by_cases hk:k<c'.size
  ·rw [if_pos Y]; rfl
  ·rw [if_neg Y,Array.getElem?_eq_none Y,Array.getElem?_eq_none Y]
 refine ⟨.ok .skip (w.setRow b c'),?_,D, Γ,_,⟨rfl,rfl,rfl⟩,?_⟩
 ·simp only [execOp,h1,Instr.storeAt,Instr.sureAddr,Sem.run_bind,Sem.run_pure,Result.andThen_ok,hst,hsp]
 ·show St E D Γ _ a _
  refine hS.own hM Z (fun k hk=>db _ _ _ _ (by intro e;exact hk (by simp [aW,e]))) (dW _ _ _) Z Z Z ?_
  exact ⟨c',dV hc,hs',ha',hcs'⟩
theorem aA {T T':TypeId} {x y:Operand} {b k cap n:Nat} {φ:Nat→VT} {L:Lay} {ψ:VT} [hL:LayOf P T L] [hF:Flat ψ L] (j:Nat) (hx:aQ Γ x=some (eP b k L.sz)) (hy:aQ Γ y=some ψ)
  (hM:M[j]? = some (aU (some b) T' L cap n φ)) (hk:k<n) (hi:ops[i]? = some ⟨none, .store T x y,ty,pos,af,none⟩)
  (h:Run P E ops false (i+1) D Γ (M.set j (aU (some b) T' L cap n (upd φ k ψ))) os K):Run P E ops false i D Γ M (⟨none, .store T x y,ty,pos,af,none⟩ :: os) K:=by
 refine Run.one (K':=fun D' Γ' M'=>D'=D∧Γ'=Γ∧M'=M.set j (aU (some b) T' L cap n (upd φ k ψ))) Z (fun a w hS => ?_) (fun D' Γ' M' ⟨h1,h2,h3⟩=>by subst h1 h2 h3;exact h) hi
 have h1:a.eval x = .pointer (some ⟨b,k*L.sz,none⟩):=dw hS hx
 have h2:=dw hS hy
 obtain ⟨f1,f2,f3⟩:=hF.ok _ _ h2
 obtain ⟨g1,g2,g3,g4⟩:=eh hS.base hM
 obtain ⟨c,hc,hs,he⟩:=g4 b Z
 have hmul : ∀ q,q<cap→q*L.sz+L.sz≤cap*L.sz:=fun q hq=>by
  have:=Nat.mul_le_mul_right L.sz (show q+1≤cap by omega);rwa [Nat.succ_mul] at this
 have hfit:k*L.sz+L.sz≤c.size:=by rw [hs]; exact hmul k Y
 have hst:=dC (P:=P) (T:=T) (L:=L) (o:=k*L.sz) hc f1 hfit f2
 refine ⟨.ok .skip (w.setRow b (cz c (k*L.sz) (a.eval y).cells)),?_,D, Γ,_,⟨rfl,rfl,rfl⟩,?_⟩
 ·simp only [execOp,h1,Instr.storeAt,Instr.sureAddr,Sem.run_bind,Sem.run_pure,Result.andThen_ok,hst]
 ·show St E D Γ _ a _
  refine hS.own hM Z (fun k' hk'=>db _ _ _ _ (by intro e;exact hk' (by simp [aU,e]))) (dW _ _ _) Z Z Z ?_
  refine ⟨g1,g2,g3,fun b' hb' => ?_⟩
  cases hb'
  refine ⟨_,dV hc,by rw [cW Y]; exact hs,fun q hq => ?_⟩
  unfold upd
  by_cases e:q=k
  ·subst e;rw [if_pos Z]; exact ⟨_,dS hfit f1 f3,h2⟩
  ·rw [if_neg e]
   obtain ⟨v,hv,hp⟩:=he q hq
   refine ⟨v,?_,hp⟩
   rw [dN Y]; · exact hv
   rw [f1]
   rcases Nat.lt_or_ge q k with h' | h'
   ·left
    have:=Nat.mul_le_mul_right L.sz (show q+1≤k by omega);rwa [Nat.succ_mul] at this
   ·right
    have:=Nat.mul_le_mul_right L.sz (show k+1≤q by omega);rwa [Nat.succ_mul] at this
end
end Tor
end
section
set_option linter.unusedSectionVars false
namespace Tor
open Go Go.RowKit
section
variable {P:Program} {E:Env} {D:List Deferred} {Γ:Ctx} {M:Mem} {Q:Exit→Act→World→Prop}
variable {ops:Array Oper} {i:Nat} {ty:TypeId} {pos:String} {af:Array Edge} {os:List Oper} {K:List Deferred→Ctx→Mem→Prop} {d:Option Tmp} {gd:Option (Nat × Bool)}
def ep (z:Array Value) (n:Nat):Array Value:=(Array.range n).map (z[· % z.size]!)
theorem fa (z:Array Value) (n:Nat):(ep z n).size=n:=by simp [ep]
theorem p7 {z:Array Value} {n k:Nat} (hk:k<n) (hz:0<z.size):(ep z n)[k]? = z[k % z.size]? := by
 have:k % z.size<z.size:=Nat.mod_lt _ hz
 simp [ep,hk,this]
theorem lB {L:Lay} {v:Value} {n q:Nat} (hs:v.cells.size=L.sz) (hv:bT L v.cells 0=some v) (hq:q<n) (hz:0<L.sz):bT L (ep v.cells (n*L.sz)) (q*L.sz)=some v:=by
 have hfit:q*L.sz+L.sz≤n*L.sz:=by
  have:=Nat.mul_le_mul_right L.sz (show q+1≤n by omega);rwa [Nat.succ_mul] at this
 cases L with
 | one =>
  simp only [bT,Lay.sz,Nat.mul_one] at *
  rw [p7 hq Y,hs,Nat.mod_one]; exact hv
 | agg m =>
  have hs:v.cells.size=m:=hs
  have hz:0<m:=hz
  have hfit:q*m+m≤n*m:=hfit
  have hv:(if 0+m≤v.cells.size then some (Value.agg (v.cells.extract 0 (0+m))) else none)=some v:=hv
  show (if q*m+m≤(ep v.cells (n*m)).size then some (Value.agg ((ep v.cells (n*m)).extract (q*m) (q*m+m))) else none)=some v
  rw [if_pos Y] at hv
  rw [fa,if_pos Y, ← hv]
  congr 2
  apply Array.ext_getElem?; intro k
  have h0:=cQ v.cells 0 m k
  rw [Nat.zero_add] at h0
  rw [cQ,Nat.zero_add,h0]
  by_cases hk:k<m
  ·rw [if_pos hk,if_pos hk,Nat.zero_add,p7 Y Y,hs]
   have:(q*m+k) % m=k:=by rw [Nat.mul_comm,Nat.mul_add_mod]; exact Nat.mod_eq_of_lt hk
   rw [this]
  ·rw [if_neg hk,if_neg hk]
theorem zV {k:IntKind} {n:Int} (h1:k.min≤n) (h2:n≤k.max):k.wrap n=n:=by
 cases k <;> simp [IntKind.wrap,IntKind.bits,IntKind.signed,IntKind.min,IntKind.max] at * <;> omega
theorem aR {n:Int} (h1 : -9223372036854775808≤n) (h2:n≤9223372036854775807):IntKind.i64.wrap n=n:=zV (by simp [IntKind.min,IntKind.signed,IntKind.bits]; omega) (by simp [IntKind.max,IntKind.signed,IntKind.bits]; omega)
theorem ek (n:Int):IntKind.u64.wrap n=n % 18446744073709551616:=by simp [IntKind.wrap,IntKind.bits,IntKind.signed]
theorem ov (n:Int):IntKind.u32.wrap n=n % 4294967296:=by simp [IntKind.wrap,IntKind.bits,IntKind.signed]
theorem zW (n:Int):IntKind.u8.wrap n=n % 256:=by simp [IntKind.wrap,IntKind.bits,IntKind.signed]
theorem ow {n:Nat} (h:n≤2^48):IntKind.i64.wrap (n:Int)=n:=aR Y Y
theorem sk (n:Nat) (w:World):(askRoom n).run P w = .ok () w:=by unfold askRoom;split <;> rfl
theorem jz (T:TypeId) (c:Array Value) (w:World):(newRow T c).run P w = .ok ⟨w.heap.size,0,none⟩ (w.alloc (.cells c T)):=by
 simp [newRow,Sem.run_bind,newObj,Sem.run]
theorem iZ {T e:TypeId} {z:Value} {by':Nat} {L:Lay} {l n:Nat} [hS:SliceOf P T e] [hL:LayOf P e L] [hZ:ZeroOf P e z by'] (hb0:0<by') (hln:l≤n) (hn:by'*n≤2^48) (w:World) :
  (Instr.makeSlice T (.int .i64 l) (.int .i64 n)).run P w = .ok (slV (some w.heap.size) l n) (w.alloc (.cells (ep z.cells (n*L.sz)) e)):=by
 obtain ⟨ti,hti,htz,htb⟩:=hZ.info
 have hn48:n≤2^48:=by
  have:n≤by'*n:=Nat.le_mul_of_pos_left n hb0
  omega
 have hw:=ow hn48
 have hwl:=ow (show l≤2^48 by omega)
 have hle:((by':Int)*n)≤2^48:=by
  have:((by'*n:Nat):Int)≤2^48:=by exact_mod_cast hn
  rw [Int.natCast_mul] at this;omega
 unfold Instr.makeSlice
 simp only [Sem.run_bind,bj hS.und,Result.andThen_ok,asInt,asIntOf,Sem.run_pure,gT hti,htb,hw,hwl]
 rw [if_neg (by simp;omega)]
 simp only [Sem.run_bind,sk,Result.andThen_ok,cN (L:=L),Int.toNat_natCast]
 split
 ·rename_i h0
  simp only [Sem.run_pure,Sem.run_bind,Result.andThen_ok,jz,h0]
  rw [show ep z.cells 0=Array.map (fun x=>default) (Array.range 0) by simp [ep]]; rfl
 ·simp only [Sem.run_pure,Sem.run_bind,Result.andThen_ok,jz,ZeroOf.run (z:=z)]
  simp [slV,ep]
theorem ci {T e:TypeId} {z:Value} {by':Nat} {L:Lay} {x y:Operand} {il ic:Int} {d:Nat} [hS:SliceOf P T e] [hL:LayOf P e L] [hZ:ZeroOf P e z by'] [hF:Flat (one z) L] (l n:Nat) (hx:aQ Γ x=some (one (.int .i64 il))) (hy:aQ Γ y=some (one (.int .i64 ic)))
  (hil:il=l) (hic:ic=n) (hln:l≤n) (hb0:Nat.ble 1 by'=true) (hz0:Nat.ble 1 L.sz=true) (hn:by'*n≤2^48) (hi:ops[i]? = some ⟨some d, .makeSlice T x y,ty,pos,af,none⟩) (hd:Nat.ble (d+1) E.N=true)
  (h : ∀ b,Run P E ops false (i+1) D ((d,one (slV (some b) l n)) :: Γ) (aU (some b) e L n l (fun _=>one z) :: M) os K) :
  Run P E ops false i D Γ M (⟨some d, .makeSlice T x y,ty,pos,af,none⟩ :: os) K:=by
 have hb0:=Nat.le_of_ble_eq_true hb0
 have hz0:=Nat.le_of_ble_eq_true hz0
 have hd:d<E.N:=Nat.le_of_ble_eq_true hd
 subst hil hic
 refine Run.one (K':=fun D' Γ' M' => ∃ b,D'=D∧Γ'=(d,one (slV (some b) l n)) :: Γ∧M'=aU (some b) e L n l (fun _=>one z) :: M) Z (fun a w hSt => ?_) (fun D' Γ' M' ⟨b,h1,h2,h3⟩=>by subst h1 h2 h3;exact h b) hi
 have hx':a.eval x = .int .i64 l:=dw hSt hx
 have hy':a.eval y = .int .i64 n:=dw hSt hy
 obtain ⟨h1,h2,h3⟩:=hF.ok z (fun _=>none) Z
 have hn48:n≤2^48:=by
  have:n≤by'*n:=Nat.le_mul_of_pos_left n hb0
  omega
 refine ⟨.ok (.value (slV (some w.heap.size) l n)) (w.alloc (.cells (ep z.cells (n*L.sz)) e)),?_,D,_,_,⟨w.heap.size,rfl,rfl,rfl⟩,?_⟩
 ·simp only [execOp,hx',hy',Sem.run_bind,iZ hb0 hln hn,Result.andThen_ok,Sem.run_pure]
 ·refine hSt.alloc (o:=aU (some w.heap.size) e L n l (fun _=>one z)) Z ⟨hln,by omega,(fun h=>by cases h),fun b hb => ?_⟩ hd Z
  cases hb
  refine ⟨_,cg w _ _ _,fa _ _,fun q hq=>⟨z,lB h1 h3 Y hz0,rfl⟩⟩
/-! ### Slices that are cut -/
def lX (Γ:Ctx) (x:Option Operand) (dv:VT):Option VT:=match x with | none=>some dv | some y=>aQ Γ y
theorem dI {k:IntKind} {iv:Int} {y:Nat} {code:BoundsCode} (h0:0≤iv) (h1:iv≤y) (w:World):(Instr.sliceBound (.int k iv) y code).run P w = .ok iv.toNat w:=by
 simp [Instr.sliceBound,asIntOf,h0,h1]
theorem lY {T e:TypeId} {L:Lay} [hS:SliceOf P T e] [hL:LayOf P e L] {x:Operand} {lo hi mx:Option Operand} {n:Nat} {φ:Nat→VT} {kl kh km:IntKind} {l h m:Int} (hx:aQ Γ x=some (slT L n φ))
  (hlo:lX Γ lo (one (.int .i64 0))=some (one (.int kl l))) (hhi:lX Γ hi (one (.int .i64 n))=some (one (.int kh h))) (hmx:lX Γ mx (one (.int .i64 n))=some (one (.int km m)))
  (hmh:mx.isSome=true→hi.isSome=true) (h0:0≤l) (h1:l≤h) (h2:h≤m) (h3:m≤n) :
  aP P E Γ M ⟨d, .slice T x lo hi mx,ty,pos,af,gd⟩ (slT L (h - l).toNat (fun j=>φ (l.toNat+j))) :=
 aP.ofRun fun a w hb hf=>by
  obtain ⟨ad,cap,hv',g1,g2,he⟩:=hf x _ (by simp [Op.operands]) hx
  have hl : ∀ y,lo=some y→a.eval y = .int kl l:=fun y hy=>by subst hy;exact hf y _ (by simp [Op.operands]) hlo
  have hh : ∀ y,hi=some y→a.eval y = .int kh h:=fun y hy=>by subst hy;exact hf y _ (by simp [Op.operands]) hhi
  have hm : ∀ y,mx=some y→a.eval y = .int km m:=fun y hy=>by subst hy;exact hf y _ (by simp [Op.operands]) hmx
  have hl0:lo=none→l=0:=fun hy=>by subst hy;simp [lX,one] at hlo;have:=congrFun (congrFun hlo (.int .i64 0)) (fun _=>none);simp at this;exact this.2.symm
  have hh0:hi=none→h=n:=fun hy=>by subst hy;simp [lX,one] at hhi;have:=congrFun (congrFun hhi (.int .i64 n)) (fun _=>none);simp at this;exact this.2.symm
  have hbd : ∃ mm:Nat,(Instr.sliceBounds true n cap (lo.map a.eval) (hi.map a.eval) (mx.map a.eval)).run P w = .ok (l.toNat,h.toNat,mm) w∧h.toNat≤mm∧mm≤cap:=by
   cases mx with
   | some y =>
    obtain ⟨z,rfl⟩ : ∃ z,hi=some z:=by cases hi with | none=>simp at hmh | some z=>exact ⟨z,rfl⟩
    refine ⟨m.toNat,?_,by omega,by omega⟩
    have e1:=dI (P:=P) (k:=km) (iv:=m) (y:=cap) (code := .slice3Acap) Y Y w
    have e2:=dI (P:=P) (k:=kh) (iv:=h) (y:=m.toNat) (code := .slice3B) Y Y w
    cases lo with
    | none => simp [Instr.sliceBounds, Sem.run_bind, hm y Z, hh z Z, e1, e2, hl0 Z]
    | some u =>
     have e3:=dI (P:=P) (k:=kl) (iv:=l) (y:=h.toNat) (code := .slice3C) Y Y w
     simp [Instr.sliceBounds,Sem.run_bind,hm y Z,hh z Z,hl u Z,e1,e2,e3]
   | none =>
    refine ⟨cap,?_,by omega,by omega⟩
    cases hi with
    | some z =>
     have e2:=dI (P:=P) (k:=kh) (iv:=h) (y:=cap) (code := .sliceAcap) Y Y w
     cases lo with
     | none => simp [Instr.sliceBounds, Sem.run_bind, hh z Z, e2, hl0 Z]
     | some u =>
      have e3:=dI (P:=P) (k:=kl) (iv:=l) (y:=h.toNat) (code := .sliceB) Y Y w
      simp [Instr.sliceBounds,Sem.run_bind,hh z Z,hl u Z,e2,e3]
    | none =>
     cases lo with
     | none => simp [Instr.sliceBounds, Sem.run_bind, hl0 Z, hh0 Z]
     | some u =>
      have e3:=dI (P:=P) (k:=kl) (iv:=l) (y:=n) (code := .sliceB) Y (by have:=hh0 Z;omega) w
      simp [Instr.sliceBounds,Sem.run_bind,hl u Z,e3,hh0 Z]
  obtain ⟨mm,hrun,hmm,hmc⟩:=hbd
  have hdesc : ∀ y:Value,(Instr.sliceAt T (.slice ad n cap) (lo.map a.eval) (hi.map a.eval) (mx.map a.eval)).run P w = .ok (.slice (if mm=l.toNat then ad else ad.map (·.add (l.toNat*L.sz))) (h.toNat - l.toNat) (mm - l.toNat)) w:=by
   intro _
   simp only [Instr.sliceAt,Sem.run_bind,bj hS.und,Result.andThen_ok,Instr.slice,hrun,cN (L:=L),Sem.run_pure]
  refine ⟨_,by simp only [execOp,hv',Sem.run_bind,hdesc undef,Result.andThen_ok,Sem.run_pure]; rfl,?_⟩
  refine ⟨_,_,by rw [show (h - l).toNat=h.toNat - l.toNat by omega],by omega,by omega,fun j hj => ?_⟩
  obtain ⟨b,o,c,T',f,v,h4,h5,h6,h7⟩:=he (l.toNat+j) Y
  have hne : ¬ (mm=l.toNat):=by omega
  refine ⟨b,o+l.toNat*L.sz,c,T',f,v,?_,h5,?_,h7⟩
  ·rw [if_neg hne,h4]; simp [dY]
  ·rw [Nat.add_mul] at h6;rw [Nat.add_assoc]; exact h6
end
end Tor
namespace Tor
open Go Go.RowKit
section
variable {P:Program} {E:Env} {D:List Deferred} {Γ:Ctx} {M:Mem} {ops:Array Oper} {i:Nat} {op:Op} {ty:TypeId} {pos:String} {af:Array Edge} {os:List Oper} {K:List Deferred→Ctx→Mem→Prop} {dr:Bool}
theorem ltN {a b:Nat} (h:Nat.ble (a+1) b=true):a<b:=Nat.le_of_ble_eq_true h
theorem st {d:Nat} {ψ:VT} (h:aP P E Γ M ⟨some d,op,ty,pos,af,none⟩ ψ) (hd:Nat.ble (d+1) E.N=true) (hr:Run P E ops dr (i+1) D ((d, ψ) :: Γ) M os K) :
  Run P E ops dr i D Γ M (⟨some d,op,ty,pos,af,none⟩ :: os) K := .step (.plain h Z Z (ltN hd)) hr
theorem _root_.DY {P:Program} {E:Env} {D:List Deferred} {Γ:Ctx} {M:Mem} {ops:Array Oper} {i:Nat} {op:Op} {ty:TypeId} {pos:String} {af:Array Edge} {os:List Oper} {K:List Deferred→Ctx→Mem→Prop} {dr:Bool} {d:Nat} {ψ:VT} (h:aP P E Γ M ⟨some d,op,ty,pos,af,none⟩ ψ) (hr:Run P E ops dr (i+1) D ((d, ψ) :: Γ) M os K) (hd:Nat.ble (d+1) E.N=true:=by exact rfl):Run P E ops dr i D Γ M (⟨some d,op,ty,pos,af,none⟩ :: os) K:=st h hd hr
theorem _root_.DZ {P:Program} {E:Env} {D:List Deferred} {Γ:Ctx} {M:Mem} {ops:Array Oper} {i:Nat} {ty:TypeId} {pos:String} {af:Array Edge} {os:List Oper} {K:List Deferred→Ctx→Mem→Prop} {dr:Bool} {d:Nat} {ψ:VT} {x:Operand} (hx:aQ Γ x=some ψ) (hr:Run P E ops dr (i+1) D ((d, ψ) :: Γ) M os K) (hd:Nat.ble (d+1) E.N=true:=by exact rfl):Run P E ops dr i D Γ M (⟨some d, .move x,ty,pos,af,none⟩ :: os) K:=st (ab hx) hd hr
theorem _root_.Ea {P:Program} {E:Env} {D:List Deferred} {Γ:Ctx} {M:Mem} {ops:Array Oper} {i:Nat} {ty:TypeId} {pos:String} {af:Array Edge} {os:List Oper} {K:List Deferred→Ctx→Mem→Prop} {dr:Bool} {d:Nat} {ψ:VT} {x:Operand} (hx:aQ Γ x=some ψ) (hr:Run P E ops dr (i+1) D ((d, ψ) :: Γ) M os K) (hd:Nat.ble (d+1) E.N=true:=by exact rfl):Run P E ops dr i D Γ M (⟨some d, .assign x,ty,pos,af,none⟩ :: os) K:=st (ai hx) hd hr
end
end Tor
namespace Tor
theorem er {L:Lay} {n:Nat} {φ ψ:Nat→VT} (DS : ∀ i,i<n→VT.le (φ i) (ψ i)):VT.le (slT L n φ) (slT L n ψ) :=
 fun v h ⟨a,cap,h1,h2,h3,h4⟩=>⟨a,cap,h1,h2,h3,fun i hi=>let ⟨b,o,c,T,f,x,k1,k2,k3,k4⟩:=h4 i hi;⟨b,o,c,T,f,x,k1,k2,k3,DS i hi _ _ k4⟩⟩
theorem dg {L:Lay} {n m:Nat} {φ ψ:Nat→VT} (hn:n=m) (DS : ∀ i,i<n→φ i=ψ i):VT.le (slT L n φ) (slT L m ψ):=by
 subst hn;exact er fun i hi=>by rw [DS i hi]; exact VT.le_refl _
theorem fm {L:Lay} {n:Nat} {φ:Nat→VT} {v:Go.Value} {h:Hp} (DS:(slT L n φ).p v h):n≤2^48:=by
 obtain ⟨_,_,_,h1,h2,_⟩:=DS;omega
end Tor
end
section
set_option linter.unusedSectionVars false
namespace Tor
open Go Go.RowKit
section
variable {P:Program} {E:Env} {D:List Deferred} {Γ:Ctx} {M:Mem} {Q:Exit→Act→World→Prop}
variable {ops:Array Oper} {i:Nat} {ty:TypeId} {pos:String} {af:Array Edge} {os:List Oper} {K:List Deferred→Ctx→Mem→Prop} {d:Option Tmp} {gd:Option (Nat × Bool)} {dr:Bool} {op:Op}
/-! ### Guards -/
theorem sg1 {d t j:Nat} {want:Bool} {ψ:VT} (hg:fT ops ⟨some d,op,ty,pos,af,some (j,want)⟩=some (some t,want)) (hb:bP Γ t=some (one (.bool want))) (h:aP P E Γ M ⟨some d,op,ty,pos,af,some (j,want)⟩ ψ) (hd:Nat.ble (d+1) E.N=true)
  (hr:Run P E ops dr (i+1) D ((d, ψ) :: Γ) M os K):Run P E ops dr i D Γ M (⟨some d,op,ty,pos,af,some (j,want)⟩ :: os) K:=by
 refine .step (.guarded1 hg hb h Z (ltN hd)) hr
theorem _root_.Eb {P:Program} {E:Env} {D:List Deferred} {Γ:Ctx} {M:Mem} {ops:Array Oper} {i:Nat} {op:Op} {ty:TypeId} {pos:String} {af:Array Edge} {os:List Oper} {K:List Deferred→Ctx→Mem→Prop} {dr:Bool} {d t j:Nat} {want:Bool} {ψ:VT} (h:aP P E Γ M ⟨some d,op,ty,pos,af,some (j,want)⟩ ψ) (hr:Run P E ops dr (i+1) D ((d, ψ) :: Γ) M os K) (hg:fT ops ⟨some d,op,ty,pos,af,some (j,want)⟩=some (some t,want):=by exact rfl) (hb:bP Γ t=some (one (.bool want)):=by exact rfl) (hd:Nat.ble (d+1) E.N=true:=by exact rfl):Run P E ops dr i D Γ M (⟨some d,op,ty,pos,af,some (j,want)⟩ :: os) K:=sg1 hg hb h hd hr
theorem sg0 {d t j:Nat} {b want:Bool} (hg:fT ops ⟨some d,op,ty,pos,af,some (j,want)⟩=some (some t,want)) (hb:bP Γ t=some (one (.bool b))) (hne:(b == want)=false) (hd:Nat.ble (d+1) E.N=true)
  (hr:Run P E ops dr (i+1) D ((d,bO) :: Γ) M os K):Run P E ops dr i D Γ M (⟨some d,op,ty,pos,af,some (j,want)⟩ :: os) K:=by
 refine .step (.guarded0 hg hb hne Z (ltN hd)) hr
theorem kY {t:Nat} {b:Bool} (ht:bP Γ t=some (one (.bool b))) (h : ∀ b',b=b'→Run P E ops dr i D Γ M os K):Run P E ops dr i D Γ M os K:=h b Z
theorem aV {c x y:Operand} {φ:VT} (hc:aQ Γ c=some (one (.bool true))) (hx:aQ Γ x=some φ):aP P E Γ M ⟨d, .pick c x y,ty,pos,af,gd⟩ φ :=
 aP.ofRun fun ac w hb hf=>by
  have hc':ac.eval c = .bool true:=hf c _ (by simp [Op.operands]) hc
  exact ⟨ac.eval x,by simp [execOp,hc',asBool],hf x _ (by simp [Op.operands]) hx⟩
theorem a6 {c x y:Operand} {φ:VT} (hc:aQ Γ c=some (one (.bool false))) (hy:aQ Γ y=some φ):aP P E Γ M ⟨d, .pick c x y,ty,pos,af,gd⟩ φ :=
 aP.ofRun fun ac w hb hf=>by
  have hc':ac.eval c = .bool false:=hf c _ (by simp [Op.operands]) hc
  exact ⟨ac.eval y,by simp [execOp,hc',asBool],hf y _ (by simp [Op.operands]) hy⟩
/-! ### Results -/
inductive ResOk (P:Program) (Γ:Ctx) (M:Mem):ResultVar→VT→Prop
 | tmp {t : Nat} {φ ψ : VT} : bP Γ t = some φ → VT.le φ ψ → ResOk P Γ M (.tmp t) ψ
 | cellB {t b m : Nat} {T T' : TypeId} {L : Lay} {cs : cD} {φ ψ : VT} (i : Nat) [LayOf P T L] : bP Γ t = some (one (.pointer (some ⟨b, 0, none⟩))) → M[i]? = some (aW b T' m cs) → gy cs 0 = some (L, φ) → VT.le φ ψ → ResOk P Γ M (.cell t T) ψ
 | cellW {t b m : Nat} {T T' : TypeId} {cs : cD} {ψ : VT} (i : Nat) [LayOf P T (.agg m)] : bP Γ t = some (one (.pointer (some ⟨b, 0, none⟩))) → M[i]? = some (aW b T' m cs) → VT.le (bA m cs) ψ → ResOk P Γ M (.cell t T) ψ
def ox (tmps:Array Value):ResultVar→Sem Value
 | .tmp t => pure (tmps.getD t undef)
 | .cell c t => do loadVar t (← asAddr (tmps.getD c undef))
theorem fG (fn:Func) (tmps:Array Value):results fn tmps=(do
  let vs ← fn.results.mapM (ox tmps)
  pure (if h:vs.size=1 then vs[0] else .tuple vs)):=rfl
theorem ResOk.run {r:ResultVar} {ψ:VT} (h:ResOk P Γ M r ψ) {a:Act} {w:World} (hS:St E D Γ M a w) :
  ∃ v,(ox a.tmps r).run P w = .ok v w∧ψ.p v (hv E M w):=by
 cases h with
 | tmp h1 h2 => exact ⟨_, rfl, h2 _ _ (hS.tm _ _ h1)⟩
 | @cellB t b m T T' L cs φ _ i hL h1 h2 h3 h4 =>
  have e:a.tmps.getD t undef = .pointer (some ⟨b,0,none⟩):=hS.tm _ _ h1
  obtain ⟨c,hc,_,_,hcs⟩:=eh hS.base h2
  obtain ⟨v,hv',hp⟩:=hcs _ (fl h3)
  refine ⟨v,?_,h4 _ _ hp⟩
  simp only [ox,e,asAddr,Sem.run_bind,Sem.run_pure,Result.andThen_ok,dB hc hv']
 | @cellW t b m T T' cs _ i hL h1 h2 h3 =>
  have e:a.tmps.getD t undef = .pointer (some ⟨b,0,none⟩):=hS.tm _ _ h1
  obtain ⟨c,hc,hs,ha,hcs⟩:=eh hS.base h2
  have hx':bT (.agg m) c 0=some (.agg c):=by simp [bT, ← hs]
  refine ⟨.agg c,?_,h3 _ _ ⟨c,rfl,hs,ha,hcs⟩⟩
  simp only [ox,e,asAddr,Sem.run_bind,Sem.run_pure,Result.andThen_ok,dB hc hx']
theorem m8 {w:World} {ψ:VT} {v:Value} (h:ψ.p v (hv E M w)):ψ.p v (hid E.O (ct w)):=ψ.mono (lT fun b hb=>List.mem_append.2 (.inl hb)) h
theorem aK {w0:World} {O:List Nat} {N:Nat} {fn:Func} {r:ResultVar} {ψ:VT} (hr:fn.results = #[r]) (h:ResOk P Γ M r ψ) :
  PJ ⟨w0,O, [],N,none⟩ [] Γ M .ret (bodyPost P fn (Ret O ψ w0)):=by
 intro a w hS
 obtain ⟨v,h1,h2⟩:=h.run hS
 refine ⟨hS.df,v,?_,v,rfl,m8 h2,hS.ret⟩
 have hm:(fn.results.mapM (ox a.tmps)).run P w = .ok #[v] w:=by rw [hr]; simp [h1]
 rw [fG,Sem.run_bind,hm]; rfl
theorem fw {w0:World} {O:List Nat} {N:Nat} {fn:Func} {r r':ResultVar} {ψ ψ':VT} (hr:fn.results = #[r,r']) (h:ResOk P Γ M r ψ) (h':ResOk P Γ M r' ψ') :
  PJ ⟨w0,O, [],N,none⟩ [] Γ M .ret (bodyPost P fn (Ret O (bM [ψ, ψ']) w0)):=by
 intro a w hS
 obtain ⟨v,h1,h2⟩:=h.run hS
 obtain ⟨v',h1',h2'⟩:=h'.run hS
 refine ⟨hS.df, .tuple #[v,v'],?_,_,rfl,⟨[_,_],rfl,m8 h2,m8 h2',Ed⟩,hS.ret⟩
 have hm:(fn.results.mapM (ox a.tmps)).run P w = .ok #[v,v'] w:=by rw [hr]; simp [h1,h1']
 rw [fG,Sem.run_bind,hm]; rfl
theorem jd {w0:World} {O:List Nat} {N:Nat} {fn:Func} {r r' r'':ResultVar} {ψ ψ' ψ'':VT} (hr:fn.results = #[r,r',r'']) (h:ResOk P Γ M r ψ) (h':ResOk P Γ M r' ψ') (h'':ResOk P Γ M r'' ψ'') :
  PJ ⟨w0,O, [],N,none⟩ [] Γ M .ret (bodyPost P fn (Ret O (bM [ψ, ψ', ψ'']) w0)):=by
 intro a w hS
 obtain ⟨v,h1,h2⟩:=h.run hS
 obtain ⟨v',h1',h2'⟩:=h'.run hS
 obtain ⟨v'',h1'',h2''⟩:=h''.run hS
 refine ⟨hS.df, .tuple #[v,v',v''],?_,_,rfl,⟨[_,_,_],rfl,m8 h2,m8 h2',m8 h2'',Ed⟩,hS.ret⟩
 have hm:(fn.results.mapM (ox a.tmps)).run P w = .ok #[v,v',v''] w:=by rw [hr]; simp [h1,h1',h1'']
 rw [fG,Sem.run_bind,hm]; rfl
/-! ### Struct literals -/
class BuildOf (P:Program) (T:TypeId) (m:outParam Nat) (z:outParam (Array Value)) (pl:outParam (List (Nat × Lay))):Prop where
 zero : ∀ w,(zeroValue T).run P w = .ok (.agg z) w
 zs:z.size=m
 zo:z.all (·.oneCell')=true
 run : ∀ (parts:Array (Nat × Value)) (cells:Array Value) (w:World),Instr.fill (fun i=>(pl[i]?).map fun q=>(q.1,q.2.sz)) z parts.toList=some cells →
  (Instr.build T parts).run P w = .ok (.agg cells) w
def dt (z:Array Value):List (Nat × Lay)→cD
 | [] => []
 | (o, L) :: r => (o, L, match bT L z o with | some v => one v | none => bO) :: dt z r
inductive BuildOk (Γ:Ctx) (pl:List (Nat × Lay)):cD→List (Nat × Operand)→cD→Prop
 | nil {C} : BuildOk Γ pl C [] C
 | cons {C i x r C' o L φ χ} [hF : Flat φ L] : pl[i]? = some (o, L) → aQ Γ x = some φ → gy C o = some (L, χ) → BuildOk Γ pl (ou C o φ) r C' → BuildOk Γ pl C ((i, x) :: r) C'
theorem jA (v:Array Value) (off:Nat) (c:Array Value) (h:off+v.size≤c.size):v.zipIdx.foldl (fun cs (x,j)=>cs.setIfInBounds (off+j) x) c=cz c off v:=by
 have key : ∀ (l:List Value) (k:Nat) (c:Array Value),off+k+l.length≤c.size→(l.zipIdx k).foldl (fun cs (x:Value × Nat)=>cs.setIfInBounds (off+x.2) x.1) c=cz c (off+k) l.toArray:=by
  intro l
  induction l with
  | nil => intro k c h; apply Array.ext_getElem?; intro j; rw [eO (by simp at h ⊢; omega), if_neg (by simp only [List.size_toArray, List.length_nil]; omega)]; rfl
  | cons x l ih =>
   intro k c h
   simp only [List.length_cons] at h
   simp only [List.zipIdx_cons,List.foldl_cons]
   rw [ih (k+1) _ (by simp;omega)]
   apply Array.ext_getElem?; intro j
   have q1:off+(k+1)+l.toArray.size≤(c.setIfInBounds (off+k) x).size:=by simp only [List.size_toArray,Array.size_setIfInBounds]; omega
   have q2:off+k+(x :: l).toArray.size≤c.size:=by simp only [List.size_toArray,List.length_cons]; omega
   rw [eO q1,eO q2]
   simp only [List.size_toArray,List.length_cons]
   by_cases hj:j=off+k
   ·have hlt:off+k<c.size:=by omega
    subst hj;rw [if_neg Y,if_pos Y,Nat.sub_self]; simp [hlt]
   ·by_cases h2:off+(k+1)≤j∧j<off+(k+1)+l.length
    ·rw [if_pos h2,if_pos Y]
     rw [show j - (off+k)=(j - (off+(k+1)))+1 by omega]; simp
    ·rw [if_neg h2,if_neg Y]; simp [Ne.symm hj]
 have:=key v.toList 0 c (by simpa using h)
 simp only [Nat.add_zero,Array.toArray_toList] at this
 rw [← this, ← Array.foldl_toList,Array.toList_zipIdx]
theorem t6 : ∀ {C:cD} {o:Nat} {φ:VT},fV C=true→fV (ou C o φ)=true:=by
 have hall : ∀ (C:cD) (o:Nat) (φ:VT) (p:Nat→Lay→Bool),(ou C o φ).all (fun q=>p q.1 q.2.1)=C.all (fun q=>p q.1 q.2.1):=by
  intro C o φ p
  induction C with
  | nil => rfl
  | cons q C ih =>
   obtain ⟨k,l,v⟩:=q
   rw [ou]; cases h:Nat.beq k o
   ·simp only [cond_false,List.all_cons,ih]
   ·simp only [cond_true,List.all_cons]
 intro C
 induction C with
 | nil => intro o φ h; rfl
 | cons q C ih =>
  obtain ⟨k,l,v⟩:=q
  intro o φ h
  simp only [fV,Bool.and_eq_true] at h
  rw [ou]; cases hk:Nat.beq k o
  ·simp only [cond_false,fV,Bool.and_eq_true]
   exact ⟨by rw [hall C o φ (fun a b=>decide (k+l.sz≤a) || decide (a+b.sz≤k))]; exact h.1,ih h.2⟩
  ·simp only [cond_true,fV,Bool.and_eq_true]; exact h
theorem l3 {z:Array Value} {h:Hp} : ∀ {pl:List (Nat × Lay)},(pl.all fun q=>(bT q.2 z q.1).isSome)=true→ik (dt z pl) z h
 | [], _, q, hq => by cases hq
 | (o, L) :: r, ha, q, hq => by
  simp only [List.all_cons,Bool.and_eq_true] at ha
  rw [dt] at hq
  rcases List.mem_cons.1 hq with rfl | hq
  ·obtain ⟨v,hv⟩:=Option.isSome_iff_exists.1 ha.1
   simp only at hv ⊢; rw [hv]; exact ⟨v,rfl,rfl⟩
  ·exact l3 ha.2 q hq
theorem sn {a:Act} {h:Hp} {pl:List (Nat × Lay)} {m:Nat} : ∀ {C C':cD} {parts:List (Nat × Operand)} {c:Array Value},BuildOk Γ pl C parts C'→(∀ x φ,x∈parts.map (·.2)→aQ Γ x=some φ→φ.p (a.eval x) h) →
  (∀ q∈pl,q.1+q.2.sz≤m)→c.size=m→c.all (·.oneCell')=true→fV C=true→ik C c h →
  ∃ c',Instr.fill (fun i=>(pl[i]?).map fun q=>(q.1,q.2.sz)) c (parts.map fun (i,x)=>(i,a.eval x))=some c'∧c'.size=m∧c'.all (·.oneCell')=true∧ik C' c' h
 | C, _, [], c, .nil, _, _, hs, ho, _, hc => ⟨c, rfl, hs, ho, hc⟩
 | C, C', (i, x) :: r, c, .cons (o := o) (L := L) (φ := φ) (hF := hF) h1 h2 h3 h4, hf, hpl, hs, ho, hap, hc => by
  have hp:=hf x φ (by simp) h2
  obtain ⟨f1,f2,f3⟩:=hF.ok _ _ hp
  have hfit:=hpl _ (List.mem_of_getElem? h1)
  simp only at hfit
  have hle:o+(a.eval x).cells.size≤c.size:=by rw [f1,hs]; exact hfit
  obtain ⟨c',k1,k2,k3,k4⟩:=sn (c:=cz c o (a.eval x).cells) h4 (fun y ψ hy he=>hf y ψ (by simp at hy ⊢; exact .inr hy) he) hpl (by rw [cW hle]; exact hs) (im ho f2) (t6 hap)
   (qS hle f1 (dS (by rw [hs]; exact hfit) f1 f3) hp hap h3 hc)
  refine ⟨c',?_,k2,k3,k4⟩
  simp only [List.map_cons,Instr.fill,h1,Option.map_some]
  rw [if_neg (by simp [f1,hs]; exact hfit),jA _ _ _ hle]
  exact k1
theorem l5 {T:TypeId} {m:Nat} {z:Array Value} {pl:List (Nat × Lay)} [hB:BuildOf P T m z pl] {parts:Array (Nat × Operand)} {C:cD}
  (h:BuildOk Γ pl (dt z pl) parts.toList C) (hz:(pl.all fun q=>(bT q.2 z q.1).isSome && decide (q.1+q.2.sz≤m))=true) (hap:fV (dt z pl)=true) :
  aP P E Γ M ⟨d, .build T parts,ty,pos,af,gd⟩ (bA m C) :=
 aP.ofRun fun a w hb hf=>by
  have hz1:(pl.all fun q=>(bT q.2 z q.1).isSome)=true:=by
   rw [List.all_eq_true] at hz ⊢; intro q hq;have:=hz q hq;simp only [Bool.and_eq_true] at this;exact this.1
  have hz2 : ∀ q∈pl,q.1+q.2.sz≤m:=by
   rw [List.all_eq_true] at hz;intro q hq;have:=hz q hq;simp only [Bool.and_eq_true,decide_eq_true_eq] at this;exact this.2
  obtain ⟨c',k1,k2,k3,k4⟩:=sn (a:=a) (h:=hv E M w) h (fun x φ hx he=>hf x φ (by simpa [Op.operands] using hx) he) hz2 hB.zs hB.zo hap (l3 hz1)
  refine ⟨.agg c',?_,c',rfl,k2,k3,k4⟩
  have hr:=hB.run (parts.map fun (i,x)=>(i,a.eval x)) c' w (by rw [Array.toList_map]; exact k1)
  simp only [execOp,Sem.run_bind,hr,Result.andThen_ok,Sem.run_pure]
/-! ### BuildOf from closed facts -/
def oy (P:Program) (T:TypeId):Option (List (Nat × Option Nat)) :=
 match P.underlying T with
 | some (.struct fs) => some (fs.toList.map fun f => (f.offset, (P.info? f.type).map (·.size)))
 | _ => none
theorem oz : ∀ (fs:List Field) (pl:List (Nat × Lay)) (w:World),fs.map (fun f=>(f.offset,(P.info? f.type).map (·.size)))=pl.map (fun q=>(q.1,some q.2.sz)) →
  (fs.mapM fun f=>(do pure (f.offset, ← Go.sizeOf f.type):Sem (Nat × Nat))).run P w = .ok (pl.map fun q=>(q.1,q.2.sz)) w
 | [], [], w, _ => by simp
 | [], _ :: _, w, h => by simp at h
 | _ :: _, [], w, h => by simp at h
 | f :: fs, q :: pl, w, h => by
  simp only [List.map_cons,List.cons.injEq,Prod.mk.injEq] at h
  have ih:=oz fs pl w h.2
  have hs:(Go.sizeOf f.type).run P w = .ok q.2.sz w:=by
   cases hi:P.info? f.type with
   | none => rw [hi] at h; simp at h
   | some i => rw [hi] at h; simp at h; simp [Go.sizeOf, Sem.run_bind, gT hi, h.1.2]
  simp only [List.mapM_cons,Sem.run_bind,hs,Result.andThen_ok,Sem.run_pure,ih,List.map_cons,h.1.1]
theorem BuildOf.by_struct {T:TypeId} {m by':Nat} {z:Array Value} {pl:List (Nat × Lay)} (hz:ZeroOf P T (.agg z) by') (hs:z.size=m) (ho:z.all (·.oneCell')=true)
  (h:oy P T=some (pl.map fun q=>(q.1,some q.2.sz))):BuildOf P T m z pl where
 zero:=fun w=>ZeroOf.run w
 zs:=hs
 zo:=ho
 run:=by
  intro parts cells w hfill
  unfold oy at h
  split at h
  ·rename_i fs hfs
   simp only [Option.some.injEq] at h
   have hp:=oz fs.toList pl w h
   have hp':(fs.mapM fun f=>(do pure (f.offset, ← Go.sizeOf f.type):Sem (Nat × Nat))).run P w = .ok (pl.map fun q=>(q.1,q.2.sz)).toArray w:=by
    rw [Array.mapM_eq_mapM_toList]
    show ((fs.toList.mapM fun f=>(do pure (f.offset, ← Go.sizeOf f.type):Sem (Nat × Nat))) >>= fun l=>pure l.toArray).run P w=_
    rw [Sem.run_bind,hp]; rfl
   have hz':=ZeroOf.run (P:=P) (T:=T) (z := .agg z) w
   unfold Instr.build
   simp only [Sem.run_bind,hz',Result.andThen_ok,bj hfs,hp',Value.cells]
   have e:(fun x=>(pl.map fun q=>(q.1,q.2.sz)).toArray[x]?)=fun (i:Nat)=>(pl[i]?).map fun (q:Nat × Lay)=>(q.1,q.2.sz):=by funext i;simp
   rw [e,hfill]; rfl
  ·cases h
theorem oA {f g:Nat→Option (Nat × Nat)} {m:Nat} (h : ∀ i,f i=g i∨(g i=none ∧ ∃ o s,f i=some (o,s)∧0<s∧m<o+s)) : ∀ (l:List (Nat × Value)) (c:Array Value),c.size=m→Instr.fill f c l=Instr.fill g c l
 | [], c, _ => rfl
 | (i, v) :: l, c, hc => by
  simp only [Instr.fill]
  rcases h i with h1 | ⟨h1,o,s,h2,h3,h4⟩
  ·rw [h1]
   cases g i with
   | none => rfl
   | some q =>
    obtain ⟨o,s⟩:=q
    simp only
    split
    ·rfl
    ·rename_i hh
     refine oA h l _ ?_
     rw [jA _ _ _ (by simp at hh;omega),cW (by simp at hh;omega)]; exact hc
  ·rw [h1,h2]; simp only
   rw [if_pos]
   simp only [ne_eq,Bool.or_eq_true,decide_eq_true_eq]
   by_cases hv:v.cells.size=s
   ·right;omega
   ·left;exact hv
theorem BuildOf.by_array {T e:TypeId} {n m by':Nat} {L:Lay} {z:Array Value} (hz:ZeroOf P T (.agg z) by') (hA:ArrayOf P T n e) (hL:LayOf P e L) (hs:z.size=m) (ho:z.all (·.oneCell')=true) (hm:n*L.sz=m) (h0:0<L.sz) :
  BuildOf P T m z ((List.range n).map fun i=>(i*L.sz,L)) where
 zero:=fun w=>ZeroOf.run w
 zs:=hs
 zo:=ho
 run:=by
  intro parts cells w hfill
  have hz':=ZeroOf.run (P:=P) (T:=T) (z := .agg z) w
  unfold Instr.build
  simp only [Sem.run_bind,hz',Result.andThen_ok,bj hA.und,cN (L:=L),Value.cells]
  rw [oA (g:=fun i=>(((List.range n).map fun i=>(i*L.sz,L))[i]?).map fun q=>(q.1,q.2.sz)) (m:=m) (fun i => ?_) _ _ hs]
  ·rw [hfill]; rfl
  ·rcases Nat.lt_or_ge i n with h | h
   ·left;simp [h]
   ·right
    refine ⟨by simp [List.getElem?_eq_none,h],i*L.sz,L.sz,rfl,h0,?_⟩
    have:=Nat.mul_le_mul_right L.sz h
    omega
end
end Tor
end
section
set_option linter.unusedSectionVars false
namespace Tor
open Go Go.RowKit
section
variable {P:Program} {E:Env} {D:List Deferred} {Γ:Ctx} {M:Mem} {Q:Exit→Act→World→Prop}
variable {ops:Array Oper} {i:Nat} {ty:TypeId} {pos:String} {af:Array Edge} {os:List Oper} {K:List Deferred→Ctx→Mem→Prop} {d:Option Tmp} {gd:Option (Nat × Bool)} {dr:Bool} {op:Op}
theorem xz {L:Lay} {c:Array Value} {o:Nat} {x:Value} (h:bT L c o=some x):o+L.sz≤c.size:=by
  cases L with
  | one => have := (Array.getElem?_eq_some_iff.1 h).1; simp only [Lay.sz]; omega
  | agg n => simp only [bT] at h; split at h
             · assumption
             · cases h
theorem gz {L:Lay} {c c':Array Value} {o o':Nat} (h1:o+L.sz≤c.size) (h2:o'+L.sz≤c'.size) (h : ∀ j,j<L.sz→c[o+j]? = c'[o'+j]?):bT L c o=bT L c' o':=by
 cases L with
 | one => have := h 0 (by simp [Lay.sz]); rw [Nat.add_zero, Nat.add_zero] at this; exact this
 | agg n =>
  simp only [bT,Lay.sz] at *
  rw [if_pos h1,if_pos h2]
  congr 2
  apply Array.ext_getElem?; intro j
  rw [cQ,cQ]
  split
  ·rename_i hj;exact h j hj
  ·rfl
theorem t7 {L:Lay} {c:Array Value} {o j:Nat} {x:Value} (h:bT L c o=some x) (hx:x.cells.all (·.oneCell')=true) (hs:x.cells.size=L.sz) (h0:bT L x.cells 0=some x) (hj:j<L.sz) : ∃ y,c[o+j]? = some y∧y.oneCell'=true:=by
 cases L with
 | one =>
  simp only [Lay.sz] at *
  have:j=0:=by omega
  subst this
  refine ⟨x,h,?_⟩
  simp only [bT] at h0
  exact (Array.all_eq_true_iff_forall_mem.1 hx) x (Array.mem_of_getElem? h0)
 | agg n =>
  simp only [bT,Lay.sz] at *
  split at h
  ·rename_i hle
   cases h
   simp only [Value.cells] at hx
   have e:=cQ c o n j
   rw [if_pos hj] at e
   have hlt:o+j<c.size:=by omega
   refine ⟨c[o+j],by simp [hlt],?_⟩
   refine (Array.all_eq_true_iff_forall_mem.1 hx) _ (Array.mem_of_getElem? (i:=j) ?_)
   rw [e]; simp [hlt]
  ·cases h
theorem nH {L:Lay} {w:World} {h:Hp} (hle:Hp.le h (ct w)) {a:Option Addr} {m cap:Nat} {ψ:Nat→VT} [hF : ∀ q,Flat (ψ q) L] (hsz:0<L.sz)
  (he : ∀ i,i<m → ∃ b o c T f x,a=some ⟨b,o,none⟩∧h b=some (c,T,f)∧bT L c (o+i*L.sz)=some x∧(ψ i).p x h) :
  ∃ new:Array Value,(Builtin.firstCells L.sz m (.slice a m cap)).run P w = .ok new w∧new.size=m*L.sz∧new.all (·.oneCell')=true ∧ ∀ i,i<m → ∃ x,bT L new (i*L.sz)=some x∧(ψ i).p x h:=by
 by_cases hm:m=0
 ·subst hm
  refine ⟨#[],?_,by simp,by simp,fun i hi=>by omega⟩
  cases a with
  | none => simp [Builtin.firstCells]
  | some ad => simp [Builtin.firstCells, loadCells, loadCellsFrom]
 ·obtain ⟨b,o,c,T,f,x0,rfl,hb,hx0,_⟩:=he 0 Y
  have hc:ct w b=some (c,T,f):=hle _ _ hb
  have hel : ∀ i,i<m → ∃ x,bT L c (o+i*L.sz)=some x∧(ψ i).p x h:=by
   intro i hi
   obtain ⟨b',o',c',T',f',x,h1,h2,h3,h4⟩:=he i hi
   simp only [Option.some.injEq,Addr.mk.injEq,and_true] at h1
   obtain ⟨rfl,rfl⟩:=h1
   rw [hb] at h2;cases h2
   exact ⟨x,h3,h4⟩
  have hcell : ∀ k,k<m*L.sz → ∃ y,c[o+k]? = some y∧y.oneCell'=true:=by
   intro k hk
   have hq:k / L.sz<m:=Nat.div_lt_of_lt_mul (by rw [Nat.mul_comm]; exact hk)
   obtain ⟨x,hx,hp⟩:=hel (k / L.sz) hq
   obtain ⟨f1,f2,f3⟩:=(hF (k / L.sz)).ok _ _ hp
   obtain ⟨y,hy,ho⟩:=t7 (j:=k % L.sz) hx f2 f1 f3 (Nat.mod_lt _ hsz)
   refine ⟨y,?_,ho⟩
   have:o+k / L.sz*L.sz+k % L.sz=o+k:=by
    have:=Nat.div_add_mod k L.sz;rw [Nat.mul_comm] at this;omega
   rw [this] at hy;exact hy
  have hfit:o+m*L.sz≤c.size:=by
   obtain ⟨x,hx,_⟩:=hel (m - 1) Y
   have:=xz hx
   have e:m*L.sz=(m - 1)*L.sz+L.sz:=by
    have:m=(m - 1)+1:=by omega
    conv=>lhs;rw [this,Nat.succ_mul]
   omega
  refine ⟨c.extract o (o+m*L.sz),?_,by simp;omega,?_,fun i hi => ?_⟩
  ·have hl:=run_loadCells (P:=P) w ⟨b,o,none⟩ (m*L.sz) (fun j=>c.getD (o+j) undef) (fun j hj=>by
    rw [dY,kF hc,Array.getD_eq_getD_getElem?]
    have:o+j<c.size:=by omega
    simp [this])
   have hE:((List.range (m*L.sz)).map fun j=>c.getD (o+j) undef).toArray=c.extract o (o+m*L.sz):=by
    apply Array.ext
    ·simp;omega
    ·intro i h1 h2
     simp at h1
     have:o+i<c.size:=by omega
     simp [Array.getD_eq_getD_getElem?,this]
   rw [hE] at hl
   exact hl
  ·rw [Array.all_eq_true_iff_forall_mem]
   intro y hy
   obtain ⟨k,hk⟩:=Array.mem_iff_getElem?.1 hy
   rw [cQ] at hk
   split at hk
   ·rename_i hk'
    obtain ⟨y',h1,h2⟩:=hcell k hk'
    rw [h1] at hk;cases hk;exact h2
   ·cases hk
  ·obtain ⟨x,hx,hp⟩:=hel i hi
   refine ⟨x,?_,hp⟩
   have hi2:i*L.sz+L.sz≤m*L.sz:=by
    have:=Nat.mul_le_mul_right L.sz (show i+1≤m by omega);rwa [Nat.succ_mul] at this
   rw [← hx]
   refine gz (by simp;omega) Y fun j hj => ?_
   rw [cQ,if_pos Y]; congr 1;omega
theorem p8 (need:Nat) : ∀ (r c:Nat),c≤2*need+1000→(c<need→True)→Builtin.growBy need r c≤2*need+1000
 | 0, c, h, _ => h
 | r + 1, c, h, _ => by
  rw [Builtin.growBy]
  split
  ·exact h
  ·exact p8 need r _ Y (fun _=>trivial)
theorem t8 {need cap:Nat} (h:cap<need):Builtin.nextslicecap need cap≤2*need+1000:=by
 unfold Builtin.nextslicecap
 split
 ·omega
 ·split
  ·omega
  ·exact p8 need 4 cap Y (fun _=>trivial)
theorem Ext.drew (w:World):Ext w w.drew:=(Below.refl _ _).drew
theorem t9 {T e:TypeId} {L:Lay} {z:Value} {by':Nat} [hS:SliceOf P T e] [hL:LayOf P e L] [hZ:ZeroOf P e z by'] {ψ:Nat→VT} [hF : ∀ q,Flat (ψ q) L] {w:World} {h h2:Hp} {sv:Option Nat} {n cap m cap2:Nat} {φ:Nat→VT} {a:Option Addr} {rt:TypeId}
  (hsz:0<L.sz) (hzs:z.cells.size=L.sz) (ho:(aU sv e L cap n φ).p (raw w) h) (hle:Hp.le h2 (ct w))
  (he : ∀ i,i<m → ∃ b o c T f x,a=some ⟨b,o,none⟩∧h2 b=some (c,T,f)∧bT L c (o+i*L.sz)=some x∧(ψ i).p x h2)
  (hb:(2*(n+m)+1000)*by'≤2^48) (hnm:n+m≤2^48) (h12:Hp.le h2 h) :
  ∃ sv' cap' w',(Builtin.append_ #[T,T] rt #[slV sv n cap, .slice a m cap2]).run P w = .ok (slV sv' (n+m) cap') w'∧(aU sv' e L cap' (n+m) (fun i=>if i<n then φ i else ψ (i - n))).p (raw w') h ∧
   ((sv'=sv∧(w'=w ∨ ∃ b c',sv=some b∧w'=w.setRow b c'))∨(sv'=some w.heap.size ∧ ∃ c',w'=w.drew.alloc (.cells c' e))):=by
 obtain ⟨g1,g2,g3,g4⟩:=ho
 obtain ⟨ti,hti,htz,htb⟩:=hZ.info
 have hsl:=hS.und
 have hund:(underlying T).run P w = .ok (.slice e) w:=bj hsl w
 obtain ⟨new,hn1,hn2,hn3,hn4⟩:=nH (P:=P) (cap:=cap2) hle hsz he
 have hsize:=cN (P:=P) (T:=e) (L:=L) w
 have hnew' : ∀ i,i<m → ∃ x,bT L new (i*L.sz)=some x∧(ψ i).p x h:=fun i hi=>let ⟨x,hx,hp⟩:=hn4 i hi;⟨x,hx,(ψ i).mono h12 hp⟩
 have hmat:(match (TypeDesc.slice e) with | .int _=>true | _=>false)=false:=rfl
 by_cases hfit:n+m≤cap
 ·-- there is room
  cases sv with
  | none =>
   have hc0:cap=0:=g3 Z
   have hm0:m=0:=by omega
   have hn0:n=0:=by omega
   subst hm0 hn0 hc0
   refine ⟨none,0,w,?_,⟨by omega,by omega,fun _=>rfl,fun b hb=>by cases hb⟩, .inl ⟨rfl, .inl Z⟩⟩
   simp [Builtin.append_,slV,hund,hsize,Builtin.lenOf,hn1]
  | some b =>
   obtain ⟨c,hc,hcs,hce⟩:=g4 b Z
   have hrm:n*L.sz+new.size≤c.size:=by
    rw [hn2,hcs, ← Nat.add_mul]; exact Nat.mul_le_mul_right _ hfit
   have hst:=run_storeCells_at (P:=P) b (n*L.sz) e new.toList 0 c w (hP hc) (by simp;omega) (fun x hx=>(Array.all_eq_true_iff_forall_mem.1 hn3) x (by simpa using hx))
   simp only [Nat.add_zero,Array.length_toList] at hst
   refine ⟨some b,cap,w.setRow b (cz c (n*L.sz) new),?_,⟨hfit,hnm,fun hh=>(by cases hh),fun b' hb' => ?_⟩, .inl ⟨rfl, .inr ⟨b,_,rfl,rfl⟩⟩⟩
   ·simp [Builtin.append_,slV,hund,hsize,Builtin.lenOf,hn1,hfit,dY,hst,cz]
   ·cases hb'
    refine ⟨_,dV hc,by rw [cW hrm]; exact hcs,fun i hi => ?_⟩
    by_cases hin:i<n
    ·simp only [hin,if_true]
     obtain ⟨x,hx,hp⟩:=hce i hin
     refine ⟨x,?_,hp⟩
     rw [dN hrm]; · exact hx
     left
     have:=Nat.mul_le_mul_right L.sz (show i+1≤n by omega);rwa [Nat.succ_mul] at this
    ·simp only [hin,if_false]
     obtain ⟨x,hx,hp⟩:=hnew' (i - n) Y
     refine ⟨x,?_,hp⟩
     rw [← hx]
     have e1:i*L.sz=n*L.sz+(i - n)*L.sz:=by rw [← Nat.add_mul]; congr 1;omega
     have e2:(i - n)*L.sz+L.sz≤m*L.sz:=by
      have:=Nat.mul_le_mul_right L.sz (show (i - n)+1≤m by omega);rwa [Nat.succ_mul] at this
     refine gz (by rw [cW hrm]; omega) Y fun j hj => ?_
     rw [eO hrm,if_pos Y]; congr 1;omega
 ·-- a new array
  have hold : ∃ old:Array Value,(Builtin.firstCells L.sz n (slV sv n cap)).run P w.drew = .ok old w.drew∧old.size=n*L.sz ∧ ∀ i,i<n → ∃ x,bT L old (i*L.sz)=some x∧(φ i).p x h:=by
   cases sv with
   | none =>
    have hc0:cap=0:=g3 Z
    have hn0:n=0:=by omega
    subst hn0
    exact ⟨#[],by simp [Builtin.firstCells,slV],by simp,fun i hi=>by omega⟩
   | some b =>
    obtain ⟨c,hc,hcs,hce⟩:=g4 b Z
    have hcn:n*L.sz≤c.size:=by rw [hcs]; exact Nat.mul_le_mul_right _ g1
    refine ⟨c.extract 0 (n*L.sz),?_,by simp;omega,fun i hi => ?_⟩
    ·have hc':ct w.drew b=some (c,e,(0,0)):=hc
     have hl:=run_loadCells (P:=P) w.drew ⟨b,0,none⟩ (n*L.sz) (fun j=>c.getD j undef) (fun j hj=>by
      rw [dY,kF hc',Array.getD_eq_getD_getElem?,Nat.zero_add]
      have:j<c.size:=by omega
      simp [this])
     have hE:((List.range (n*L.sz)).map fun j=>c.getD j undef).toArray=c.extract 0 (n*L.sz):=by
      apply Array.ext
      ·simp;omega
      ·intro i h1 h2
       simp at h1
       have:i<c.size:=by omega
       simp [Array.getD_eq_getD_getElem?,this]
     rw [hE] at hl
     exact hl
    ·obtain ⟨x,hx,hp⟩:=hce i hi
     refine ⟨x,?_,hp⟩
     have e2:i*L.sz+L.sz≤n*L.sz:=by
      have:=Nat.mul_le_mul_right L.sz (show i+1≤n by omega);rwa [Nat.succ_mul] at this
     rw [← hx]
     refine gz (by simp;omega) Y fun j hj => ?_
     have:=cQ c 0 (n*L.sz) (i*L.sz+j)
     rw [Nat.zero_add,Nat.zero_add] at this
     rw [this,if_pos Y]
  obtain ⟨old,ho1,ho2,ho3⟩:=hold
  have hnc:=t8 (show cap<n+m by omega)
  have hnb : ¬ (Builtin.nextslicecap (n+m) cap*by'>2^48):=by
   have:=Nat.mul_le_mul_right by' hnc;omega
  obtain ⟨new2,hn1',hn2',hn3',hn4'⟩:=nH (P:=P) (w:=w.drew) (cap:=cap2) (h:=h2) hle hsz he
  let nc:=(Question.appendCap (n+m) cap e).cut (w.tape w.drawn (.appendCap (n+m) cap e))
  have hnc2:n+m≤nc:=by show n+m≤(n+m)+_;omega
  have hzr:=ZeroOf.run (P:=P) (T:=e) (z:=z)
  refine ⟨some w.heap.size,nc,w.drew.alloc (.cells (old ++ new2 ++ Builtin.zeroCells z.cells (nc - (n+m))) e),?_,⟨hnc2,hnm,fun hh=>(by cases hh),fun b' hb' => ?_⟩, .inr ⟨rfl,_,rfl⟩⟩
  ·have hn' : ¬ (n+m≤cap):=hfit
   have h63' : ¬ (9223372036854775807<((n:Int)+(m:Int))):=by omega
   have h48' : ¬ (281474976710656<Builtin.nextslicecap (n+m) cap*ti.bytes):=by rw [htb]; simpa using hnb
   have htis:ti.size=L.sz:=by
    obtain ⟨ti',k1,k2⟩:=hL.info
    rw [hti] at k1;cases k1;exact k2
   simp only [slV] at ho1 ⊢
   simp [Builtin.append_,bj hsl,Go.sizeOf,typeInfo,zeroValue,hti,htz,htis,Builtin.lenOf,hn',h63',h48',Question.forced,hn1',ho1,newRow]
   exact ⟨rfl,rfl⟩
  ·cases hb'
   refine ⟨_,cg w.drew _ _ _,?_,fun i hi => ?_⟩
   ·simp only [Array.size_append,ho2,hn2',Builtin.zeroCells,Array.size_map,Array.size_range,hzs, ← Nat.add_mul]
    congr 1;omega
   ·have key : ∀ (k:Nat),k<(n+m)*L.sz→(old ++ new2 ++ Builtin.zeroCells z.cells (nc - (n+m)))[k]? = if k<n*L.sz then old[k]? else new2[k - n*L.sz]? := by
     intro k hk
     rw [Nat.add_mul] at hk
     rw [Array.getElem?_append_left (by simp only [Array.size_append]; omega),Array.getElem?_append]
     simp only [ho2]
    have hsz2:(n+m)*L.sz≤(old ++ new2 ++ Builtin.zeroCells z.cells (nc - (n+m))).size:=by
     simp only [Array.size_append,ho2,hn2',Nat.add_mul]; omega
    have hi2:i*L.sz+L.sz≤(n+m)*L.sz:=by
     have:=Nat.mul_le_mul_right L.sz (show i+1≤n+m by omega);rwa [Nat.succ_mul] at this
    by_cases hin:i<n
    ·simp only [hin,if_true]
     obtain ⟨x,hx,hp⟩:=ho3 i hin
     refine ⟨x,?_,hp⟩
     have e2:i*L.sz+L.sz≤n*L.sz:=by
      have:=Nat.mul_le_mul_right L.sz (show i+1≤n by omega);rwa [Nat.succ_mul] at this
     rw [← hx]
     exact gz Y Y fun j hj=>by rw [key _ Y,if_pos Y]
    ·simp only [hin,if_false]
     obtain ⟨x,hx,hp⟩:=hn4' (i - n) Y
     refine ⟨x,?_,(ψ _).mono h12 hp⟩
     have e1:i*L.sz=n*L.sz+(i - n)*L.sz:=by rw [← Nat.add_mul]; congr 1;omega
     have e2:(i - n)*L.sz+L.sz≤m*L.sz:=by
      have:=Nat.mul_le_mul_right L.sz (show (i - n)+1≤m by omega);rwa [Nat.succ_mul] at this
     rw [← hx]
     refine gz Y Y fun j hj => ?_
     rw [key _ Y,if_neg Y]; congr 1;omega
theorem St.renew {a:Act} {w:World} (hS:St E D Γ M a w) {j:Nat} {o o':Own} (hM:M[j]? = some o) {c:Array Value} {T:TypeId} (hbl:o'.bl = [w.heap.size])
  (hp:o'.p (raw (w.drew.alloc (.cells c T))) (hv E M w)) {d:Nat} (hd:d<E.N) {v:Value} {ψ:VT} (hv':ψ.p v (hv E M w)) :
  St E D ((d, ψ) :: Γ) (M.set j o') (a.put (some d) v) (w.drew.alloc (.cells c T)):=by
 have k:Ext w w.drew:=Ext.drew w
 have hS':St E D Γ M a w.drew:=⟨hS.base.ext k,hS.sz,hS.df,fun t φ h=>φ.mono (Base.hv_ext k) (hS.tm t φ h)⟩
 have h1:=hS'.alloc (o:=o') (c:=c) (T:=T) (d:=d) (v:=v) (ψ:=ψ) hbl hp hd hv'
 -- the entry is moved from the front to its place
 have hlt:=(List.getElem?_eq_some_iff.1 hM).1
 have hmem : ∀ q∈M.set j o',q∈o' :: M:=by
  intro q hq
  rcases List.mem_or_eq_of_mem_set hq with h | h
  ·exact List.mem_cons_of_mem _ h
  ·subst h;exact List.mem_cons_self
 have hblk : ∀ {M:Mem} {j:Nat},j<M.length → ∀ b,b∈a5 (M.set j o')→b∈a5 (o' :: M):=by
  intro M j hj b hb
  obtain ⟨q,hq,hbq⟩:=List.mem_flatMap.1 hb
  rcases List.mem_or_eq_of_mem_set hq with h | h
  ·exact List.mem_flatMap.2 ⟨q,List.mem_cons_of_mem _ h,hbq⟩
  ·subst h;exact List.mem_flatMap.2 ⟨_,List.mem_cons_self,hbq⟩
 have hnd : ∀ {M:Mem} {j:Nat},j<M.length→(a5 (o' :: M)).Nodup→(a5 (M.set j o')).Nodup:=by
  intro M
  induction M with
  | nil => intro j hj; simp at hj
  | cons x M ih =>
   intro j hj hn
   simp only [blks_cons] at hn
   rw [← List.append_assoc,List.nodup_append,List.nodup_append] at hn
   obtain ⟨⟨n1,n2,n3⟩,n4,n5⟩:=hn
   cases j with
   | zero =>
    simp only [List.set_cons_zero,blks_cons,List.nodup_append]
    exact ⟨n1,n4,fun a ha b hb=>n5 a (List.mem_append.2 (.inl ha)) b hb⟩
   | succ j =>
    simp only [List.set_cons_succ,blks_cons,List.nodup_append]
    have hj':j<M.length:=by simpa using hj
    refine ⟨n2,ih hj' ?_,fun a ha b hb => ?_⟩
    ·simp only [blks_cons,List.nodup_append]
     exact ⟨n1,n4,fun a ha b hb=>n5 a (List.mem_append.2 (.inl ha)) b hb⟩
    ·have:=hblk hj' b hb
     simp only [blks_cons,List.mem_append] at this
     rcases this with h | h
     ·exact fun e=>n3 b h a ha e.symm
     ·exact n5 a (List.mem_append.2 (.inr ha)) b h
 have hle:Hp.le (hv E (o' :: M) (w.drew.alloc (.cells c T))) (hv E (M.set j o') (w.drew.alloc (.cells c T))):=lA fun b hb=>hblk hlt b hb
 refine ⟨⟨fun q hq=>q.loc (fun _ _=>rfl) hle (h1.base.mem q (hmem q hq)),hnd hlt h1.base.nd,fun b hb=>h1.base.dis b (hblk hlt b hb),fun b hb=>h1.base.lo b (hblk hlt b hb),fun b hb=>h1.base.ex b ?_,h1.base.fr⟩,h1.sz,h1.df,fun t φ h=>φ.mono hle (h1.tm t φ h)⟩
 rcases List.mem_append.1 hb with h | h
 ·exact List.mem_append.2 (.inl h)
 ·exact List.mem_append.2 (.inr (hblk hlt b h))
theorem de {T e:TypeId} {L:Lay} {z:Value} {by':Nat} [hS:SliceOf P T e] [hL:LayOf P e L] [hZ:ZeroOf P e z by'] [hFz:Flat (one z) L] {x y:Operand} {sv:Option Nat} {n cap m d:Nat} {φ ψ:Nat→VT} [hF : ∀ q,Flat (ψ q) L] (j:Nat)
  (hx:aQ Γ x=some (one (slV sv n cap))) (hM:M[j]? = some (aU sv e L cap n φ)) (hy:aQ Γ y=some (slT L m ψ)) (hsz:0<L.sz) (hb:(2*(n+m)+1000)*by'≤2^48) (hnm:n+m≤2^48)
  (hi:ops[i]? = some ⟨some d, .call ⟨.builtin .append, #[x,y], #[T,T]⟩,ty,pos,af,none⟩) (hd:d<E.N)
  (h : ∀ sv' cap',Run P E ops false (i+1) D ((d,one (slV sv' (n+m) cap')) :: Γ) (M.set j (aU sv' e L cap' (n+m) (fun q=>if q<n then φ q else ψ (q - n)))) os K) :
  Run P E ops false i D Γ M (⟨some d, .call ⟨.builtin .append, #[x,y], #[T,T]⟩,ty,pos,af,none⟩ :: os) K:=by
 refine Run.one (K':=fun D' Γ' M' => ∃ sv' cap',D'=D∧Γ'=(d,one (slV sv' (n+m) cap')) :: Γ∧M'=M.set j (aU sv' e L cap' (n+m) (fun q=>if q<n then φ q else ψ (q - n)))) Z (fun a w hSt => ?_) (fun D' Γ' M' ⟨sv',cap',h1,h2,h3⟩=>by subst h1 h2 h3;exact h sv' cap') hi
 have h1:a.eval x=slV sv n cap:=dw hSt hx
 obtain ⟨ad,cap2,h2,h3,h4,he⟩:=dw hSt hy
 have ho:=eh hSt.base hM
 obtain ⟨z1,_,_⟩:=hFz.ok z (fun _=>none) Z
 obtain ⟨sv',cap',w',hr,hp,hw⟩:=t9 (P:=P) (T:=T) (e:=e) (rt:=ty) (cap2:=cap2) hsz z1 ho (xr _ _) he hb hnm (Hp.le_refl _)
 refine ⟨.ok (.value (slV sv' (n+m) cap')) w',?_,D,_,_,⟨sv',cap',rfl,rfl,rfl⟩,?_⟩
 ·simp only [execOp,resolve,invoke,builtin,Sem.run_bind,Sem.run_pure,Result.andThen_ok,List.map_toArray,List.map_cons,List.map_nil,h1,h2,hr]
 ·show St E D _ _ (a.put (some d) _) _
  rcases hw with ⟨rfl,hw⟩ | ⟨hs,c',rfl⟩
  ·have hSt2:St E D Γ (M.set j (aU sv' e L cap' (n+m) (fun q=>if q<n then φ q else ψ (q - n)))) a w':=by
    refine hSt.own hM Z ?_ ?_ ?_ ?_ ?_ hp
    ·intro k hk
     rcases hw with rfl | ⟨b,c',hb',rfl⟩
     ·rfl
     ·exact db _ _ _ _ (by intro e';apply hk;simp [aU,hb',e'])
    all_goals (rcases hw with rfl | ⟨b,c',hb',rfl⟩ <;> first | rfl | exact dW _ _ _)
   exact hSt2.put (Ext.refl _) hd Z
  ·exact hSt.renew hM (by simp [aU,hs]) hp hd Z
/-! ### Slice literals -/
inductive PartsOk (Γ:Ctx) (L:Lay):Nat→List (Nat × Operand)→List VT→Prop
 | nil {k} : PartsOk Γ L k [] []
 | cons {k x r φ φs} [hF : Flat φ L] : aQ Γ x = some φ → PartsOk Γ L (k + 1) r φs → PartsOk Γ L k ((k, x) :: r) (φ :: φs)
theorem PartsOk.len {L:Lay} {k:Nat} {r:List (Nat × Operand)} {φs:List VT} (h:PartsOk Γ L k r φs):φs.length=r.length:=by
 induction h with
 | nil => rfl
 | cons _ _ ih => simp [ih]
theorem lC {L:Lay} {a:Act} {h:Hp} {m:Nat} {r:List (Nat × Operand)} {φs:List VT} {k:Nat} (hp:PartsOk Γ L k r φs) :
  ∀ (c:Array Value),(∀ x φ,x∈r.map (·.2)→aQ Γ x=some φ→φ.p (a.eval x) h)→c.size=m→k*L.sz+r.length*L.sz≤m →
  ∃ c',Instr.fill (fun i=>some (i*L.sz,L.sz)) c (r.map fun (i,x)=>(i,a.eval x))=some c'∧c'.size=m ∧
   (∀ q,q<k→bT L c' (q*L.sz)=bT L c (q*L.sz)) ∧ ∀ q φ, φs[q]? = some φ → ∃ x,bT L c' ((k+q)*L.sz)=some x∧φ.p x h:=by
 induction hp with
 | nil => intro c _ hs _; exact ⟨c, rfl, hs, fun _ _ => rfl, fun q φ e => by simp at e⟩
 | @cons k x r φ φs hF hx hr ih =>
  intro c hf hs hle
  have hpv:=hf x φ (by simp) hx
  obtain ⟨f1,f2,f3⟩:=hF.ok _ _ hpv
  simp only [List.length_cons,Nat.add_mul,Nat.one_mul] at hle
  have hfit:k*L.sz+(a.eval x).cells.size≤c.size:=by rw [f1,hs]; omega
  obtain ⟨c',k1,k2,k3,k4⟩:=ih (cz c (k*L.sz) (a.eval x).cells) (fun y ψ hy he=>hf y ψ (by simp at hy ⊢; exact .inr hy) he) (by rw [cW hfit]; exact hs) (by rw [Nat.add_mul,Nat.one_mul]; omega)
  refine ⟨c',?_,k2,fun q hq => ?_,fun q ψ e => ?_⟩
  ·simp only [List.map_cons,Instr.fill]
   rw [if_neg (by simp [f1]; omega),jA _ _ _ hfit]; exact k1
  ·rw [k3 q Y,dN hfit]
   left
   have:=Nat.mul_le_mul_right L.sz (show q+1≤k by omega);rwa [Nat.succ_mul] at this
  ·cases q with
   | zero =>
    simp at e;subst e
    refine ⟨a.eval x,?_,hpv⟩
    rw [Nat.add_zero,k3 k Y]; exact dS (by rw [hs]; omega) f1 f3
   | succ q =>
    simp at e
    obtain ⟨v,hv1,hv2⟩:=k4 q ψ e
    exact ⟨v,by rw [show k+(q+1)=k+1+q by omega]; exact hv1,hv2⟩
theorem io {T e:TypeId} {L:Lay} {z:Value} {by' n:Nat} [hS:SliceOf P T e] [hL:LayOf P e L] [hZ:ZeroOf P e z by'] {parts:Array (Nat × Value)} {c':Array Value} {w:World} (hn:n*L.sz≤2^24) (hzs:z.cells.size=L.sz)
  (h:Instr.fill (fun i=>some (i*L.sz,L.sz)) (ep z.cells (n*L.sz)) parts.toList=some c') :
  (Instr.buildSlice T n parts).run P w = .ok (.slice (some ⟨w.heap.size,0,none⟩) n n) (w.alloc (.cells c' e)):=by
 unfold Instr.buildSlice
 have hn' : ¬ (n*L.sz>2^24):=by omega
 simp only [Sem.run_bind,bj hS.und,Result.andThen_ok,cN (L:=L),if_neg hn',Sem.run_pure]
 by_cases h0:n*L.sz=0
 ·simp only [if_pos h0,Sem.run_bind,Sem.run_pure,Result.andThen_ok]
  have e0:(Array.range (n*L.sz)).map (fun x=>(#[]:Array Value)[x % (#[]:Array Value).size]!)=ep z.cells (n*L.sz):=by rw [h0]; simp [ep]
  rw [e0,h]
  simp only [Sem.run_bind,jz,Result.andThen_ok,Sem.run_pure]
 ·have hz:=ZeroOf.run (P:=P) (T:=e) (z:=z) w
  simp only [if_neg h0,Sem.run_bind,hz,Result.andThen_ok,Sem.run_pure]
  have e0:(Array.range (n*L.sz)).map (fun x=>z.cells[x % z.cells.size]!)=ep z.cells (n*L.sz):=rfl
  rw [e0,h]
  simp only [Sem.run_bind,jz,Result.andThen_ok,Sem.run_pure]
theorem so {w:World} {c:Array Value} {T:TypeId} (hb:Base E M w):hid (E.O ++ a5 M) (ct (w.alloc (.cells c T))) w.heap.size=some (c,T,(0,0)) :=
 jv (fun h=>by have:=hb.ex _ h;omega) (cg w c T _)
theorem jB {T e:TypeId} {L:Lay} {z:Value} {by' n:Nat} [hS:SliceOf P T e] [hL:LayOf P e L] [hZ:ZeroOf P e z by'] [hFz:Flat (one z) L] {parts:Array (Nat × Operand)} {φs:List VT}
  (h:PartsOk Γ L 0 parts.toList φs) (hn:parts.size=n) (hsm:n*L.sz≤2^24) (hsz:0<L.sz):aP P E Γ M ⟨d, .buildSlice T n parts,ty,pos,af,gd⟩ (slT L n (fun q=>φs.getD q bO)) :=
 aP.ofRun' fun a w hb hf=>by
  obtain ⟨z1,_,_⟩:=hFz.ok z (fun _=>none) Z
  have hlen:=h.len
  have hn48:n≤2^24:=by
   have:=Nat.le_mul_of_pos_right n hsz;omega
  obtain ⟨c',k1,k2,_,k4⟩:=lC (a:=a) (h:=hv E M w) (m:=n*L.sz) h (ep z.cells (n*L.sz)) (fun x φ hx he=>hf x φ (by simpa [Op.operands] using hx) he) (fa _ _) (by simp [hn])
  have hr:=io (P:=P) (T:=T) (w:=w) (parts:=parts.map fun (i,x)=>(i,a.eval x)) hsm z1 (by rw [Array.toList_map]; exact k1)
  refine ⟨.slice (some ⟨w.heap.size,0,none⟩) n n,w.alloc (.cells c' e),?_,Ext.alloc w _,?_⟩
  ·simp only [execOp,Sem.run_bind,hr,Result.andThen_ok,Sem.run_pure]
  ·refine ⟨_,_,rfl,Nat.le_refl _,by omega,fun q hq => ?_⟩
   have hq':q<φs.length:=by rw [hlen]; simp [hn]; exact hq
   obtain ⟨x,hx,hp⟩:=k4 q φs[q] (by simp [hq'])
   refine ⟨w.heap.size,0,c',e,(0,0),x,rfl,so hb,by simpa using hx,?_⟩
   have:φs.getD q bO=φs[q]:=by simp [List.getD,hq']
   show (φs.getD q bO).p x _
   rw [this]; exact (φs[q]).mono (Base.hv_ext (Ext.alloc w _)) hp
theorem qT {T e:TypeId} {L:Lay} {z:Value} {by' n d:Nat} [hS:SliceOf P T e] [hL:LayOf P e L] [hZ:ZeroOf P e z by'] [hFz:Flat (one z) L] {parts:Array (Nat × Operand)} {φs:List VT}
  (h:PartsOk Γ L 0 parts.toList φs) (hn:parts.size=n) (hsm:n*L.sz≤2^24) (hsz:0<L.sz) (hi:ops[i]? = some ⟨some d, .buildSlice T n parts,ty,pos,af,none⟩) (hd:d<E.N)
  (hr : ∀ b,Run P E ops false (i+1) D ((d,one (slV (some b) n n)) :: Γ) (aU (some b) e L n n (fun q=>φs.getD q bO) :: M) os K) :
  Run P E ops false i D Γ M (⟨some d, .buildSlice T n parts,ty,pos,af,none⟩ :: os) K:=by
 refine Run.one (K':=fun D' Γ' M' => ∃ b,D'=D∧Γ'=(d,one (slV (some b) n n)) :: Γ∧M'=aU (some b) e L n n (fun q=>φs.getD q bO) :: M) Z (fun a w hSt => ?_) (fun D' Γ' M' ⟨b,h1,h2,h3⟩=>by subst h1 h2 h3;exact hr b) hi
 obtain ⟨z1,_,_⟩:=hFz.ok z (fun _=>none) Z
 have hlen:=h.len
 have hn48:n≤2^24:=by
  have:=Nat.le_mul_of_pos_right n hsz;omega
 obtain ⟨c',k1,k2,_,k4⟩:=lC (a:=a) (h:=hv E M w) (m:=n*L.sz) h (ep z.cells (n*L.sz)) (fun x φ hx he=>dw hSt he) (fa _ _) (by simp [hn])
 have hr':=io (P:=P) (T:=T) (w:=w) (parts:=parts.map fun (i,x)=>(i,a.eval x)) hsm z1 (by rw [Array.toList_map]; exact k1)
 refine ⟨.ok (.value (slV (some w.heap.size) n n)) (w.alloc (.cells c' e)),?_,D,_,_,⟨w.heap.size,rfl,rfl,rfl⟩,?_⟩
 ·simp only [execOp,Sem.run_bind,hr',Result.andThen_ok,Sem.run_pure]; rfl
 ·refine hSt.alloc (o:=aU (some w.heap.size) e L n n (fun q=>φs.getD q bO)) Z ⟨Nat.le_refl _,by omega,(fun h=>by cases h),fun b hb => ?_⟩ hd Z
  cases hb
  refine ⟨c',cg w _ _ _,k2,fun q hq => ?_⟩
  have hq':q<φs.length:=by rw [hlen]; simp [hn]; exact hq
  obtain ⟨x,hx,hp⟩:=k4 q φs[q] (by simp [hq'])
  have:φs.getD q bO=φs[q]:=by simp [List.getD,hq']
  exact ⟨x,by simpa using hx,by show (φs.getD q bO).p x _;rw [this]; exact hp⟩
end
end Tor
namespace Tor
open Go Go.RowKit
section
variable {P:Program} {E:Env} {D:List Deferred} {Γ:Ctx} {M:Mem} {ops:Array Oper} {i:Nat} {ty:TypeId} {pos:String} {af:Array Edge} {os:List Oper} {K:List Deferred→Ctx→Mem→Prop}
theorem aF {T:TypeId} {m d:Nat} {z:Array Value} {pl:List (Nat × Lay)} [hB:BuildOf P T m z pl] (hz:(pl.all fun q=>(bT q.2 z q.1).isSome)=true) (hi:ops[i]? = some ⟨some d, .alloc T,ty,pos,af,none⟩) (hd:Nat.ble (d+1) E.N=true)
  (h : ∀ b,Run P E ops false (i+1) D ((d,one (.pointer (some ⟨b,0,none⟩))) :: Γ) (aW b T m (dt z pl) :: M) os K) :
  Run P E ops false i D Γ M (⟨some d, .alloc T,ty,pos,af,none⟩ :: os) K:=by
 refine Run.one (K':=fun D' Γ' M' => ∃ b,D'=D∧Γ'=(d,one (.pointer (some ⟨b,0,none⟩))) :: Γ∧M'=aW b T m (dt z pl) :: M) Z (fun a w hS => ?_) (fun D' Γ' M' ⟨b,h1,h2,h3⟩=>by subst h1 h2 h3;exact h b) hi
 refine ⟨.ok (.value (.pointer (some ⟨w.heap.size,0,none⟩))) (w.alloc (.cells z T)),?_,D,_,_,⟨w.heap.size,rfl,rfl,rfl⟩,?_⟩
 ·have hz:=hB.zero w
  simp [execOp,Instr.alloc,Sem.run_bind,hz,newVar,newRow,newObj,Sem.run,Value.cells]
 ·exact hS.alloc (o:=aW w.heap.size T m (dt z pl)) Z ⟨z,cg w _ _ _,hB.zs,hB.zo,l3 hz⟩ (ltN hd) Z
theorem leN {a b:Nat} (h:Nat.ble a b=true):a≤b:=Nat.le_of_ble_eq_true h
end
end Tor
namespace Tor
open Go Go.RowKit
section
variable {P:Program} {E:Env} {D:List Deferred} {Γ:Ctx} {M:Mem} {Q:Exit→Act→World→Prop}
theorem vf {c:Code} {t:Nat} {F:Prop} {φ:VT} (ht:bP Γ t=some (cq F φ)) (h:F→J P E D ((t, φ) :: Γ) M c Q):J P E D Γ M c Q :=
 iX ht (fun _ _ h=>h.1) fun hF=>oo ht (fun _ _ h=>h.2) (h hF)
def Ok (P:Program) (f:FuncId) (φs:List VT) (ψ:VT):Prop :=
 ∀ (w:World) (O:List Nat) (vs:List Value),(∀ b∈O,b<w.heap.size)→gS φs vs (hid O (ct w))→Calls P f vs.toArray w (Ret O ψ w)
theorem Ok.enter {f:FuncId} {fn:Func} {c:Code} {N:Nat} {φs:List VT} {ψ:VT} (hf:P.funcs[f]? = some fn) (hb:fn.body=some c) (hN:fn.ntmps=N) (hle:Nat.ble φs.length N=true)
  (h : ∀ (w:World) (O:List Nat),J P ⟨w,O, [],N,none⟩ [] (iY 0 φs) [] c (bodyPost P fn (Ret O ψ w))):Ok P f φs ψ :=
 fun w O vs hO hv=>Tor.lg hf hb hN hO hv (Nat.le_of_ble_eq_true hle) (h w O)
def je:List VT→List VT→Prop
 | [], [] => True
 | φ :: φs, ψ :: ψs => VT.le φ ψ ∧ je φs ψs
 | _, _ => False
theorem gU {h:Hp} : ∀ {φs ψs:List VT} {vs:List Value},je φs ψs→gS φs vs h→gS ψs vs h
 | [], [], _, _, hp => hp
 | _ :: _, _ :: _, _ :: _, ⟨h1, h2⟩, ⟨p1, p2⟩ => ⟨h1 _ _ p1, gU h2 p2⟩
 | [], _ :: _, _, h, _ => h.elim
 | _ :: _, [], _, h, _ => h.elim
theorem ip : ∀ φs:List VT,je φs φs
 | [] => trivial
 | _ :: φs => ⟨H, ip φs⟩
theorem Ok.le {f:FuncId} {φs φs':List VT} {ψ ψ':VT} (h:Ok P f φs ψ) (hl:je φs' φs) (hr:VT.le ψ ψ'):Ok P f φs' ψ' :=
 fun w O vs hO hv=>(h w O vs hO (gU hl hv)).mono fun e w' ⟨v,h1,h2,h3⟩=>⟨v,h1,hr _ _ h2,h3⟩
variable {d:Option Tmp} {ty:TypeId} {pos:String} {af:Array Edge} {gd:Option (Nat × Bool)}
theorem am {f:FuncId} [hF:Fn P f] {xs:Array Operand} {ats:Array TypeId} {φs φs':List VT} {ψ:VT} (h:Ok P f φs' ψ) (hx:iM Γ xs.toList=some φs) (hle:je φs φs') :
  aP P E Γ M ⟨d, .call ⟨.value (.func f),xs,ats⟩,ty,pos,af,gd⟩ ψ :=
 BL hx fun w vs hO hp=>h w _ vs hO (gU hle hp)
theorem l6 {F:Prop} {φ ψ:VT} (hF:F) (h:VT.le φ ψ):VT.le φ (cq F ψ):=fun v g h2=>⟨hF,h v g h2⟩
theorem oB {α:Type} {φ:VT} {ψ:α→VT} (x:α) (h:VT.le φ (ψ x)):VT.le φ (exT ψ):=fun v g h2=>⟨x,h v g h2⟩
theorem lh {φ ψ:VT} (h:φ=ψ):VT.le φ ψ:=h▸VT.le_refl _
theorem eY {m:Nat} {cs cs':cD} (h : ∀ q∈cs', ∃ ψ,(q.1,q.2.1, ψ)∈cs∧VT.le ψ q.2.2):VT.le (bA m cs) (bA m cs') :=
 fun v g ⟨c,h1,h2,h3,h4⟩=>⟨c,h1,h2,h3,fun q hq=>let ⟨ψ,h5,h6⟩:=h q hq;let ⟨x,h7,h8⟩:=h4 _ h5;⟨x,h7,h6 _ _ h8⟩⟩
end
end Tor
end
section
set_option linter.unusedSectionVars false
namespace Tor
open Go Go.RowKit
section
variable {P:Program} {E:Env} {D:List Deferred} {Γ:Ctx} {M:Mem} {Q:Exit→Act→World→Prop}
variable {d:Option Tmp} {ty:TypeId} {pos:String} {af:Array Edge} {gd:Option (Nat × Bool)}
theorem gh {σ:Type} {c:Code} {n:Act→World→Prop} (G:σ→Ctx) (Ms:σ→Mem) (ok:σ→Prop)
  (h:J P E D Γ M c (Exit.then (fun a w => ∃ s,ok s∧St E D (G s) (Ms s) a w) Q)) (hy : ∀ s,ok s→PJ E D (G s) (Ms s) .normal (Exit.then n Q)):J P E D Γ M c (Exit.then n Q) :=
 fun a w hS=>(h a w hS).mono fun e a w hq=>by
  cases e <;> first | exact hq | (obtain ⟨s,hs,hS'⟩:=hq;exact hy s hs a w hS')
theorem gV {L:Lay} {φ:Nat→VT} : VT.le (one (.slice none 0 0)) (slT L 0 φ):=fun v h e=>by
 cases e;exact ⟨none,0,rfl,Nat.le_refl _,by decide,fun i hi=>by omega⟩
theorem gW {sv:Option Nat} {T:TypeId} {L:Lay} {cap n:Nat} {φ ψ:Nat→VT} (DS : ∀ q,q<n→VT.le (φ q) (ψ q)):Own.le (aU sv T L cap n φ) (aU sv T L cap n ψ) :=
 ⟨rfl,fun g h ⟨h1,h2,h3,h4⟩=>⟨h1,h2,h3,fun b hb=>let ⟨c,hc,hs,he⟩:=h4 b hb;⟨c,hc,hs,fun i hi=>let ⟨x,hx,hp⟩:=he i hi;⟨x,hx,DS i hi _ _ hp⟩⟩⟩⟩
theorem bQ {sv:Option Nat} {T:TypeId} {L:Lay} {cap n:Nat} {φ ψ:Nat→VT} (DS : ∀ q,q<n→φ q=ψ q):Own.le (aU sv T L cap n φ) (aU sv T L cap n ψ) :=
 gW fun q hq=>by rw [DS q hq]; exact VT.le_refl _
theorem zX {b:Nat} {T:TypeId} {m:Nat} {cs cs':cD} (h : ∀ q∈cs', ∃ ψ,(q.1,q.2.1, ψ)∈cs∧VT.le ψ q.2.2):Own.le (aW b T m cs) (aW b T m cs') :=
 ⟨rfl,fun g k ⟨c,h1,h2,h3,h4⟩=>⟨c,h1,h2,h3,fun q hq=>let ⟨ψ,h5,h6⟩:=h q hq;let ⟨x,h7,h8⟩:=h4 _ h5;⟨x,h7,h6 _ _ h8⟩⟩⟩
theorem eD {T T':TypeId} {x y:Operand} {a b:Nat} (hx:aQ Γ x=some (one (.int .u64 (a:Int)))) (hy:aQ Γ y=some (one (.int .u64 (b:Int)))) (h:a+b<18446744073709551616) :
  aP P E Γ M ⟨d, .binOp .add T x y T',ty,pos,af,gd⟩ (one (.int .u64 ((a+b:Nat):Int))) :=
 ck hx hy (by rw [ek]; omega)
theorem i6 {T T':TypeId} {x y:Operand} {a b:Nat} (hx:aQ Γ x=some (one (.int .u64 (a:Int)))) (hy:aQ Γ y=some (one (.int .u64 (b:Int)))) (h:a*b<18446744073709551616) :
  aP P E Γ M ⟨d, .binOp .mul T x y T',ty,pos,af,gd⟩ (one (.int .u64 ((a*b:Nat):Int))) :=
 nG hx hy (by rw [ek, ← Int.natCast_mul]; omega)
theorem ir {T T':TypeId} {x y:Operand} {a b:Nat} (hx:aQ Γ x=some (one (.int .u64 (a:Int)))) (hy:aQ Γ y=some (one (.int .u64 (b:Int)))) (ha:a<18446744073709551616) (hb:b<18446744073709551616) :
  aP P E Γ M ⟨d, .binOp .sub T x y T',ty,pos,af,gd⟩ (one (.int .u64 (((a+18446744073709551616 - b) % 18446744073709551616:Nat):Int))) :=
 e9 hx hy (by rw [ek]; omega)
theorem lD {T T':TypeId} {x y:Operand} {a b:Nat} (hx:aQ Γ x=some (one (.int .u64 (a:Int)))) (hy:aQ Γ y=some (one (.int .u64 (b:Int)))) (ha:a<18446744073709551616) (h0:b≠0) :
  aP P E Γ M ⟨d, .binOp .quo T x y T',ty,pos,af,gd⟩ (one (.int .u64 ((a / b:Nat):Int))) :=
 CO hx hy Y (by
  rw [← Int.ofNat_tdiv,ek]
  have:=Nat.div_le_self a b
  generalize a / b=q at *
  omega)
theorem vg {T T':TypeId} {x:Operand} {a:Nat} (hx:aQ Γ x=some (one (.int .u64 (a:Int)))) (ha:a<18446744073709551616) :
  aP P E Γ M ⟨d, .binOp .quo T x (.const (.int .u64 4294967296)) T',ty,pos,af,gd⟩ (one (.int .u64 ((a / 4294967296:Nat):Int))) :=
 lD (b:=4294967296) hx Z ha S
theorem aP.le {o:Oper} {φ ψ:VT} (h:aP P E Γ M o φ) (hle:VT.le φ ψ):aP P E Γ M o ψ :=
 fun a w hb hx next Q hn=>h a w hb hx next Q (fun v w' he hp=>hn v w' he (hle v _ hp))
theorem bS {T T':TypeId} {k:IntKind} [IntOf P T k] [IntOf P T' .u64] {x:Operand} {k0:IntKind} {a:Nat} (hx:aQ Γ x=some (one (.int k0 (a:Int)))) (h:a<18446744073709551616) :
  aP P E Γ M ⟨d, .convert T T' x,ty,pos,af,gd⟩ (one (.int .u64 (a:Int))):=kb hx (by rw [ek]; omega)
theorem cP {T T':TypeId} {k:IntKind} [IntOf P T k] [IntOf P T' .u32] {x:Operand} {k0:IntKind} {a:Nat} (hx:aQ Γ x=some (one (.int k0 (a:Int)))) :
  aP P E Γ M ⟨d, .convert T T' x,ty,pos,af,gd⟩ (one (.int .u32 ((a % 4294967296:Nat):Int))):=kb hx (by rw [ov]; omega)
theorem gX {T T':TypeId} {x:Operand} {k':IntKind} {a:Nat} (hx:aQ Γ x=some (one (.int .u64 (a:Int)))) :
  aP P E Γ M ⟨d, .binOp .shr T x (.const (.int k' 32)) T',ty,pos,af,gd⟩ (one (.int .u64 ((a / 4294967296:Nat):Int))) :=
 xy hx Z S (by
  show Int.fdiv (a:Int) (2^32)=_
  rw [Int.fdiv_eq_ediv_of_nonneg _ S]; omega)
theorem qU {T T':TypeId} {x:Operand} {k':IntKind} {a:Nat} (hx:aQ Γ x=some (one (.int .u64 (a:Int)))) :
  aP P E Γ M ⟨d, .binOp .shr T x (.const (.int k' 63)) T',ty,pos,af,gd⟩ (one (.int .u64 ((a / 9223372036854775808:Nat):Int))) :=
 xy hx Z S (by
  show Int.fdiv (a:Int) (2^63)=_
  rw [Int.fdiv_eq_ediv_of_nonneg _ S]; omega)
theorem eZ {T T':TypeId} {k:IntKind} [IntOf P T k] [IntOf P T' .i64] {x:Operand} {k0:IntKind} {a:Int} (hx:aQ Γ x=some (one (.int k0 a))) (h1 : -9223372036854775808≤a) (h2:a≤9223372036854775807) :
  aP P E Γ M ⟨d, .convert T T' x,ty,pos,af,gd⟩ (one (.int .i64 a)):=kb hx (aR h1 h2)
end
end Tor
namespace Tor
open Go Go.RowKit
section
variable {P:Program} {E:Env} {D:List Deferred} {Γ:Ctx} {M:Mem} {Q:Exit→Act→World→Prop}
variable {ops:Array Oper} {i:Nat} {ty:TypeId} {pos:String} {af:Array Edge} {os:List Oper} {K:List Deferred→Ctx→Mem→Prop} {gd:Option (Nat × Bool)} {dr:Bool}
inductive BuildK (Γ:Ctx) (pl:List (Nat × Lay)) (K:cD→Prop):cD→List (Nat × Operand)→Prop
 | nil {C} : K C → BuildK Γ pl K C []
 | cons {C i x r o L φ χ} [hF : Flat φ L] : pl[i]? = some (o, L) → aQ Γ x = some φ → gy C o = some (L, χ) → BuildK Γ pl K (ou C o φ) r → BuildK Γ pl K C ((i, x) :: r)
theorem BuildK.ok {pl:List (Nat × Lay)} {K:cD→Prop} {C:cD} {r:List (Nat × Operand)} (h:BuildK Γ pl K C r) : ∃ C',BuildOk Γ pl C r C'∧K C':=by
 induction h with
 | nil h => exact ⟨_, .nil, h⟩
 | cons h1 h2 h3 _ ih => obtain ⟨C', h4, h5⟩ := ih; exact ⟨C', .cons h1 h2 h3 h4, h5⟩
theorem stB {T:TypeId} {m d:Nat} {z:Array Value} {pl:List (Nat × Lay)} [hB:BuildOf P T m z pl] {parts:Array (Nat × Operand)} (hz:(pl.all fun q=>(bT q.2 z q.1).isSome && decide (q.1+q.2.sz≤m))=true) (hap:fV (dt z pl)=true) (hd:Nat.ble (d+1) E.N=true)
  (h:BuildK Γ pl (fun C=>Run P E ops dr (i+1) D ((d,bA m C) :: Γ) M os K) (dt z pl) parts.toList):Run P E ops dr i D Γ M (⟨some d, .build T parts,ty,pos,af,none⟩ :: os) K :=
 let ⟨_,h1,h2⟩:=h.ok;st (l5 h1 hz hap) hd h2
inductive PartsK (Γ:Ctx) (L:Lay) (K:List VT→Prop):Nat→List VT→List (Nat × Operand)→Prop
 | nil {k φs} : K φs.reverse → PartsK Γ L K k φs []
 | cons {k φs x r φ} [hF : Flat φ L] : aQ Γ x = some φ → PartsK Γ L K (k + 1) (φ :: φs) r → PartsK Γ L K k φs ((k, x) :: r)
theorem PartsK.ok {L:Lay} {K:List VT→Prop} {k:Nat} {φs:List VT} {r:List (Nat × Operand)} (h:PartsK Γ L K k φs r) : ∃ ψs,PartsOk Γ L k r ψs∧K (φs.reverse ++ ψs):=by
 induction h with
 | nil h => exact ⟨[], .nil, by simpa using h⟩
 | cons h1 _ ih => obtain ⟨ψs, h2, h3⟩ := ih; exact ⟨_ :: ψs, .cons h1 h2, by simpa using h3⟩
theorem stS {T e:TypeId} {L:Lay} {z:Value} {by' n d:Nat} [hS:SliceOf P T e] [hL:LayOf P e L] [hZ:ZeroOf P e z by'] [hFz:Flat (one z) L] {parts:Array (Nat × Operand)}
  (hn:parts.size=n) (hsm:Nat.ble (n*L.sz) 16777216=true) (hsz:Nat.ble 1 L.sz=true) (hd:Nat.ble (d+1) E.N=true)
  (h:PartsK Γ L (fun φs=>Run P E ops dr (i+1) D ((d,slT L n (fun q=>φs.getD q bO)) :: Γ) M os K) 0 [] parts.toList):Run P E ops dr i D Γ M (⟨some d, .buildSlice T n parts,ty,pos,af,none⟩ :: os) K :=
 let ⟨_,h1,h2⟩:=h.ok;st (jB h1 hn (Nat.le_of_ble_eq_true hsm) (Nat.le_of_ble_eq_true hsz)) hd h2
theorem jf {T e:TypeId} {L:Lay} {z:Value} {by' d:Nat} [hS:SliceOf P T e] [hL:LayOf P e L] [hZ:ZeroOf P e z by'] [hFz:Flat (one z) L] {x:Operand} {φ:VT} [hF:Flat φ L]
  (hx:aQ Γ x=some φ) (hsm:Nat.ble (1*L.sz) 16777216=true) (hsz:Nat.ble 1 L.sz=true) (hd:Nat.ble (d+1) E.N=true)
  (h:Run P E ops dr (i+1) D ((d,slT L 1 (fun _=>φ)) :: Γ) M os K):Run P E ops dr i D Γ M (⟨some d, .buildSlice T 1 #[(0,x)],ty,pos,af,none⟩ :: os) K :=
 st ((jB (n:=1) (φs := [φ]) (.cons hx .nil) Z (Nat.le_of_ble_eq_true hsm) (Nat.le_of_ble_eq_true hsz)).le (dg Z (fun q hq=>by
  have h3:q<1:=hq
  have:q=0:=by omega
  subst this;rfl))) hd h
theorem kZ {T e:TypeId} {L:Lay} {z:Value} {by' n d:Nat} [hS:SliceOf P T e] [hL:LayOf P e L] [hZ:ZeroOf P e z by'] [hFz:Flat (one z) L] {parts:Array (Nat × Operand)}
  (hn:parts.size=n) (hsm:Nat.ble (n*L.sz) 16777216=true) (hsz:Nat.ble 1 L.sz=true) (hi:ops[i]? = some ⟨some d, .buildSlice T n parts,ty,pos,af,none⟩) (hd:Nat.ble (d+1) E.N=true)
  (h:PartsK Γ L (fun φs => ∀ b,Run P E ops false (i+1) D ((d,one (slV (some b) n n)) :: Γ) (aU (some b) e L n n (fun q=>φs.getD q bO) :: M) os K) 0 [] parts.toList):Run P E ops false i D Γ M (⟨some d, .buildSlice T n parts,ty,pos,af,none⟩ :: os) K :=
 let ⟨_,h1,h2⟩:=h.ok;qT h1 hn (Nat.le_of_ble_eq_true hsm) (Nat.le_of_ble_eq_true hsz) hi (ltN hd) h2
end
end Tor
end
section
set_option linter.unusedSectionVars false
namespace Tor
open Go Go.RowKit
section
variable {P:Program} {E:Env} {D:List Deferred} {Γ:Ctx} {M M':Mem} {Q:Exit→Act→World→Prop}
theorem ia (h:M.Perm M'):(a5 M).Perm (a5 M'):=h.flatMap_right _
theorem vh {w:World} (h:M.Perm M'):hv E M w=hv E M' w:=by
 funext b
 have:b∈E.O ++ a5 M↔b∈E.O ++ a5 M':=by simp only [List.mem_append,(ia h).mem_iff]
 simp only [hv,hid,this]
theorem iQ {a:Act} {w:World} (h:M.Perm M') (hS:St E D Γ M a w):St E D Γ M' a w where
 base := {
  mem:=fun o ho=>by
   have:=hS.base.mem o (h.mem_iff.2 ho)
   have e:hid (E.O ++ a5 M) (ct w)=hid (E.O ++ a5 M') (ct w):=vh h
   rw [e] at this;exact this
  nd:=(ia h).nodup_iff.1 hS.base.nd
  dis:=fun b hb=>hS.base.dis b ((ia h).mem_iff.2 hb)
  lo:=fun b hb=>hS.base.lo b ((ia h).mem_iff.2 hb)
  ex:=fun b hb=>hS.base.ex b (by
   simp only [List.mem_append,(ia h).mem_iff] at hb ⊢; exact hb)
  fr:=hS.base.fr }
 sz:=hS.sz
 df:=hS.df
 tm:=fun t φ ht=>vh (E:=E) (w:=w) h▸hS.tm t φ ht
theorem xA {c:Code} (h:M.Perm M') (hj:J P E D Γ M' c Q):J P E D Γ M c Q:=fun a w hS=>hj a w (iQ h hS)
theorem vi {e:Exit} (h:M.Perm M') (hj:PJ E D Γ M' e Q):PJ E D Γ M e Q:=fun a w hS=>hj a w (iQ h hS)
def xB {σ:Type} (O:List Nat) (ψ:σ→VT) (Ms:σ→Mem) (w:World) (e:Ending) (w':World):Prop :=
 ∃ s v,e = .returned v∧(ψ s).p v (hid (O ++ a5 (Ms s)) (ct w'))∧Ext w w'∧(∀ o∈Ms s,o.p (raw w') (hid (O ++ a5 (Ms s)) (ct w')))∧(a5 (Ms s)).Nodup ∧ ∀ b∈a5 (Ms s),w.heap.size≤b∧b<w'.heap.size∧b ∉ O
def OkM {σ:Type} (P:Program) (f:FuncId) (φs:List VT) (ψ:σ→VT) (Ms:σ→Mem):Prop :=
 ∀ (w:World) (O:List Nat) (vs:List Value),(∀ b∈O,b<w.heap.size)→gS φs vs (hid O (ct w))→Calls P f vs.toArray w (xB O ψ Ms w)
theorem bg (N M:Mem):a5 (N ++ M)=a5 N ++ a5 M:=List.flatMap_append
theorem St.take {a:Act} {w w':World} (hS:St E D Γ M a w) (hx:Ext w w') {N:Mem} (hmem : ∀ o∈N,o.p (raw w') (hid ((E.O ++ a5 M) ++ a5 N) (ct w'))) (hnd:(a5 N).Nodup)
  (hb : ∀ b∈a5 N,w.heap.size≤b∧b<w'.heap.size) {d:Nat} (hd:d<E.N) {v:Value} {ψ:VT} (hv':ψ.p v (hid ((E.O ++ a5 M) ++ a5 N) (ct w'))) :
  St E D ((d, ψ) :: Γ) (N ++ M) (a.put (some d) v) w':=by
 have hnew : ∀ b∈E.O ++ a5 M,b<w.heap.size:=hS.base.ex
 have ehv:hid (E.O ++ a5 (N ++ M)) (ct w')=hid ((E.O ++ a5 M) ++ a5 N) (ct w'):=by
  funext b
  have:b∈E.O ++ a5 (N ++ M)↔b∈(E.O ++ a5 M) ++ a5 N:=by
   simp only [bg,List.mem_append]
   constructor
   ·rintro (h | h | h)
    ·exact .inl (.inl h)
    ·exact .inr h
    ·exact .inl (.inr h)
   ·rintro ((h | h) | h)
    ·exact .inl h
    ·exact .inr (.inr h)
    ·exact .inr (.inl h)
  simp only [hid,this]
 have hle:Hp.le (hv E M w) (hid (E.O ++ a5 (N ++ M)) (ct w')):=by
  intro b x e
  obtain ⟨h1,h2⟩:=fS e
  refine jv ?_ (hx.view _ _ h2)
  intro h
  have hlt:=eX h2
  rw [bg] at h
  rcases List.mem_append.1 h with h | h
  ·exact h1 (List.mem_append.2 (.inl h))
  ·rcases List.mem_append.1 h with h | h
   ·have:=(hb b h).1;omega
   ·exact h1 (List.mem_append.2 (.inr h))
 have hb':=hS.base.ext hx
 refine ⟨⟨?_,?_,?_,?_,?_,hb'.fr⟩,by simp [Act.put,hS.sz],hS.df,?_⟩
 ·intro q hq
  rcases List.mem_append.1 hq with hq | hq
  ·rw [ehv]; exact hmem q hq
  ·exact q.loc (fun b hb=>(gK (hx.block b (hS.base.ex b (List.mem_append.2 (.inr (dH hq hb)))))).symm) hle (hS.base.mem q hq)
 ·rw [bg,List.nodup_append]
  refine ⟨hnd,hS.base.nd,fun x hx y hy => ?_⟩
  have h1:=(hb x hx).1
  have h2:=hnew y (List.mem_append.2 (.inr hy));omega
 ·intro b h
  rw [bg] at h
  rcases List.mem_append.1 h with h | h
  ·intro hO;have:=hnew _ (List.mem_append.2 (.inl hO));have:=(hb b h).1;omega
  ·exact hS.base.dis b h
 ·intro b h
  rw [bg] at h
  rcases List.mem_append.1 h with h | h
  ·exact .inl (Nat.le_trans hS.base.fr.size (hb b h).1)
  ·exact hS.base.lo b h
 ·intro b h
  rw [bg] at h
  rcases List.mem_append.1 h with h | h
  ·exact hb'.ex b (List.mem_append.2 (.inl h))
  ·rcases List.mem_append.1 h with h | h
   ·exact (hb b h).2
   ·exact hb'.ex b (List.mem_append.2 (.inr h))
 ·intro t φ h
  rw [bC] at h
  show φ.p _ (hid (E.O ++ a5 (N ++ M)) (ct w'))
  split at h
  ·rename_i e;cases h;rw [← e,cy (by rw [hS.sz]; exact hd),ehv]; exact hv'
  ·rename_i e;rw [cw e]; exact φ.mono hle (hS.tm t φ h)
theorem OkM.enter {σ:Type} {f:FuncId} {fn:Func} {c:Code} {N:Nat} {φs:List VT} {ψ:σ→VT} {Ms:σ→Mem} (hf:P.funcs[f]? = some fn) (hb:fn.body=some c) (hN:fn.ntmps=N) (hle:Nat.ble φs.length N=true)
  (h : ∀ (w:World) (O:List Nat),J P ⟨w,O, [],N,none⟩ [] (iY 0 φs) [] c (bodyPost P fn (xB O ψ Ms w))):OkM P f φs ψ Ms :=
 fun w O vs hO hv=>Tor.lg hf hb hN hO hv (Nat.le_of_ble_eq_true hle) (h w O)
theorem l7 {σ:Type} {w0:World} {O:List Nat} {N:Nat} {fn:Func} {r:ResultVar} {ψ:σ→VT} {Ms:σ→Mem} (s:σ) (hr:fn.results = #[r]) (h:ResOk P Γ M r (ψ s)) (hm:SubM M (Ms s)) :
  PJ ⟨w0,O, [],N,none⟩ [] Γ M .ret (bodyPost P fn (xB O ψ Ms w0)):=by
 intro a w hS
 obtain ⟨v,h1,h2⟩:=h.run hS
 have hB:=hS.base.sub hm
 refine ⟨hS.df,v,?_,s,v,rfl,(ψ s).mono (lA fun b hb=>hm.sub.subset hb) h2,hS.ret,hB.mem,hB.nd,fun b hb=>⟨?_,hB.ex b (List.mem_append.2 (.inr hb)),hB.dis b hb⟩⟩
 ·have hm:(fn.results.mapM (ox a.tmps)).run P w = .ok #[v] w:=by rw [hr]; simp [h1]
  rw [fG,Sem.run_bind,hm]; rfl
 ·rcases hB.lo b hb with h | h
  ·exact h
  ·cases h
variable {ops:Array Oper} {i:Nat} {ty:TypeId} {pos:String} {af:Array Edge} {os:List Oper} {K:List Deferred→Ctx→Mem→Prop}
theorem di {σ:Type} {f:FuncId} [hF:Fn P f] {xs:Array Operand} {ats:Array TypeId} {φs φs':List VT} {ψ:σ→VT} {Ms:σ→Mem} {d:Nat} (h:OkM P f φs' ψ Ms) (hx:iM Γ xs.toList=some φs) (hle:je φs φs')
  (hi:ops[i]? = some ⟨some d, .call ⟨.value (.func f),xs,ats⟩,ty,pos,af,none⟩) (hd:Nat.ble (d+1) E.N=true)
  (hr : ∀ s,Run P E ops false (i+1) D ((d, ψ s) :: Γ) (Ms s ++ M) os K):Run P E ops false i D Γ M (⟨some d, .call ⟨.value (.func f),xs,ats⟩,ty,pos,af,none⟩ :: os) K:=by
 refine .act (K':=fun D' Γ' M' => ∃ s,D'=D∧Γ'=(d, ψ s) :: Γ∧M'=Ms s ++ M) (fun a w hS next Q hn => ?_) (fun D' Γ' M' ⟨s,h1,h2,h3⟩=>by subst h1 h2 h3;exact hr s)
 have hp:=iN (a:=a) (h:=hv E M w) hx (fun x φ hx' he=>dw hS he)
 have hc:=h w _ _ hS.base.ex (gU hle hp)
 simp only [wpOp,hi,dG (o:=⟨some d, .call ⟨.value (.func f),xs,ats⟩,ty,pos,af,none⟩) Z,if_true]
 refine .inl ?_
 unfold Oper.wp
 have hr:(execOp a.eval ⟨some d, .call ⟨.value (.func f),xs,ats⟩,ty,pos,af,none⟩).run P w = .ok (.enter f (xs.toList.map a.eval).toArray) w:=by
  have h0:a.eval (.func f) = .func (.func f) #[] #[]:=rfl
  have h9:(xs.map a.eval)=(xs.toList.map a.eval).toArray:=by simp [← Array.toList_map]
  simp [execOp,resolve,Deferred.ofValue,invoke,h0,hF.run,h9]
 rw [hr]
 refine Calls.mono hc ?_
 rintro e w' ⟨s,v,rfl,hv',hext,hmem,hnd,hb⟩
 exact hn _ _ _ _ _ ⟨s,rfl,rfl,rfl⟩ (hS.take hext hmem hnd (fun b h=>⟨(hb b h).1,(hb b h).2.1⟩) (Nat.le_of_ble_eq_true hd) hv')
theorem xC (h:M.Perm M') (hr:Run P E ops false i D Γ M' os K):Run P E ops false i D Γ M os K := .conv (fun a w hS=>iQ h hS) hr
theorem SubM.dropN : ∀ (N:Mem) {K:Mem},SubM (N ++ K) K
 | [], K => SubM.refl K
 | _ :: N, _ => .drop (SubM.dropN N)
end
end Tor
end
