/-
  Theorems that the proofs of laws of this seat rest on.
  No condition.
-/
import Derived.StepT
import Derived.Laws.Sem
import Derived.Conc.Own5
import Derived.AtR
import Derived.Below
import GoSem.Dispatch
import Derived.Conc.Listed
import Derived.Orders
import Derived.Scope
import Derived.WalkKit
import Derived.OrdersIn
import Derived.LoopNIn
set_option maxHeartbeats 20000000
set_option linter.unusedVariables false
set_option linter.unusedSimpArgs false
set_option linter.unusedSectionVars false
theorem Z {α:Sort _} {a:α}:a=a:=rfl
theorem X {P:Prop} (h:P:=by omega):P:=h
theorem Y {P:Prop} (h:P:=by kernel_rfl):P:=h
theorem U {P:Prop} (h:P:=by decide):P:=h
theorem V {P:Prop} (h:P:=by decide +kernel):P:=h
theorem Cg:True:=trivial
section
namespace Tor.Co
open Go
def Dead (p:Program) {α:Type} (s:Sem α):Prop := ∀ w x w',s.run p w ≠ .ok x w'
def tame:Obj→Bool
 | .view .. => false
 | _ => true
inductive Plain (p:Program) {α:Type} : Sem α→Prop
 | dead {s} : Dead p s → Plain p s
 | pure (a) : Plain p (.pure a)
 | load {a k} : (∀ v, Plain p (k v)) → Plain p (.load .plain a k)
 | store {a v k} : Plain p k → Plain p (.store .plain a v k)
 | new {o k} : tame o = true → (∀ r, Plain p (k r)) → Plain p (.new o k)
 | getObj {r k} : (∀ o, o.isChan = true → Dead p (k o)) → (∀ o, Plain p (k o)) → Plain p (.getObj r k)
 | setObj {r o k} : tame o = true → o.isChan = false → Plain p k → Plain p (.setObj r o k)
 | choose {q k} : (∀ n, Plain p (k n)) → Plain p (.choose q k)
 | program {k} : Plain p (k p) → Plain p (.program k)
 | room {k} : Plain p k → Plain p (.mark .noRoom k)
theorem run_bind' {p:Program} {α β:Type} {x:Sem α} {f:α→Sem β} {w:World} {r:β} {w':World} (h:(x >>= f).run p w = .ok r w') : ∃ a w₁,x.run p w = .ok a w₁∧(f a).run p w₁ = .ok r w':=by
 rw [Sem.run_bind] at h
 cases hx:x.run p w with
 | ok a w₁ => rw [hx] at h; exact ⟨a, w₁, rfl, h⟩
 | halt k w₁ => rw [hx] at h; cases h
theorem Dead.bind {p:Program} {α β:Type} {x:Sem α} {f:α→Sem β} (hf : ∀ a,Dead p (f a)):Dead p (x >>= f):=fun w r w' h=>let ⟨a,w₁,_,h2⟩:=run_bind' h;hf a _ _ _ h2
theorem Dead.bind1 {p:Program} {α β:Type} {x:Sem α} {f:α→Sem β} (hx:Dead p x):Dead p (x >>= f):=fun w r w' h=>let ⟨a,w₁,h1,_⟩:=run_bind' h;hx _ _ _ h1
theorem Dead.halt {p:Program} {α:Type} {h:Halt} : Dead p (.halt h:Sem α):=fun w x w' h=>by cases h
theorem Plain.bind {p:Program} {α β:Type} {x:Sem α} {f:α→Sem β} (hx:Plain p x) (hf : ∀ a,Plain p (f a)):Plain p (x >>= f):=by
 show Plain p (x.bind f)
 induction hx with
 | dead h => exact .dead (Dead.bind1 h)
 | pure a => exact hf a
 | load _ ih => exact .load ih
 | store _ ih => exact .store ih
 | new h _ ih => exact .new h ih
 | getObj h _ ih => exact .getObj (fun o ho => Dead.bind1 (h o ho)) ih
 | setObj h1 h2 _ ih => exact .setObj h1 h2 ih
 | choose _ ih => exact .choose ih
 | program _ ih => exact .program ih
 | room _ ih => exact .room ih
def dum:Obj := .cells #[] 0 (0,0)
structure Msk (F BU:Nat→Prop) (g w:World):Prop where
 size:g.heap.size=w.heap.size
 os:g.os=w.os
 tape:g.tape=w.tape
 drawn:g.drawn=w.drawn
 output:g.output=w.output
 fg : ∀ b,b<w.heap.size→F b→g.heap[b]? = some dum
 fz : ∀ b,b<w.heap.size→BU b → ∃ c e f,w.heap[b]? = some (.cells c e f)∧g.heap[b]? = some (.cells c e (0,c.size))
 sm : ∀ b,b<w.heap.size → ¬ F b → ¬ BU b → ∃ o,w.heap[b]? = some o∧g.heap[b]? = some o∧tame o=true
def onB (l:Loc) (b:Nat):Prop:=(∃ a,l = .cell a∧a.block=b)∨l = .obj b
def EvOk (F BU:Nat→Prop) (B:Nat) (e:Event):Prop:=e.loc = .mark .noRoom∨e.sync=false ∧ ∃ b,onB e.loc b ∧ ¬ F b∧(e.write=true → ¬ BU b)∧b<B
section
variable {F BU:Nat→Prop} {g w:World}
theorem Msk.lt (h:Msk F BU g w) {b:Nat} {o:Obj} (hb:g.heap[b]? = some o):b<w.heap.size:=by
 have:=(Array.getElem?_eq_some_iff.1 hb).1
 rw [← h.size]; exact this
theorem Msk.tm (h:Msk F BU g w) {b:Nat} {o:Obj} (hb:g.heap[b]? = some o):tame o=true:=by
 have hl:=h.lt hb
 by_cases hF:F b
 ·rw [h.fg b hl hF] at hb;cases hb;rfl
 ·by_cases hV:BU b
  ·obtain ⟨c,e,f,_,h2⟩:=h.fz b hl hV;rw [h2] at hb;cases hb;rfl
  ·obtain ⟨o',_,h2,h3⟩:=h.sm b hl hF hV;rw [h2] at hb;cases hb;exact h3
theorem Msk.load (h:Msk F BU g w) {a:Addr} {v:Value} (hv:g.cell? a=some v):w.cell? a=some v ∧ ¬ F a.block:=by
 unfold World.cell? at hv ⊢
 cases hb:g.heap[a.block]? with
 | none => rw [hb] at hv; cases hv
 | some o =>
  have hl:=h.lt hb
  by_cases hF:F a.block
  ·rw [h.fg _ hl hF] at hv
   simp only [dum] at hv
   split at hv
   ·cases hv
   ·simp at hv
  ·refine ⟨?_,hF⟩
   by_cases hV:BU a.block
   ·obtain ⟨c,e,f,h1,h2⟩:=h.fz _ hl hV;rw [h1]; rw [h2] at hv;exact hv
   ·obtain ⟨o,h1,h2,_⟩:=h.sm _ hl hF hV;rw [h1]; rw [h2] at hv;exact hv
theorem Msk.lt_cell (h:Msk F BU g w) {a:Addr} {v:Value} (hv:g.cell? a=some v):a.block<w.heap.size:=by
 unfold World.cell? at hv
 cases hb:g.heap[a.block]? with
 | none => rw [hb] at hv; cases hv
 | some o => exact h.lt hb
theorem Msk.noFar (h:Msk F BU g w) {p:Program} {a:Addr} {at':Bool} {r:Value × List Addr} : g.farLoad p a at' ≠ .ok r:=by
 unfold World.farLoad
 cases hb:g.heap[a.block]? with
 | none => simp
 | some o => have := h.tm hb; cases o <;> simp_all [tame]
theorem Msk.noFarS (h:Msk F BU g w) {p:Program} {a:Addr} {v:Value} {at':Bool} {r:World × List Addr} : g.farStore p a v at' ≠ .ok r:=by
 unfold World.farStore
 cases hb:g.heap[a.block]? with
 | none => simp
 | some o => have := h.tm hb; cases o <;> simp_all [tame]
structure Mine (F BU:Nat→Prop) (w w':World):Prop where
 os:w'.os=w.os
 tape:w'.tape=w.tape
 output:w'.output=w.output
 size:w.heap.size≤w'.heap.size
 block : ∀ b,b<w.heap.size→(F b∨BU b)→w'.heap[b]? = w.heap[b]?
theorem Mine.refl (w:World):Mine F BU w w:=⟨rfl,rfl,rfl,Nat.le_refl _,fun _ _ _=>rfl⟩
theorem Mine.trans {w w' w'':World} (h:Mine F BU w w') (k:Mine F BU w' w''):Mine F BU w w'' :=
 ⟨k.os.trans h.os,k.tape.trans h.tape,k.output.trans h.output,Nat.le_trans h.size k.size,fun b hb hf=>(k.block b (Nat.lt_of_lt_of_le hb h.size) hf).trans (h.block b hb hf)⟩
theorem Msk.new (h:Msk F BU g w) (hb : ∀ b,F b∨BU b→b<w.heap.size) {o:Obj} (ho:tame o=true) :
  Msk F BU { g with heap:=g.heap.push o } { w with heap:=w.heap.push o } := by
 have old : ∀ {x:World} {b:Nat},b<x.heap.size→(x.heap.push o)[b]? = x.heap[b]? := fun hb=>by rw [Array.getElem?_push,if_neg X]
 refine ⟨by simp [h.size],h.os,h.tape,h.drawn,h.output,fun b hl hF => ?_,fun b hl hV => ?_,fun b hl hF hV => ?_⟩
 ·have:=hb b (.inl hF)
  show (g.heap.push _)[b]? = _
  rw [old (by rw [h.size]; exact this)]; exact h.fg b this hF
 ·have:=hb b (.inr hV)
  obtain ⟨c',e',f,h1,h2⟩:=h.fz b this hV
  exact ⟨c',e',f,(old this).trans h1,(old (x:=g) (by rw [h.size]; exact this)).trans h2⟩
 ·by_cases hn:b<w.heap.size
  ·obtain ⟨o',h1,h2,h3⟩:=h.sm b hn hF hV
   exact ⟨o',(old hn).trans h1,(old (x:=g) (by rw [h.size]; exact hn)).trans h2,h3⟩
  ·have hl:b<(w.heap.push o).size:=hl
   rw [Array.size_push] at hl
   have e1:b=w.heap.size:=by omega
   refine ⟨o,?_,?_,ho⟩
   ·show (w.heap.push _)[b]? = _
    rw [Array.getElem?_push,if_pos e1]
   ·show (g.heap.push _)[b]? = _
    rw [Array.getElem?_push,if_pos (by rw [h.size]; exact e1)]
theorem Msk.obj (h:Msk F BU g w) {r:Nat} {o:Obj} (hr:g.heap[r]? = some o) (hc : ∀ c e f,o ≠ .cells c e f):w.heap[r]? = some o ∧ ¬ F r ∧ ¬ BU r∧r<w.heap.size:=by
 have hl:=h.lt hr
 have hF : ¬ F r:=fun hF=>by rw [h.fg r hl hF] at hr;cases hr;exact hc _ _ _ Z
 have hV : ¬ BU r:=fun hV=>by obtain ⟨c,e,f,_,h2⟩:=h.fz r hl hV;rw [h2] at hr;cases hr;exact hc _ _ _ Z
 obtain ⟨o',h1,h2,_⟩:=h.sm r hl hF hV
 rw [h2] at hr;cases hr
 exact ⟨h1,hF,hV,hl⟩
theorem Msk.set (h:Msk F BU g w) {r:Nat} (hF : ¬ F r) (hV : ¬ BU r) (hl:r<w.heap.size) {o:Obj} (ho:tame o=true) :
  Msk F BU { g with heap:=g.heap.setIfInBounds r o } { w with heap:=w.heap.setIfInBounds r o } := by
 have ne : ∀ {x:World} {b:Nat},b≠r→(x.heap.setIfInBounds r o)[b]? = x.heap[b]? := fun hb=>Array.getElem?_setIfInBounds_ne fun e=>hb e.symm
 refine ⟨by simp [h.size],h.os,h.tape,h.drawn,h.output,fun b hl' hFb => ?_,fun b hl' hVb => ?_,fun b hl' hFb hVb => ?_⟩
 ·have hl':b<(w.heap.setIfInBounds r o).size:=hl'
  rw [Array.size_setIfInBounds] at hl'
  show (g.heap.setIfInBounds r o)[b]? = _
  rw [ne fun e=>hF (e▸hFb)]; exact h.fg b hl' hFb
 ·have hl':b<(w.heap.setIfInBounds r o).size:=hl'
  rw [Array.size_setIfInBounds] at hl'
  obtain ⟨c',e',f,h1,h2⟩:=h.fz b hl' hVb
  exact ⟨c',e',f,(ne fun e=>hV (e▸hVb)).trans h1,(ne (x:=g) fun e=>hV (e▸hVb)).trans h2⟩
 ·have hl':b<(w.heap.setIfInBounds r o).size:=hl'
  rw [Array.size_setIfInBounds] at hl'
  by_cases e:b=r
  ·subst e
   refine ⟨o,?_,?_,ho⟩
   ·show (w.heap.setIfInBounds b o)[b]? = _
    rw [Array.getElem?_setIfInBounds_self_of_lt hl]
   ·show (g.heap.setIfInBounds b o)[b]? = _
    rw [Array.getElem?_setIfInBounds_self_of_lt (by rw [h.size]; exact hl)]
  ·obtain ⟨o',h1,h2,h3⟩:=h.sm b hl' hFb hVb
   exact ⟨o',(ne e).trans h1,(ne (x:=g) e).trans h2,h3⟩
theorem setCell_at {x:World} {a:Addr} {v:Value} {b:Nat} : (x.setCell a v).heap[b]? = if b=a.block then (x.heap[b]?).map (fun o=>match o with | .cells c elem f => .cells (if a.spot.isSome then c else c.setIfInBounds a.off v) elem f | o=>o) else x.heap[b]? := by
 unfold World.setCell
 show (x.heap.modify a.block _)[b]? = _
 rw [Array.getElem?_modify]
 by_cases h:b=a.block
 ·rw [if_pos h,if_pos h.symm]
  cases x.heap[b]? with
  | none => rfl
  | some o => cases o <;> rfl
 ·rw [if_neg h,if_neg (fun e=>h e.symm)]
theorem setCell_size {x:World} {a:Addr} {v:Value} : (x.setCell a v).heap.size=x.heap.size:=by unfold World.setCell;simp
theorem Msk.store (h:Msk F BU g w) {a:Addr} {v v':Value} (hv:g.cell? a=some v') (hf:g.frozen? a=false) :
  w.cell? a=some v'∧w.frozen? a=false ∧ ¬ F a.block ∧ ¬ BU a.block∧Msk F BU (g.setCell a v) (w.setCell a v)∧Mine F BU w (w.setCell a v):=by
 obtain ⟨h1,hF⟩:=h.load hv
 have hl:a.block<w.heap.size:=by
  unfold World.cell? at hv
  cases hb:g.heap[a.block]? with
  | none => rw [hb] at hv; cases hv
  | some o => exact h.lt hb
 have hV : ¬ BU a.block:=fun hV=>by
  obtain ⟨c,e,f,h2,h3⟩:=h.fz _ hl hV
  unfold World.frozen? at hf
  unfold World.cell? at hv
  rw [h3] at hf hv
  simp only at hf hv
  split at hv
  ·cases hv
  ·have:a.off<c.size:=(Array.getElem?_eq_some_iff.1 hv).1
   simp [this] at hf
 obtain ⟨o,h2,h3,h4⟩:=h.sm _ hl hF hV
 refine ⟨h1,?_,hF,hV,?_,?_⟩
 ·unfold World.frozen? at hf ⊢; rw [h2]; rw [h3] at hf;exact hf
 ·refine ⟨by rw [setCell_size,setCell_size,h.size],h.os,h.tape,h.drawn,h.output,fun b hb hFb => ?_,fun b hb hVb => ?_,fun b hb hFb hVb => ?_⟩
  ·rw [setCell_size] at hb
   rw [setCell_at,if_neg (c:=b=a.block) (fun e1=>hF (e1▸hFb))]; exact h.fg b hb hFb
  ·rw [setCell_size] at hb
   rw [setCell_at,setCell_at,if_neg (c:=b=a.block) (fun e1=>hV (e1▸hVb)),if_neg (c:=b=a.block) (fun e1=>hV (e1▸hVb))]; exact h.fz b hb hVb
  ·rw [setCell_size] at hb
   rw [setCell_at,setCell_at]
   by_cases e1:b=a.block
   ·rw [if_pos e1,if_pos e1,e1,h2,h3]; exact ⟨_,rfl,rfl,by cases o <;> first | rfl | exact h4⟩
   ·rw [if_neg e1,if_neg e1]; exact h.sm b hb hFb hVb
 ·refine ⟨rfl,rfl,rfl,by rw [setCell_size]; exact Nat.le_refl _,fun b hb hf => ?_⟩
  rw [setCell_at,if_neg (fun e=>by subst e;exact hf.elim hF hV)]
theorem frame {α:Type} {s:Sem α} (p:Program) (hp:Plain p s) : ∀ {g w:World} {es:Array Event},Msk F BU g w→(∀ b,F b∨BU b→b<w.heap.size) → ∀ {x:α} {g':World} {es':Array Event},s.runT p g es=(.ok x g',es') →
  ∃ w',s.runT p w es=(.ok x w',es')∧Msk F BU g' w'∧Mine F BU w w' ∧ ∀ e∈es',e∈es∨EvOk F BU w'.heap.size e:=by
 induction hp with
 | dead h =>
  intro g w es hm hb x g' es' hr
  exact absurd ((Sem.runT_fst p _ g es).symm.trans (congrArg Prod.fst hr)) (h _ _ _)
 | pure a => exact fun {g w es} h hb {x g' es'} hr => by cases hr; exact ⟨w, rfl, h, .refl w, fun e he => .inl he⟩
 | @load a k _ ih =>
  intro g w es h hb x g' es' hr
  simp only [Sem.runT] at hr ⊢
  cases hc:g.cell? a with
  | some v =>
   obtain ⟨h1,hF⟩:=h.load hc
   rw [hc] at hr
   rw [h1]
   obtain ⟨w',r1,r2,r3,r4⟩:=ih v h hb hr
   have hl:a.block<w.heap.size:=h.lt_cell hc
   refine ⟨w',r1,r2,r3,fun e he => ?_⟩
   rcases r4 e he with h5 | h5
   ·rcases Array.mem_push.1 h5 with h6 | h6
    ·exact .inl h6
    ·subst h6;exact .inr (.inr ⟨rfl,_, .inl ⟨a,rfl,rfl⟩,hF,fun e=>absurd e (by simp),Nat.lt_of_lt_of_le hl r3.size⟩)
   ·exact .inr h5
  | none =>
   rw [hc] at hr
   simp only at hr
   split at hr
   ·rename_i hfar;exact absurd hfar h.noFar
   ·cases hr
 | @store a v k _ ih =>
  intro g w es h hb x g' es' hr
  cases v
  case agg c=>simp only [Sem.runT] at hr;cases hr
  case tuple c=>simp only [Sem.runT] at hr;cases hr
  all_goals
   simp only [Sem.runT] at hr ⊢
   cases hc:g.cell? a with
   | some v' =>
    rw [hc] at hr
    simp only at hr
    split at hr
    ·cases hr
    ·rename_i hf
     obtain ⟨h1,h2,hF,hV,h3,h4⟩:=h.store hc (by simpa using hf)
     rw [h1]
     simp only [h2]
     obtain ⟨w',r1,r2,r3,r4⟩:=ih h3 (fun b hb'=>by rw [setCell_size]; exact hb b hb') hr
     have hl:a.block<w.heap.size:=h.lt_cell hc
     refine ⟨w',r1,r2,h4.trans r3,fun e he => ?_⟩
     rcases r4 e he with h5 | h5
     ·rcases Array.mem_push.1 h5 with h6 | h6
      ·exact .inl h6
      ·subst h6;exact .inr (.inr ⟨rfl,_, .inl ⟨a,rfl,rfl⟩,hF,fun _=>hV,Nat.lt_of_lt_of_le hl (h4.trans r3).size⟩)
     ·exact .inr h5
   | none =>
    rw [hc] at hr
    simp only at hr
    split at hr
    ·rename_i hfar;exact absurd hfar h.noFarS
    ·cases hr
 | @new o k ho _ ih =>
  intro g w es h hb x g' es' hr
  simp only [Sem.runT] at hr ⊢
  rw [h.size] at hr
  obtain ⟨w',r1,r2,r3,r4⟩:=ih _ (h.new hb ho) (fun b hb'=>by show b<(w.heap.push _).size;rw [Array.size_push]; have:=hb b hb';omega) hr
  refine ⟨w',r1,r2,?_,r4⟩
  refine Mine.trans (w' := { w with heap:=w.heap.push o }) ⟨rfl,rfl,rfl,by show _≤(w.heap.push _).size;rw [Array.size_push]; omega,fun b hl _ => ?_⟩ r3
  show (w.heap.push _)[b]? = _
  rw [Array.getElem?_push,if_neg X]
 | @getObj r k hd _ ih =>
  intro g w es h hb x g' es' hr
  simp only [Sem.runT] at hr ⊢
  cases hg:g.heap[r]? with
  | none => rw [hg] at hr; cases hr
  | some o =>
   have hc : ∀ c e f,o ≠ .cells c e f:=fun c e f ho=>by subst ho;rw [hg] at hr;cases hr
   obtain ⟨h1,hF,hV,hl⟩:=h.obj hg hc
   rw [hg] at hr
   rw [h1]
   have key : ∀ {s:Sem α},s=k o→s.runT p g (es.push ⟨.obj r,false,o.isChan⟩)=(.ok x g',es') → ∃ w',s.runT p w (es.push ⟨.obj r,false,o.isChan⟩)=(.ok x w',es')∧Msk F BU g' w'∧Mine F BU w w' ∧ ∀ e∈es',e∈es∨EvOk F BU w'.heap.size e:=fun {s} hs hr=>by
    subst hs
    have hch:o.isChan=false:=by
     cases hch:o.isChan with
     | false => rfl
     | true => exact absurd ((Sem.runT_fst p _ g _).symm.trans (congrArg Prod.fst hr)) (hd o hch _ _ _)
    obtain ⟨w',r1,r2,r3,r4⟩:=ih o h hb hr
    refine ⟨w',r1,r2,r3,fun e he => ?_⟩
    rcases r4 e he with h5 | h5
    ·rcases Array.mem_push.1 h5 with h6 | h6
     ·exact .inl h6
     ·subst h6;exact .inr (.inr ⟨hch,r, .inr Z,hF,fun e=>absurd e (by simp),Nat.lt_of_lt_of_le hl r3.size⟩)
    ·exact .inr h5
   cases o
   case cells=>exact absurd Z (hc _ _ _)
   all_goals exact key Z hr
 | @setObj r o k ho hch _ ih =>
  intro g w es h hb x g' es' hr
  simp only [Sem.runT] at hr ⊢
  cases hg:g.heap[r]? with
  | none => rw [hg] at hr; cases hr
  | some o₀ =>
   have hc : ∀ c e f,o₀ ≠ .cells c e f:=fun c e f ho=>by subst ho;rw [hg] at hr;cases hr
   obtain ⟨h1,hF,hV,hl⟩:=h.obj hg hc
   rw [hg] at hr
   rw [h1]
   have hsz:({ w with heap:=w.heap.setIfInBounds r o } : World).heap.size=w.heap.size:=by simp
   have key:k.runT p { g with heap:=g.heap.setIfInBounds r o } (es.push ⟨.obj r,true,o.isChan⟩)=(.ok x g',es') → ∃ w',k.runT p { w with heap:=w.heap.setIfInBounds r o } (es.push ⟨.obj r,true,o.isChan⟩)=(.ok x w',es')∧Msk F BU g' w'∧Mine F BU w w' ∧ ∀ e∈es',e∈es∨EvOk F BU w'.heap.size e:=fun hr=>by
    obtain ⟨w',r1,r2,r3,r4⟩:=ih (h.set hF hV hl ho) (fun b hb'=>by rw [hsz]; exact hb b hb') hr
    refine ⟨w',r1,r2,Mine.trans (w' := { w with heap:=w.heap.setIfInBounds r o }) ⟨rfl,rfl,rfl,Nat.le_of_eq hsz.symm,fun b hb' hf => ?_⟩ r3,fun e he => ?_⟩
    ·exact Array.getElem?_setIfInBounds_ne fun e=>by subst e;exact hf.elim hF hV
    rcases r4 e he with h5 | h5
    ·rcases Array.mem_push.1 h5 with h6 | h6
     ·exact .inl h6
     ·subst h6;exact .inr (.inr ⟨hch,r, .inr Z,hF,fun _=>hV,Nat.lt_of_lt_of_le hl (by have:=r3.size;rw [hsz] at this;exact this)⟩)
    ·exact .inr h5
   cases o₀
   case cells=>exact absurd Z (hc _ _ _)
   all_goals exact key hr
 | @choose q k _ ih =>
  intro g w es h hb x g' es' hr
  simp only [Sem.runT] at hr ⊢
  split at hr
  ·rename_i hq
   rw [if_pos hq]
   exact ih _ h hb hr
  ·rename_i hq
   rw [if_neg hq]
   rw [h.tape,h.drawn] at hr
   obtain ⟨w',r1,r2,r3,r4⟩:=ih _ (g := { g with tape:=w.tape,drawn:=w.drawn+1 }) (w := { w with drawn:=w.drawn+1 }) ⟨h.size,h.os,rfl,rfl,h.output,h.fg,h.fz,h.sm⟩ hb hr
   exact ⟨w',r1,r2,⟨r3.os,r3.tape,r3.output,r3.size,r3.block⟩,r4⟩
 | @program k _ ih =>
  intro g w es h hb x g' es' hr
  simp only [Sem.runT] at hr ⊢
  exact ih h hb hr
 | @room k _ ih =>
  intro g w es h hb x g' es' hr
  simp only [Sem.runT] at hr ⊢
  obtain ⟨w',r1,r2,r3,r4⟩:=ih h hb hr
  refine ⟨w',r1,r2,r3,fun e he => ?_⟩
  rcases r4 e he with h5 | h5
  ·rcases Array.mem_push.1 h5 with h6 | h6
   ·exact .inl h6
   ·subst h6;exact .inr (.inl Z)
  ·exact .inr h5
end
end Tor.Co
end
section
namespace Tor.Co
open Go Go.Conc Go.RowKit
class Kc where
 asks:Code→Code→Act→World→(Act→World→Prop)→Prop
 grow : ∀ {c z:Code} {a:Act} {w w₁:World} {R:Act→World→Prop},asks c z a w R→Below w.heap.size w w₁→asks c z a w₁ R
abbrev Grow (w w':World):Prop:=Below w.heap.size w w'
theorem Grow.refl (w:World):Grow w w:=Below.refl _ _
theorem Grow.trans {a b c:World} (h:Grow a b) (k:Grow b c):Grow a c:=Below.trans h (Below.mono k h.size)
def Framed (P:Program) (m:Bool) (g:Goroutine) (w:World) (g':Goroutine) (w':World):Prop :=
 ∀ (F BU:Nat→Prop) (wt:World),Msk F BU w wt→(∀ b,F b∨BU b→b<wt.heap.size) → ∃ wt' es,stepG P m g wt = .go g' wt' es∧Msk F BU w' wt'∧Mine F BU wt wt' ∧ ∀ e∈es,EvOk F BU wt'.heap.size e
inductive GoI [Kc] (P:Program) (m:Bool) (Stop:Goroutine→World→Prop):Goroutine→World→Prop
 | stop {g w} : (∀ w₁, Grow w w₁ → Stop g w₁) → GoI P m Stop g w
 | step {g w} : g.status = .running → (∀ w₁, Grow w w₁ → ∃ g' w' es, stepG P m g w₁ = .go g' w' es ∧ Framed P m g w₁ g' w') →
   (∀ w₁ g' w' es,Grow w w₁→stepG P m g w₁ = .go g' w' es→GoI P m Stop g' w')→GoI P m Stop g w
 | ask {b : Frame} {a k cs w c z} {R : Act → World → Prop} : b.roundOf = none → b.kind ≠ .early → Kc.asks c z a w R → (∀ a' w', R a' w' → GoI P m Stop (G (b.atR a' (.code z :: k)) cs) w') → GoI P m Stop (G (b.atR a (.code c :: k)) cs) w
section
variable [Kc] {P:Program} {m:Bool} {Stop:Goroutine→World→Prop}
theorem GoI.grow {g:Goroutine} {w w₁:World} (h:GoI P m Stop g w) (k:Grow w w₁):GoI P m Stop g w₁:=by
 cases h with
 | stop h => exact .stop fun w₂ h₂ => h w₂ (k.trans h₂)
 | step hs h1 h2 => exact .step hs (fun w₂ h₂ => h1 w₂ (k.trans h₂)) fun w₂ g' w' es h₂ => h2 w₂ g' w' es (k.trans h₂)
 | ask h0 h1 h2 h3 => exact .ask h0 h1 (Kc.grow h2 k) h3
theorem GoI.calm {g g':Goroutine} {w:World} (hs:g.status = .running) (h : ∀ w,stepG P m g w = .go g' w #[]) (k:GoI P m Stop g' w):GoI P m Stop g w :=
 .step hs (fun w₁ h₁=>⟨g',w₁, #[],h w₁,fun F BU wt hm _=>⟨wt, #[],h wt,hm, .refl _,fun e he=>by simp at he⟩⟩) fun w₁ g₁ w' es h₁ e=>by
  rw [h w₁] at e;cases e;exact k.grow h₁
end
section moves
variable {P:Program} {m:Bool} {b:Frame} {a:Act} {k:List Item} {cs:List Frame} {w:World}
theorem sG_skip:stepG P m (G (b.atR a (.code .skip :: k)) cs) w = .go (G (b.atR a k) cs) w #[]:=by simp [G,stepG,stepG.exec,Frame.atR]
theorem sG_label {l:Nat} : stepG P m (G (b.atR a (.code (.label l) :: k)) cs) w = .go (G (b.atR a k) cs) w #[]:=by simp [G,stepG,stepG.exec,Frame.atR]
theorem sG_inBlock {id:Nat} : stepG P m (G (b.atR a (.inBlock id :: k)) cs) w = .go (G (b.atR a k) cs) w #[]:=by simp [G,stepG,stepG.exec,Frame.atR]
theorem sG_seq {x y:Code} : stepG P m (G (b.atR a (.code (.seq x y) :: k)) cs) w = .go (G (b.atR a (.code x :: .code y :: k)) cs) w #[]:=by simp [G,stepG,stepG.exec,Frame.atR]
theorem sG_cond {c:Operand} {x y:Code} {t:Bool} (h:a.eval c = .bool t) :
  stepG P m (G (b.atR a (.code (.cond c x y) :: k)) cs) w = .go (G (b.atR a (.code (if t then x else y) :: k)) cs) w #[]:=by
 have:=congrFun (Frame.eval_atR b a (.code (.cond c x y) :: k)) c
 simp only [Frame.atR] at this
 simp [G,stepG,stepG.exec,Frame.atR,this,h]
theorem sG_block {id:Nat} {c:Code} : stepG P m (G (b.atR a (.code (.block id c) :: k)) cs) w = .go (G (b.atR a (.code c :: .inBlock id :: k)) cs) w #[]:=by simp [G,stepG,stepG.exec,Frame.atR]
theorem sG_scope {c:Code} : stepG P m (G (b.atR a (.code (.scope c) :: k)) cs) w = .go (G (b.atR a (.code c :: .inScope c :: k)) cs) w #[]:=by simp [G,stepG,stepG.exec,Frame.atR]
theorem sG_inScope {c:Code} : stepG P m (G (b.atR a (.inScope c :: k)) cs) w = .go (G (b.atR a k) cs) w #[]:=by simp [G,stepG,stepG.exec,Frame.atR]
theorem sG_loop {c:Code} : stepG P m (G (b.atR a (.code (.loop c) :: k)) cs) w = .go (G (b.atR a (.code c :: .inLoop c :: k)) cs) w #[]:=by simp [G,stepG,stepG.exec,Frame.atR]
theorem sG_inLoop {c:Code} : stepG P m (G (b.atR a (.inLoop c :: k)) cs) w = .go (G (b.atR a (.code c :: .inLoop c :: k)) cs) w #[]:=by simp [G,stepG,stepG.exec,Frame.atR]
theorem sG_exit {id:Nat} {k':List Item} (h:exitTo id k=some k'):stepG P m (G (b.atR a (.code (.exit id) :: k)) cs) w = .go (G (b.atR a k') cs) w #[]:=by simp [G,stepG,stepG.exec,Frame.atR,h]
theorem sG_ret (hb:b.roundOf=none):stepG P m (G (b.atR a (.code .ret :: k)) cs) w = .go (G { b.atR a (.code .ret :: k) with mode := .returning } cs) w #[]:=by simp [G,stepG,stepG.exec,Frame.atR,hb]
theorem sG_end (hb:b.roundOf=none):stepG P m (G (b.atR a []) cs) w = .go (G { b.atR a [] with mode := .returning } cs) w #[]:=by simp [G,stepG,stepG.exec,Frame.atR,hb]
theorem sG_region {id:Nat} {ops:Array Oper} : stepG P m (G (b.atR a (.code (.region id ops false) :: k)) cs) w = .go (G (b.atR a (.inRegion ops (List.range ops.size) :: k)) cs) w #[]:=by simp [G,stepG,stepG.exec,Frame.atR]
theorem sG_draw {id:Nat} {ops:Array Oper} : stepG P m (G (b.atR a (.code (.region id ops true) :: k)) cs) w =
  .go (G (b.atR a (.inRegion ops (Region.schedule (P.follows .mixedOrders) ops (w.tape w.drawn (.order b.fn id))) :: k)) cs) { w with drawn:=w.drawn+1 } #[]:=by
 simp [G,stepG,stepG.exec,Frame.atR,choose,Sem.run,Question.forced,Question.cut]
theorem sG_rend {ops:Array Oper} : stepG P m (G (b.atR a (.inRegion ops [] :: k)) cs) w = .go (G (b.atR a k) cs) w #[]:=by simp [G,stepG,stepG.exec,Frame.atR]
theorem sG_op0 {ops:Array Oper} {i:Nat} {rest:List Nat} (h:((ops[i]?).map (Region.wanted · (yielded ops a.tmps))).getD false=false) :
  stepG P m (G (b.atR a (.inRegion ops (i :: rest) :: k)) cs) w = .go (G (b.atR (a.put ((ops[i]?).bind (·.dst)) undef) (.inRegion ops rest :: k)) cs) w #[]:=by
 rw [← Frame.finish_atR]
 have h':=h
 simp only [Frame.atR] at *
 simp [G,stepG,stepG.exec,h']
theorem sG_op {ops:Array Oper} {i:Nat} {rest:List Nat} {o:Oper} (ho:ops[i]? = some o) (hw:Region.wanted o (yielded ops a.tmps)=true) :
  stepG P m (G (b.atR a (.inRegion ops (i :: rest) :: k)) cs) w=stepG.apply P true (b.atR a (.inRegion ops (i :: rest) :: k)) cs none (o.semAt b.roundOf a.eval) w:=by
 have he:=Frame.eval_atR b a (.inRegion ops (i :: rest) :: k)
 simp only [Frame.atR] at he
 simp only [G,stepG,stepG.exec,stepG.oper,Frame.oper?,Frame.atR,ho,hw,he,Option.map_some,Option.getD_some,if_true,Oper.semAt]
 cases b.roundOf <;> cases o.op <;> rfl
end moves
end Tor.Co
end
section
namespace Tor.Co
open Go
section
variable {p:Program}
theorem pl_ret {α:Type} (a:α):Plain p (pure a:Sem α) := .pure a
theorem pl_stk {α:Type} (s:String):Plain p (stuck s:Sem α) := .dead Dead.halt
theorem pl_uns {α:Type} (s:Unsupported):Plain p (unsupported s:Sem α) := .dead Dead.halt
theorem pl_prog:Plain p program := .program (.pure _)
theorem pl_ld (a:Addr):Plain p (load a) := .load fun v => .pure v
theorem pl_st (a:Addr) (v:Value):Plain p (store a v) := .store (.pure ())
theorem pl_ch (q:Question):Plain p (choose q) := .choose fun n => .pure n
theorem pl_ite {α:Type} {c:Prop} [Decidable c] {x y:Sem α} (hx:Plain p x) (hy:Plain p y):Plain p (if c then x else y):=by split <;> assumption
theorem dead_rt {α:Type} (e:RuntimeError):Dead p (runtimePanic e:Sem α):=by
 unfold runtimePanic
 refine Dead.bind fun q => ?_
 cases e <;> first | exact Dead.halt | exact Dead.bind fun _=>Dead.bind fun _=>Dead.halt
theorem pl_rt {α:Type} (e:RuntimeError):Plain p (runtimePanic e:Sem α) := .dead (dead_rt e)
theorem pl_bounds {α:Type} (k:IntKind) (x y:Int) (c:BoundsCode):Plain p (boundsPanic k x y c:Sem α):=by
 unfold boundsPanic
 repeat' first | exact .dead (dead_rt _) | exact .dead (Dead.bind fun _=>dead_rt _) | split | dsimp only
theorem pl_info (t:TypeId):Plain p (typeInfo t):=pl_prog.bind fun q=>by split <;> (first | exact Tor.Co.pl_ret _ | exact Tor.Co.pl_stk _ | exact Tor.Co.pl_uns _ | exact Tor.Co.pl_prog | exact Tor.Co.pl_ld _ | exact Tor.Co.pl_st _ _ | exact Tor.Co.pl_ch _ | exact Tor.Co.pl_rt _ | exact Tor.Co.pl_bounds _ _ _ _)
theorem pl_und (t:TypeId):Plain p (underlying t):=pl_prog.bind fun q=>by split <;> (first | exact Tor.Co.pl_ret _ | exact Tor.Co.pl_stk _ | exact Tor.Co.pl_uns _ | exact Tor.Co.pl_prog | exact Tor.Co.pl_ld _ | exact Tor.Co.pl_st _ _ | exact Tor.Co.pl_ch _ | exact Tor.Co.pl_rt _ | exact Tor.Co.pl_bounds _ _ _ _)
theorem pl_zero (t:TypeId):Plain p (zeroValue t):=(pl_info t).bind fun q=>by split <;> (first | exact Tor.Co.pl_ret _ | exact Tor.Co.pl_stk _ | exact Tor.Co.pl_uns _ | exact Tor.Co.pl_prog | exact Tor.Co.pl_ld _ | exact Tor.Co.pl_st _ _ | exact Tor.Co.pl_ch _ | exact Tor.Co.pl_rt _ | exact Tor.Co.pl_bounds _ _ _ _)
theorem pl_size (t:TypeId):Plain p (sizeOf t):=(pl_info t).bind fun q=>pl_ret _
theorem pl_agg (t:TypeId):Plain p (isAgg t):=(pl_und t).bind fun q=>by split <;> (first | exact Tor.Co.pl_ret _ | exact Tor.Co.pl_stk _ | exact Tor.Co.pl_uns _ | exact Tor.Co.pl_prog | exact Tor.Co.pl_ld _ | exact Tor.Co.pl_st _ _ | exact Tor.Co.pl_ch _ | exact Tor.Co.pl_rt _ | exact Tor.Co.pl_bounds _ _ _ _)
theorem pl_lcf (a:Addr) : ∀ (n i:Nat) (acc:Array Value),Plain p (loadCellsFrom a i n acc)
 | 0, i, acc => pl_ret _
 | n + 1, i, acc => (pl_ld _).bind fun v => pl_lcf a n (i + 1) _
theorem pl_stc (a:Addr) : ∀ (vs:List Value) (i:Nat),Plain p (storeCells a vs i)
 | [], i => pl_ret _
 | v :: vs, i => (pl_st _ _).bind fun _ => pl_stc a vs (i + 1)
theorem pl_lvar (t:TypeId) (a:Addr):Plain p (loadVar t a):=(pl_agg t).bind fun b=>by
 split
 ·exact (pl_size t).bind fun n=>(pl_lcf a n 0 _).bind fun _=>pl_ret _
 ·exact pl_ld a
theorem pl_svar (t:TypeId) (a:Addr) (v:Value):Plain p (storeVar t a v):=(pl_size t).bind fun n=>by
 split
 ·exact (pl_stk _).bind fun _=>pl_stc a _ _
 ·exact (pl_ret _).bind fun _=>pl_stc a _ _
theorem pl_row (e:TypeId) (c:Array Value):Plain p (newRow e c):=Plain.bind (.new Z fun r => .pure r) fun _=>pl_ret _
theorem pl_part (t:TypeId) (cs:Array Value) (o:Nat):Plain p (Go.part t cs o):=(pl_agg t).bind fun b=>by
 split
 ·exact (pl_size t).bind fun _=>pl_ret _
 ·split <;> (first | exact Tor.Co.pl_ret _ | exact Tor.Co.pl_stk _ | exact Tor.Co.pl_uns _ | exact Tor.Co.pl_prog | exact Tor.Co.pl_ld _ | exact Tor.Co.pl_st _ _ | exact Tor.Co.pl_ch _ | exact Tor.Co.pl_rt _ | exact Tor.Co.pl_bounds _ _ _ _)
theorem pl_room' (n:Nat):Plain p (askRoom n):=by
 unfold askRoom;split
 ·exact .room (.pure ())
 ·exact pl_ret _
theorem pl_intOf (v:Value):Plain p (asIntOf v):=by unfold asIntOf;split <;> (first | exact Tor.Co.pl_ret _ | exact Tor.Co.pl_stk _ | exact Tor.Co.pl_uns _ | exact Tor.Co.pl_prog | exact Tor.Co.pl_ld _ | exact Tor.Co.pl_st _ _ | exact Tor.Co.pl_ch _ | exact Tor.Co.pl_rt _ | exact Tor.Co.pl_bounds _ _ _ _)
theorem pl_int (v:Value):Plain p (asInt v):=(pl_intOf v).bind fun _=>pl_ret _
theorem pl_bool (v:Value):Plain p (asBool v):=by unfold asBool;split <;> (first | exact Tor.Co.pl_ret _ | exact Tor.Co.pl_stk _ | exact Tor.Co.pl_uns _ | exact Tor.Co.pl_prog | exact Tor.Co.pl_ld _ | exact Tor.Co.pl_st _ _ | exact Tor.Co.pl_ch _ | exact Tor.Co.pl_rt _ | exact Tor.Co.pl_bounds _ _ _ _)
theorem pl_sure (v:Value):Plain p (Instr.sureAddr v):=by unfold Instr.sureAddr;split <;> (first | exact Tor.Co.pl_ret _ | exact Tor.Co.pl_stk _ | exact Tor.Co.pl_uns _ | exact Tor.Co.pl_prog | exact Tor.Co.pl_ld _ | exact Tor.Co.pl_st _ _ | exact Tor.Co.pl_ch _ | exact Tor.Co.pl_rt _ | exact Tor.Co.pl_bounds _ _ _ _)
theorem pl_addr (v:Value):Plain p (asAddr v):=by unfold asAddr;split <;> (first | exact Tor.Co.pl_ret _ | exact Tor.Co.pl_stk _ | exact Tor.Co.pl_uns _ | exact Tor.Co.pl_prog | exact Tor.Co.pl_ld _ | exact Tor.Co.pl_st _ _ | exact Tor.Co.pl_ch _ | exact Tor.Co.pl_rt _ | exact Tor.Co.pl_bounds _ _ _ _)
theorem pl_mapM {α β:Type} {f:α→Sem β} (hf : ∀ a,Plain p (f a)) : ∀ l:List α,Plain p (l.mapM f)
 | [] => by rw [List.mapM_nil]; exact pl_ret _
 | a :: l => by rw [List.mapM_cons]; exact (hf a).bind fun b => (pl_mapM hf l).bind fun _ => pl_ret _
theorem pl_mapA {α β:Type} {f:α→Sem β} (hf : ∀ a,Plain p (f a)) (l:Array α):Plain p (l.mapM f):=by
 rw [Array.mapM_eq_mapM_toList]
 show Plain p (Array.mk <$> l.toList.mapM f)
 rw [map_eq_pure_bind]
 exact (pl_mapM hf _).bind fun _=>pl_ret _
theorem pl_sbound (x:Value) (y:Nat) (c:BoundsCode):Plain p (Instr.sliceBound x y c):=by unfold Instr.sliceBound;(repeat' first | exact Tor.Co.pl_ret _ | exact Tor.Co.pl_stk _ | exact Tor.Co.pl_uns _ | exact Tor.Co.pl_prog | exact Tor.Co.pl_ld _ | exact Tor.Co.pl_st _ _ | exact Tor.Co.pl_ch _ | exact Tor.Co.pl_rt _ | exact Tor.Co.pl_bounds _ _ _ _ | exact Tor.Co.pl_info _ | exact Tor.Co.pl_und _ | exact Tor.Co.pl_zero _ | exact Tor.Co.pl_size _ | exact Tor.Co.pl_agg _ | exact Tor.Co.pl_lvar _ _ | exact Tor.Co.pl_svar _ _ _ | exact Tor.Co.pl_row _ _ | exact Tor.Co.pl_part _ _ _ | exact Tor.Co.pl_room' _ | exact Tor.Co.pl_intOf _ | exact Tor.Co.pl_int _ | exact Tor.Co.pl_bool _ | exact Tor.Co.pl_sure _ | exact Tor.Co.pl_addr _ | exact Tor.Co.pl_lcf _ _ _ _ | exact Tor.Co.pl_stc _ _ _ | apply Tor.Co.Plain.bind | intro _ | split | dsimp only)
theorem pl_sbounds (s:Bool) (l c:Nat) (a b m:Option Value):Plain p (Instr.sliceBounds s l c a b m):=by
 unfold Instr.sliceBounds
 repeat' first | exact pl_sbound _ _ _ | (first | exact Tor.Co.pl_ret _ | exact Tor.Co.pl_stk _ | exact Tor.Co.pl_uns _ | exact Tor.Co.pl_prog | exact Tor.Co.pl_ld _ | exact Tor.Co.pl_st _ _ | exact Tor.Co.pl_ch _ | exact Tor.Co.pl_rt _ | exact Tor.Co.pl_bounds _ _ _ _) | apply Plain.bind | intro _ | split
theorem pl_results (fn:Func) (tmps:Array Value):Plain p (Go.results fn tmps):=by
 unfold Go.results
 refine Plain.bind (pl_mapA (fun r => ?_) _) fun _=>pl_ret _
 cases r <;> (repeat' first | exact Tor.Co.pl_ret _ | exact Tor.Co.pl_stk _ | exact Tor.Co.pl_uns _ | exact Tor.Co.pl_prog | exact Tor.Co.pl_ld _ | exact Tor.Co.pl_st _ _ | exact Tor.Co.pl_ch _ | exact Tor.Co.pl_rt _ | exact Tor.Co.pl_bounds _ _ _ _ | exact Tor.Co.pl_info _ | exact Tor.Co.pl_und _ | exact Tor.Co.pl_zero _ | exact Tor.Co.pl_size _ | exact Tor.Co.pl_agg _ | exact Tor.Co.pl_lvar _ _ | exact Tor.Co.pl_svar _ _ _ | exact Tor.Co.pl_row _ _ | exact Tor.Co.pl_part _ _ _ | exact Tor.Co.pl_room' _ | exact Tor.Co.pl_intOf _ | exact Tor.Co.pl_int _ | exact Tor.Co.pl_bool _ | exact Tor.Co.pl_sure _ | exact Tor.Co.pl_addr _ | exact Tor.Co.pl_lcf _ _ _ _ | exact Tor.Co.pl_stc _ _ _ | apply Tor.Co.Plain.bind | intro _ | split | dsimp only)
end
section
variable {p:Program}
theorem pl_build (t:TypeId) (parts:Array (Nat × Value)):Plain p (Instr.build t parts):=by
 unfold Instr.build
 refine (pl_zero _).bind fun z=>(pl_und _).bind fun d => ?_
 split
 ·refine (pl_mapA (fun f=>(pl_size _).bind fun _=>pl_ret _) _).bind fun _ => ?_
  split <;> (first | exact Tor.Co.pl_ret _ | exact Tor.Co.pl_stk _ | exact Tor.Co.pl_uns _ | exact Tor.Co.pl_prog | exact Tor.Co.pl_ld _ | exact Tor.Co.pl_st _ _ | exact Tor.Co.pl_ch _ | exact Tor.Co.pl_rt _ | exact Tor.Co.pl_bounds _ _ _ _)
 ·refine (pl_size _).bind fun _ => ?_
  split <;> (first | exact Tor.Co.pl_ret _ | exact Tor.Co.pl_stk _ | exact Tor.Co.pl_uns _ | exact Tor.Co.pl_prog | exact Tor.Co.pl_ld _ | exact Tor.Co.pl_st _ _ | exact Tor.Co.pl_ch _ | exact Tor.Co.pl_rt _ | exact Tor.Co.pl_bounds _ _ _ _)
 ·(first | exact Tor.Co.pl_ret _ | exact Tor.Co.pl_stk _ | exact Tor.Co.pl_uns _ | exact Tor.Co.pl_prog | exact Tor.Co.pl_ld _ | exact Tor.Co.pl_st _ _ | exact Tor.Co.pl_ch _ | exact Tor.Co.pl_rt _ | exact Tor.Co.pl_bounds _ _ _ _)
theorem pl_buildS (t:TypeId) (l:Nat) (parts:Array (Nat × Value)):Plain p (Instr.buildSlice t l parts):=by unfold Instr.buildSlice;(repeat' first | exact Tor.Co.pl_ret _ | exact Tor.Co.pl_stk _ | exact Tor.Co.pl_uns _ | exact Tor.Co.pl_prog | exact Tor.Co.pl_ld _ | exact Tor.Co.pl_st _ _ | exact Tor.Co.pl_ch _ | exact Tor.Co.pl_rt _ | exact Tor.Co.pl_bounds _ _ _ _ | exact Tor.Co.pl_info _ | exact Tor.Co.pl_und _ | exact Tor.Co.pl_zero _ | exact Tor.Co.pl_size _ | exact Tor.Co.pl_agg _ | exact Tor.Co.pl_lvar _ _ | exact Tor.Co.pl_svar _ _ _ | exact Tor.Co.pl_row _ _ | exact Tor.Co.pl_part _ _ _ | exact Tor.Co.pl_room' _ | exact Tor.Co.pl_intOf _ | exact Tor.Co.pl_int _ | exact Tor.Co.pl_bool _ | exact Tor.Co.pl_sure _ | exact Tor.Co.pl_addr _ | exact Tor.Co.pl_lcf _ _ _ _ | exact Tor.Co.pl_stc _ _ _ | apply Tor.Co.Plain.bind | intro _ | split | dsimp only)
theorem pl_index (t:TypeId) (x i:Value):Plain p (Instr.index t x i):=by unfold Instr.index;(repeat' first | exact Tor.Co.pl_ret _ | exact Tor.Co.pl_stk _ | exact Tor.Co.pl_uns _ | exact Tor.Co.pl_prog | exact Tor.Co.pl_ld _ | exact Tor.Co.pl_st _ _ | exact Tor.Co.pl_ch _ | exact Tor.Co.pl_rt _ | exact Tor.Co.pl_bounds _ _ _ _ | exact Tor.Co.pl_info _ | exact Tor.Co.pl_und _ | exact Tor.Co.pl_zero _ | exact Tor.Co.pl_size _ | exact Tor.Co.pl_agg _ | exact Tor.Co.pl_lvar _ _ | exact Tor.Co.pl_svar _ _ _ | exact Tor.Co.pl_row _ _ | exact Tor.Co.pl_part _ _ _ | exact Tor.Co.pl_room' _ | exact Tor.Co.pl_intOf _ | exact Tor.Co.pl_int _ | exact Tor.Co.pl_bool _ | exact Tor.Co.pl_sure _ | exact Tor.Co.pl_addr _ | exact Tor.Co.pl_lcf _ _ _ _ | exact Tor.Co.pl_stc _ _ _ | apply Tor.Co.Plain.bind | intro _ | split | dsimp only)
theorem pl_indexAt (t:TypeId) (x i:Value):Plain p (Instr.indexAt t x i):=by unfold Instr.indexAt;(repeat' first | exact Tor.Co.pl_ret _ | exact Tor.Co.pl_stk _ | exact Tor.Co.pl_uns _ | exact Tor.Co.pl_prog | exact Tor.Co.pl_ld _ | exact Tor.Co.pl_st _ _ | exact Tor.Co.pl_ch _ | exact Tor.Co.pl_rt _ | exact Tor.Co.pl_bounds _ _ _ _ | exact Tor.Co.pl_info _ | exact Tor.Co.pl_und _ | exact Tor.Co.pl_zero _ | exact Tor.Co.pl_size _ | exact Tor.Co.pl_agg _ | exact Tor.Co.pl_lvar _ _ | exact Tor.Co.pl_svar _ _ _ | exact Tor.Co.pl_row _ _ | exact Tor.Co.pl_part _ _ _ | exact Tor.Co.pl_room' _ | exact Tor.Co.pl_intOf _ | exact Tor.Co.pl_int _ | exact Tor.Co.pl_bool _ | exact Tor.Co.pl_sure _ | exact Tor.Co.pl_addr _ | exact Tor.Co.pl_lcf _ _ _ _ | exact Tor.Co.pl_stc _ _ _ | apply Tor.Co.Plain.bind | intro _ | split | dsimp only)
theorem pl_makeSlice (t:TypeId) (x i:Value):Plain p (Instr.makeSlice t x i):=by unfold Instr.makeSlice;(repeat' first | exact Tor.Co.pl_ret _ | exact Tor.Co.pl_stk _ | exact Tor.Co.pl_uns _ | exact Tor.Co.pl_prog | exact Tor.Co.pl_ld _ | exact Tor.Co.pl_st _ _ | exact Tor.Co.pl_ch _ | exact Tor.Co.pl_rt _ | exact Tor.Co.pl_bounds _ _ _ _ | exact Tor.Co.pl_info _ | exact Tor.Co.pl_und _ | exact Tor.Co.pl_zero _ | exact Tor.Co.pl_size _ | exact Tor.Co.pl_agg _ | exact Tor.Co.pl_lvar _ _ | exact Tor.Co.pl_svar _ _ _ | exact Tor.Co.pl_row _ _ | exact Tor.Co.pl_part _ _ _ | exact Tor.Co.pl_room' _ | exact Tor.Co.pl_intOf _ | exact Tor.Co.pl_int _ | exact Tor.Co.pl_bool _ | exact Tor.Co.pl_sure _ | exact Tor.Co.pl_addr _ | exact Tor.Co.pl_lcf _ _ _ _ | exact Tor.Co.pl_stc _ _ _ | apply Tor.Co.Plain.bind | intro _ | split | dsimp only)
theorem pl_slice (t:TypeId) (x:Value) (a b c:Option Value):Plain p (Instr.sliceAt t x a b c):=by
 unfold Instr.sliceAt Instr.slice
 repeat' first | exact pl_sbounds _ _ _ _ _ _ | (first | exact Tor.Co.pl_ret _ | exact Tor.Co.pl_stk _ | exact Tor.Co.pl_uns _ | exact Tor.Co.pl_prog | exact Tor.Co.pl_ld _ | exact Tor.Co.pl_st _ _ | exact Tor.Co.pl_ch _ | exact Tor.Co.pl_rt _ | exact Tor.Co.pl_bounds _ _ _ _) | exact pl_und _ | exact pl_size _ | exact pl_sure _ | exact pl_addr _ | apply Plain.bind | intro _ | split | dsimp only
theorem mh (t:TypeId) (x:Value) (f:Nat):Plain p (Instr.field t x f):=by unfold Instr.field asAgg;(repeat' first | exact Tor.Co.pl_ret _ | exact Tor.Co.pl_stk _ | exact Tor.Co.pl_uns _ | exact Tor.Co.pl_prog | exact Tor.Co.pl_ld _ | exact Tor.Co.pl_st _ _ | exact Tor.Co.pl_ch _ | exact Tor.Co.pl_rt _ | exact Tor.Co.pl_bounds _ _ _ _ | exact Tor.Co.pl_info _ | exact Tor.Co.pl_und _ | exact Tor.Co.pl_zero _ | exact Tor.Co.pl_size _ | exact Tor.Co.pl_agg _ | exact Tor.Co.pl_lvar _ _ | exact Tor.Co.pl_svar _ _ _ | exact Tor.Co.pl_row _ _ | exact Tor.Co.pl_part _ _ _ | exact Tor.Co.pl_room' _ | exact Tor.Co.pl_intOf _ | exact Tor.Co.pl_int _ | exact Tor.Co.pl_bool _ | exact Tor.Co.pl_sure _ | exact Tor.Co.pl_addr _ | exact Tor.Co.pl_lcf _ _ _ _ | exact Tor.Co.pl_stc _ _ _ | apply Tor.Co.Plain.bind | intro _ | split | dsimp only)
theorem pl_makeMap (t:TypeId) (r:Option Value):Plain p (Instr.makeMap t r):=by
 have n:Plain p (newObj (.map #[] 0)) := .new Z fun r => .pure r
 unfold Instr.makeMap
 (repeat' first | exact Tor.Co.pl_ret _ | exact Tor.Co.pl_stk _ | exact Tor.Co.pl_uns _ | exact Tor.Co.pl_prog | exact Tor.Co.pl_ld _ | exact Tor.Co.pl_st _ _ | exact Tor.Co.pl_ch _ | exact Tor.Co.pl_rt _ | exact Tor.Co.pl_bounds _ _ _ _ | exact Tor.Co.pl_info _ | exact Tor.Co.pl_und _ | exact Tor.Co.pl_zero _ | exact Tor.Co.pl_size _ | exact Tor.Co.pl_agg _ | exact Tor.Co.pl_lvar _ _ | exact Tor.Co.pl_svar _ _ _ | exact Tor.Co.pl_row _ _ | exact Tor.Co.pl_part _ _ _ | exact Tor.Co.pl_room' _ | exact Tor.Co.pl_intOf _ | exact Tor.Co.pl_int _ | exact Tor.Co.pl_bool _ | exact Tor.Co.pl_sure _ | exact Tor.Co.pl_addr _ | exact Tor.Co.pl_lcf _ _ _ _ | exact Tor.Co.pl_stc _ _ _ | apply Tor.Co.Plain.bind | intro _ | split | dsimp only) <;> exact n
end
def freeK:Op→Bool
 | .move _ | .assign _ | .pick .. | .alloc _ | .box .. | .build .. | .buildSlice .. | .load .. | .store .. | .extract .. | .index .. | .indexAddr .. | .makeFunc .. | .makeSlice .. | .slice .. | .field .. | .makeMap .. => true
 | _ => false
def valK:Op→Bool
 | .binOp .. | .unOp .. | .convert .. | .nilCheck .. | .fieldAddr .. | .lookup .. | .mapUpdate .. => true
 | .call ⟨.builtin .len, _, _⟩ | .call ⟨.builtin .append, _, _⟩ | .call ⟨.builtin .min, _, _⟩ | .call ⟨.builtin .max, _, _⟩ | .call ⟨.value _, _, _⟩ => true
 | _ => false
def plainK (o:Op):Bool:=freeK o || valK o
theorem plain_free {p:Program} {ρ:Operand→Value} {o:Oper} (h:freeK o.op=true):Plain p (execOp ρ o):=by
 obtain ⟨d,op,ty,pos,af,gd⟩:=o
 simp only at h
 have v : ∀ {s:Sem Value},Plain p s→Plain p (do pure (.value (← s)):Sem Next):=fun h=>h.bind fun _=>pl_ret _
 cases op <;> first | cases h | skip
 case move x=>exact pl_ret _
 case assign x=>exact pl_ret _
 case pick c a b=>exact (pl_bool _).bind fun _=>pl_ret _
 case alloc e=>exact v (by unfold Instr.alloc;refine (pl_zero _).bind fun z => ?_;split <;> (repeat' first | exact Tor.Co.pl_ret _ | exact Tor.Co.pl_stk _ | exact Tor.Co.pl_uns _ | exact Tor.Co.pl_prog | exact Tor.Co.pl_ld _ | exact Tor.Co.pl_st _ _ | exact Tor.Co.pl_ch _ | exact Tor.Co.pl_rt _ | exact Tor.Co.pl_bounds _ _ _ _ | exact Tor.Co.pl_info _ | exact Tor.Co.pl_und _ | exact Tor.Co.pl_zero _ | exact Tor.Co.pl_size _ | exact Tor.Co.pl_agg _ | exact Tor.Co.pl_lvar _ _ | exact Tor.Co.pl_svar _ _ _ | exact Tor.Co.pl_row _ _ | exact Tor.Co.pl_part _ _ _ | exact Tor.Co.pl_room' _ | exact Tor.Co.pl_intOf _ | exact Tor.Co.pl_int _ | exact Tor.Co.pl_bool _ | exact Tor.Co.pl_sure _ | exact Tor.Co.pl_addr _ | exact Tor.Co.pl_lcf _ _ _ _ | exact Tor.Co.pl_stc _ _ _ | apply Tor.Co.Plain.bind | intro _ | split | dsimp only))
 case box e x=>exact v (by unfold Instr.box;exact (pl_row _ _).bind fun _=>pl_ret _)
 case build t parts=>exact v (pl_build _ _)
 case buildSlice t l parts=>exact v (pl_buildS _ _ _)
 case load t a=>exact v (by unfold Instr.loadAt;(repeat' first | exact Tor.Co.pl_ret _ | exact Tor.Co.pl_stk _ | exact Tor.Co.pl_uns _ | exact Tor.Co.pl_prog | exact Tor.Co.pl_ld _ | exact Tor.Co.pl_st _ _ | exact Tor.Co.pl_ch _ | exact Tor.Co.pl_rt _ | exact Tor.Co.pl_bounds _ _ _ _ | exact Tor.Co.pl_info _ | exact Tor.Co.pl_und _ | exact Tor.Co.pl_zero _ | exact Tor.Co.pl_size _ | exact Tor.Co.pl_agg _ | exact Tor.Co.pl_lvar _ _ | exact Tor.Co.pl_svar _ _ _ | exact Tor.Co.pl_row _ _ | exact Tor.Co.pl_part _ _ _ | exact Tor.Co.pl_room' _ | exact Tor.Co.pl_intOf _ | exact Tor.Co.pl_int _ | exact Tor.Co.pl_bool _ | exact Tor.Co.pl_sure _ | exact Tor.Co.pl_addr _ | exact Tor.Co.pl_lcf _ _ _ _ | exact Tor.Co.pl_stc _ _ _ | apply Tor.Co.Plain.bind | intro _ | split | dsimp only))
 case store t a x=>exact Plain.bind (by unfold Instr.storeAt;(repeat' first | exact Tor.Co.pl_ret _ | exact Tor.Co.pl_stk _ | exact Tor.Co.pl_uns _ | exact Tor.Co.pl_prog | exact Tor.Co.pl_ld _ | exact Tor.Co.pl_st _ _ | exact Tor.Co.pl_ch _ | exact Tor.Co.pl_rt _ | exact Tor.Co.pl_bounds _ _ _ _ | exact Tor.Co.pl_info _ | exact Tor.Co.pl_und _ | exact Tor.Co.pl_zero _ | exact Tor.Co.pl_size _ | exact Tor.Co.pl_agg _ | exact Tor.Co.pl_lvar _ _ | exact Tor.Co.pl_svar _ _ _ | exact Tor.Co.pl_row _ _ | exact Tor.Co.pl_part _ _ _ | exact Tor.Co.pl_room' _ | exact Tor.Co.pl_intOf _ | exact Tor.Co.pl_int _ | exact Tor.Co.pl_bool _ | exact Tor.Co.pl_sure _ | exact Tor.Co.pl_addr _ | exact Tor.Co.pl_lcf _ _ _ _ | exact Tor.Co.pl_stc _ _ _ | apply Tor.Co.Plain.bind | intro _ | split | dsimp only)) fun _=>pl_ret _
 case extract t i=>exact v (by unfold Instr.extract;(repeat' first | exact Tor.Co.pl_ret _ | exact Tor.Co.pl_stk _ | exact Tor.Co.pl_uns _ | exact Tor.Co.pl_prog | exact Tor.Co.pl_ld _ | exact Tor.Co.pl_st _ _ | exact Tor.Co.pl_ch _ | exact Tor.Co.pl_rt _ | exact Tor.Co.pl_bounds _ _ _ _ | exact Tor.Co.pl_info _ | exact Tor.Co.pl_und _ | exact Tor.Co.pl_zero _ | exact Tor.Co.pl_size _ | exact Tor.Co.pl_agg _ | exact Tor.Co.pl_lvar _ _ | exact Tor.Co.pl_svar _ _ _ | exact Tor.Co.pl_row _ _ | exact Tor.Co.pl_part _ _ _ | exact Tor.Co.pl_room' _ | exact Tor.Co.pl_intOf _ | exact Tor.Co.pl_int _ | exact Tor.Co.pl_bool _ | exact Tor.Co.pl_sure _ | exact Tor.Co.pl_addr _ | exact Tor.Co.pl_lcf _ _ _ _ | exact Tor.Co.pl_stc _ _ _ | apply Tor.Co.Plain.bind | intro _ | split | dsimp only))
 case index t x i=>exact v (pl_index _ _ _)
 case indexAddr t x i=>exact v (pl_indexAt _ _ _)
 case makeFunc f a b=>exact v (pl_ret _)
 case makeSlice t l c=>exact v (pl_makeSlice _ _ _)
 case slice t x a b c=>exact v (pl_slice _ _ _ _ _)
 case field t x f=>exact v (mh _ _ _)
 case makeMap t r=>exact v (pl_makeMap _ _)
end Tor.Co
end
section
namespace Tor.Co
open Go Go.Conc Go.RowKit
section
variable [Kc] (P:Program)
def AfterX (m:Bool) (Stop:Goroutine→World→Prop) (b:Frame) (k:List Item) (cs:List Frame):Exit→Act→World→Prop
 | .normal, a, w => GoI P m Stop (G (b.atR a k) cs) w
 | .exit id, a, w => (∃ k', exitTo id k = some k' ∧ GoI P m Stop (G (b.atR a k') cs) w) ∨ (b.roundOf.isSome = true ∧ exitTo id k = none ∧ ∀ k₁, exitTo id k₁ = none → GoI P m Stop (G (b.atR a (.code (.exit id) :: k₁)) cs) w)
 | .ret, a, w => (b.roundOf = none → ∀ todo, GoI P m Stop (G { b.atR a todo with mode := .returning } cs) w) ∧ (b.roundOf.isSome = true → ∀ k₁, GoI P m Stop (G (b.atR a (.code .ret :: k₁)) cs) w)
 | _, _, _ => False
def ItemX (R:Option Nat) (x:Item) (Q:Exit→Act→World→Prop) (a:Act) (w:World):Prop :=
 ∀ (m:Bool) (b:Frame) (k:List Item) (cs:List Frame) (Stop:Goroutine→World→Prop),b.roundOf=R→b.kind ≠ .early →
  (∀ e a' w',Q e a' w'→AfterX P m Stop b k cs e a' w')→GoI P m Stop (G (b.atR a (x :: k)) cs) w
abbrev WpX (R:Option Nat) (c:Code) (Q:Exit→Act→World→Prop) (a:Act) (w:World):Prop:=ItemX P R (.code c) Q a w
def CallsX (f:FuncId) (args:Array Value) (w:World) (R:Ending→World→Prop):Prop :=
 ∀ (m:Bool) (c:Frame) (cs:List Frame) (Stop:Goroutine→World→Prop),(∀ v w',R (.returned v) w'→GoI P m Stop (G (c.finish v) cs) w')→GoI P m Stop (G (Frame.enter P f args .normal) (c :: cs)) w
def RoundX (l:Nat) (f:FuncId) (tmps:Array Value) (assign body:Code) (w:World) (R:Ending→World→Prop):Prop :=
 ∀ (m:Bool) (c:Frame) (cs:List Frame) (Stop:Goroutine→World→Prop),(∀ v w',R (.returned v) w'→GoI P m Stop (G (c.finish v) cs) w')→GoI P m Stop (G (Frame.round l f tmps assign body .normal) (c :: cs)) w
def upX (o:Oper) (a:Act) (next:Act→World→Prop):Result Next→Prop
 | .ok (.value v) w' => next (a.put o.dst v) w'
 | .ok .skip w' => next (a.put o.dst undef) w'
 | .ok (.enter f args) w' => CallsX P f args w' fun
   | .returned v, w'' => next (a.put o.dst v) w''
   | _, _ => False
 | .ok (.round l f tmps assign body) w' => RoundX P l f tmps assign body w' fun
   | .returned v, w'' => next (a.put o.dst v) w''
   | _, _ => False
 | _ => False
def opX (o:Oper) (a:Act) (w:World) (next:Act→World→Prop):Prop:=(valK o.op=true→Plain P (execOp a.eval o))∧upX P o a next ((execOp a.eval o).run P w)
def wpOpX (ops:Array Oper) (i:Nat) (next:Act→World→Prop) (a:Act) (w:World):Prop :=
 match ops[i]? with
 | none => next a w
 | some o => if Region.wanted o (yielded ops a.tmps) then opX P o a w next else next (a.put o.dst undef) w
def wpOpsX (ops:Array Oper) (Q:Act→World→Prop):List Nat→Act→World→Prop
 | [], a, w => Q a w
 | i :: rest, a, w => ∀ w₁, Grow w w₁ → wpOpX P ops i (wpOpsX ops Q rest) a w₁
def wpAnyX (md:Region.Mode) (ops:Array Oper) (Q:Act→World→Prop):Nat→Array Bool→Act→World→Prop
 | 0, l, a, w => Region.ready md ops l = [] ∧ Q a w
 | fuel + 1, l, a, w => (Region.ready md ops l = [] → Q a w) ∧ ∀ i ∈ Region.ready md ops l, ∀ w₁, Grow w w₁ → wpOpX P ops i (wpAnyX md ops Q fuel (l.setIfInBounds i true)) a w₁
end
section
variable [Kc] {P:Program} {m:Bool} {Stop:Goroutine→World→Prop} {b:Frame} {k:List Item} {cs:List Frame} {e:Exit} {a:Act} {w:World} {R:Option Nat} {Q Q':Exit→Act→World→Prop}
theorem exitTo_pl {x:Item} (hx:x.plain=true) (id:Nat) (k:List Item):exitTo id (x :: k)=exitTo id k:=by cases x <;> simp_all [exitTo,Item.plain]
theorem AfterX.push {x:Item} (hx:x.plain=true) (he:e ≠ .normal) (h:AfterX P m Stop b k cs e a w):AfterX P m Stop b (x :: k) cs e a w:=by
 cases e with
 | normal => exact absurd Z he
 | exit id => dsimp only [AfterX] at h ⊢; rw [exitTo_pl hx]; exact h
 | _ => exact h
theorem wpX_mono {x:Item} (h:ItemX P R x Q a w) (hq : ∀ e a w,Q e a w→Q' e a w):ItemX P R x Q' a w:=fun m b k cs Stop hb hk hc=>h m b k cs Stop hb hk fun e a' w' q=>hc _ _ _ (hq _ _ _ q)
theorem wpX_skip (h:Q .normal a w):WpX P R .skip Q a w:=fun m b k cs Stop hb hk hc => .calm Z (fun _=>sG_skip) (hc _ _ _ h)
theorem wpX_label {l:Nat} (h:Q .normal a w):WpX P R (.label l) Q a w:=fun m b k cs Stop hb hk hc => .calm Z (fun _=>sG_label) (hc _ _ _ h)
theorem wpX_exit {id:Nat} (h:Q (.exit id) a w):WpX P R (.exit id) Q a w:=fun m b k cs Stop hb hk hc=>by
 rcases hc _ _ _ h with ⟨k',h1,h2⟩ | ⟨h1,h2,h3⟩
 ·exact .calm Z (fun _=>sG_exit h1) h2
 ·exact h3 k h2
theorem wpX_ret (h:Q .ret a w):WpX P R .ret Q a w:=fun m b k cs Stop hb hk hc=>by
 have:=hc _ _ _ h
 cases hr:b.roundOf with
 | none => exact .calm Z (fun _ => sG_ret hr) (this.1 hr _)
 | some l => exact this.2 (by rw [hr]; rfl) k
theorem wpX_seq {x y:Code} (h:WpX P R x (Exit.then (WpX P R y Q) Q) a w):WpX P R (.seq x y) Q a w:=fun m b k cs Stop hb hk hc =>
 .calm Z (fun _=>sG_seq) (h m b (.code y :: k) cs Stop hb hk fun e a' w' q=>by
  cases e with
  | normal => exact q m b k cs Stop hb hk hc
  | _ => exact (hc _ _ _ q).push (x := .code y) Z (by simp))
theorem wpX_cond {c:Operand} {x y:Code} {t:Bool} (hc:a.eval c = .bool t) (h:WpX P R (if t then x else y) Q a w):WpX P R (.cond c x y) Q a w :=
 fun m b k cs Stop hb hk hq => .calm Z (fun _=>sG_cond hc) (h m b k cs Stop hb hk hq)
theorem wpX_cond_split {c:Operand} {x y:Code} {t:Bool} (hc:a.eval c = .bool t) (ht:t=true→WpX P R x Q a w) (hf:t=false→WpX P R y Q a w):WpX P R (.cond c x y) Q a w:=by
 cases t
 ·exact wpX_cond hc (hf Z)
 ·exact wpX_cond hc (ht Z)
theorem wpX_block {id:Nat} {c:Code} (h:WpX P R c (Exit.inBlock id Q) a w):WpX P R (.block id c) Q a w:=fun m b k cs Stop hb hk hc =>
 .calm Z (fun _=>sG_block) (h m b (.inBlock id :: k) cs Stop hb hk fun e a' w' q=>by
  cases e with
  | normal => exact .calm Z (fun _ => sG_inBlock) (hc _ _ _ q)
  | exit id' =>
   by_cases hid:id'=id
   ·simp only [Exit.inBlock,hid,if_true] at q
    exact .inl ⟨k,by simp [exitTo,hid],hc _ _ _ q⟩
   ·simp only [Exit.inBlock,hid,if_false] at q
    have:(id == id')=false:=by simp;exact fun h=>hid h.symm
    have hx:exitTo id' (.inBlock id :: k)=exitTo id' k:=by simp [exitTo,this]
    have:=hc _ _ _ q
    dsimp only [AfterX] at this ⊢
    rw [hx]; exact this
  | _ => exact hc _ _ _ q)
theorem wpX_scope {c:Code} (h:WpX P R c (Exit.noGoto Q) a w):WpX P R (.scope c) Q a w:=fun m b k cs Stop hb hk hc =>
 .calm Z (fun _=>sG_scope) (h m b (.inScope c :: k) cs Stop hb hk fun e a' w' q=>by
  cases e with
  | normal => exact .calm Z (fun _ => sG_inScope) (hc _ _ _ q)
  | goto l => exact q.elim
  | exit id =>
   have:=hc (.exit id) _ _ q
   dsimp only [AfterX] at this ⊢
   rw [show exitTo id (.inScope c :: k)=exitTo id k from by simp [exitTo]]; exact this
  | ret => exact hc .ret _ _ q
  | _ => exact (hc _ _ _ q).elim)
theorem wpX_loop {σ:Type} {c:Code} (I:σ→Act→World→Prop) (μ:σ→Nat) (s₀:σ) (h₀:I s₀ a w)
  (round : ∀ s a w,I s a w→WpX P R c (Exit.then (fun a' w' => ∃ s',I s' a' w'∧μ s'<μ s) Q) a w):WpX P R (.loop c) Q a w:=fun m b k cs Stop hb hk hc=>by
 have key : ∀ n s a w, μ s=n→I s a w→GoI P m Stop (G (b.atR a (.code c :: .inLoop c :: k)) cs) w:=by
  intro n
  induction n using Nat.strongRecOn with
  | _ n ih =>
   intro s a w hn hI
   refine round s a w hI m b (.inLoop c :: k) cs Stop hb hk fun e a' w' q => ?_
   cases e with
   | normal => obtain ⟨s', h1, h2⟩ := q; exact .calm Z (fun _ => sG_inLoop) (ih _ (hn ▸ h2) s' a' w' Z h1)
   | _ => exact (hc _ _ _ q).push (x := .inLoop c) Z (by simp)
 exact .calm Z (fun _=>sG_loop) (key _ s₀ a w Z h₀)
/-! ### Operations -/
theorem Mine.drawn' {F BU:Nat→Prop} {w:World} : Mine F BU w { w with drawn:=w.drawn+1 } := ⟨rfl,rfl,rfl,Nat.le_refl _,fun _ _ _=>rfl⟩
theorem Msk.draw {F BU:Nat→Prop} {g w:World} (h:Msk F BU g w):Msk F BU { g with drawn:=g.drawn+1 } { w with drawn:=w.drawn+1 } :=
 ⟨h.size,h.os,h.tape,by show g.drawn+1=w.drawn+1;rw [h.drawn],h.output,h.fg,h.fz,h.sm⟩
structure OkOps (P:Program) (R:Option Nat) (ops:Array Oper):Prop where
 nodef:R=none ∨ ∀ o∈ops, ∀ c,o.op ≠ .defer c
 plain : ∀ o∈ops,plainK o.op=true
theorem sem_at {ops:Array Oper} {o:Oper} {i:Nat} (hn:R=none ∨ ∀ o∈ops, ∀ c,o.op ≠ .defer c) (ho:ops[i]? = some o) (hb:b.roundOf=R):o.semAt b.roundOf a.eval=execOp a.eval o:=by
 rcases hn with rfl | hn
 ·rw [hb]; exact Oper.semAt_none _ _
 ·exact Oper.semAt_eq _ _ _ (hn o (Array.mem_of_getElem? ho))
theorem sG_val {ops:Array Oper} {i:Nat} {rest:List Nat} {o:Oper} {v:Value} {w':World} (hn:R=none ∨ ∀ o∈ops, ∀ c,o.op ≠ .defer c) (ho:ops[i]? = some o) (hw:Region.wanted o (yielded ops a.tmps)=true) (hb:b.roundOf=R) (hk:b.kind ≠ .early)
  (hr:(execOp a.eval o).run P w = .ok (.value v) w'):stepG P m (G (b.atR a (.inRegion ops (i :: rest) :: k)) cs) w = .go (G (b.atR (a.put o.dst v) (.inRegion ops rest :: k)) cs) w' (seen P b.fn ((execOp a.eval o).events P w #[])):=by
 have hk':(b.kind == CallKind.early)=false:=by simpa using hk
 have hfin:(b.atR a (.inRegion ops (i :: rest) :: k)).finish v=b.atR (a.put o.dst v) (.inRegion ops rest :: k):=by rw [Frame.finish_atR,ho]; rfl
 rw [sG_op ho hw,sem_at hn ho hb, ← hfin]
 simp [stepG.apply,hr,G,Frame.atR,hk',GStep.after]
theorem sG_skp {ops:Array Oper} {i:Nat} {rest:List Nat} {o:Oper} {w':World} (hn:R=none ∨ ∀ o∈ops, ∀ c,o.op ≠ .defer c) (ho:ops[i]? = some o) (hw:Region.wanted o (yielded ops a.tmps)=true) (hb:b.roundOf=R) (hk:b.kind ≠ .early)
  (hr:(execOp a.eval o).run P w = .ok .skip w'):stepG P m (G (b.atR a (.inRegion ops (i :: rest) :: k)) cs) w = .go (G (b.atR (a.put o.dst undef) (.inRegion ops rest :: k)) cs) w' (seen P b.fn ((execOp a.eval o).events P w #[])):=by
 have hk':(b.kind == CallKind.early)=false:=by simpa using hk
 have hfin:(b.atR a (.inRegion ops (i :: rest) :: k)).finish undef=b.atR (a.put o.dst undef) (.inRegion ops rest :: k):=by rw [Frame.finish_atR,ho]; rfl
 rw [sG_op ho hw,sem_at hn ho hb, ← hfin]
 simp [stepG.apply,hr,G,Frame.atR,hk',GStep.after]
theorem sG_ent {ops:Array Oper} {i:Nat} {rest:List Nat} {o:Oper} {f:FuncId} {args:Array Value} {w':World} (hn:R=none ∨ ∀ o∈ops, ∀ c,o.op ≠ .defer c) (ho:ops[i]? = some o) (hw:Region.wanted o (yielded ops a.tmps)=true) (hb:b.roundOf=R) (hk:b.kind ≠ .early)
  (hr:(execOp a.eval o).run P w = .ok (.enter f args) w'):stepG P m (G (b.atR a (.inRegion ops (i :: rest) :: k)) cs) w = .go (G (Frame.enter P f args .normal) (b.atR a (.inRegion ops (i :: rest) :: k) :: cs)) w' (seen P b.fn ((execOp a.eval o).events P w #[])):=by
 have hk':(b.kind == CallKind.early)=false:=by simpa using hk
 rw [sG_op ho hw,sem_at hn ho hb]
 simp [stepG.apply,hr,G,Frame.atR,hk',GStep.after]
theorem sG_rnd {ops:Array Oper} {i:Nat} {rest:List Nat} {o:Oper} {l:Nat} {f:FuncId} {tmps:Array Value} {ag bd:Code} {w':World} (hn:R=none ∨ ∀ o∈ops, ∀ c,o.op ≠ .defer c) (ho:ops[i]? = some o) (hw:Region.wanted o (yielded ops a.tmps)=true) (hb:b.roundOf=R) (hk:b.kind ≠ .early)
  (hr:(execOp a.eval o).run P w = .ok (.round l f tmps ag bd) w'):stepG P m (G (b.atR a (.inRegion ops (i :: rest) :: k)) cs) w = .go (G (Frame.round l f tmps ag bd .normal) (b.atR a (.inRegion ops (i :: rest) :: k) :: cs)) w' (seen P b.fn ((execOp a.eval o).events P w #[])):=by
 have hk':(b.kind == CallKind.early)=false:=by simpa using hk
 rw [sG_op ho hw,sem_at hn ho hb]
 simp [stepG.apply,hr,G,Frame.atR,hk',GStep.after]
inductive Fair:Next→Prop
 | value (v : Value) : Fair (.value v)
 | skip : Fair .skip
 | enter (f : FuncId) (args : Array Value) : Fair (.enter f args)
 | round (l : Nat) (f : FuncId) (tmps : Array Value) (ag bd : Code) : Fair (.round l f tmps ag bd)
def opTo (P:Program) (b:Frame) (a:Act) (k:List Item) (cs:List Frame) (ops:Array Oper) (i:Nat) (rest:List Nat) (o:Oper):Next→Goroutine
 | .value v => G (b.atR (a.put o.dst v) (.inRegion ops rest :: k)) cs
 | .enter f args => G (Frame.enter P f args .normal) (b.atR a (.inRegion ops (i :: rest) :: k) :: cs)
 | .round l f tmps ag bd => G (Frame.round l f tmps ag bd .normal) (b.atR a (.inRegion ops (i :: rest) :: k) :: cs)
 | _ => G (b.atR (a.put o.dst undef) (.inRegion ops rest :: k)) cs
theorem sG_run {ops:Array Oper} {i:Nat} {rest:List Nat} {o:Oper} {x:Next} {w':World} {es:Array Event} (hn:R=none ∨ ∀ o∈ops, ∀ c,o.op ≠ .defer c) (ho:ops[i]? = some o) (hw:Region.wanted o (yielded ops a.tmps)=true) (hb:b.roundOf=R) (hk:b.kind ≠ .early)
  (hr:(execOp a.eval o).runT P w #[]=(.ok x w',es)) (hx:Fair x):stepG P m (G (b.atR a (.inRegion ops (i :: rest) :: k)) cs) w = .go (opTo P b a k cs ops i rest o x) w' (seen P b.fn es):=by
 rw [Sem.runT_eq] at hr
 have h1:(execOp a.eval o).run P w = .ok x w':=congrArg Prod.fst hr
 have h2:(execOp a.eval o).events P w #[]=es:=congrArg Prod.snd hr
 rw [← h2]
 cases hx with
 | value v => exact sG_val hn ho hw hb hk h1
 | skip => exact sG_skp hn ho hw hb hk h1
 | enter f args => exact sG_ent hn ho hw hb hk h1
 | round l f tmps ag bd => exact sG_rnd hn ho hw hb hk h1
theorem runT_of {α:Type} {s:Sem α} {w:World} {x:Result α} (h:s.run P w=x):s.runT P w #[]=(x,s.events P w #[]):=by rw [Sem.runT_eq,h]
theorem opX_go {ops:Array Oper} {i:Nat} {rest:List Nat} {next:Act→World→Prop} (hok:OkOps P R ops) (hb:b.roundOf=R) (hk:b.kind ≠ .early)
  (h : ∀ w₁,Grow w w₁→wpOpX P ops i next a w₁) (hnext : ∀ a' w',next a' w'→GoI P m Stop (G (b.atR a' (.inRegion ops rest :: k)) cs) w'):GoI P m Stop (G (b.atR a (.inRegion ops (i :: rest) :: k)) cs) w:=by
 cases ho:ops[i]? with
 | none =>
  refine .calm Z (fun w=>sG_op0 (by simp [ho])) ?_
  have:=h w (.refl w)
  simp only [wpOpX,ho] at this
  rw [ho]; exact hnext _ _ this
 | some o =>
  by_cases hw:Region.wanted o (yielded ops a.tmps)=true
  case neg =>
   refine .calm Z (fun w=>sG_op0 (by simp [ho]; simpa using hw)) ?_
   have:=h w (.refl w)
   simp only [wpOpX,ho,if_neg hw] at this
   rw [ho]; exact hnext _ _ this
  have hh : ∀ w₁,Grow w w₁→opX P o a w₁ next:=fun w₁ h₁=>by
   have:=h w₁ h₁
   simpa only [wpOpX,ho,if_pos hw] using this
  have hst : ∀ w₁,Grow w w₁ → ∃ w' x es,(execOp a.eval o).runT P w₁ #[]=(.ok x w',es)∧Fair x∧GoI P m Stop (opTo P b a k cs ops i rest o x) w':=fun w₁ h₁=>by
   have:=hh w₁ h₁
   replace this:=this.2
   generalize hr:(execOp a.eval o).run P w₁=r at this
   match r,this with
   | .ok (.value v) w', this => exact ⟨w', _, _, runT_of hr, .value v, hnext _ _ this⟩
   | .ok .skip w', this => exact ⟨w', _, _, runT_of hr, .skip, hnext _ _ this⟩
   | .ok (.enter f args) w', this =>
    refine ⟨w',_,_,runT_of hr, .enter f args,this m _ cs Stop fun v w'' hv => ?_⟩
    rw [Frame.finish_atR,ho]; exact hnext _ _ hv
   | .ok (.round l f tmps ag bd) w', this =>
    refine ⟨w',_,_,runT_of hr, .round l f tmps ag bd,this m _ cs Stop fun v w'' hv => ?_⟩
    rw [Frame.finish_atR,ho]; exact hnext _ _ hv
  refine .step Z (fun w₁ h₁ => ?_) fun w₁ g' w' es h₁ e => ?_
  ·obtain ⟨w',x,es,h1,h2,h3⟩:=hst w₁ h₁
   refine ⟨_,w',_,sG_run hok.nodef ho hw hb hk h1 h2,fun F BU wt hm hF => ?_⟩
   have hpl:Plain P (execOp a.eval o):=by
    have:=hok.plain o (Array.mem_of_getElem? ho)
    simp only [plainK,Bool.or_eq_true] at this
    exact this.elim plain_free (hh w₁ h₁).1
   obtain ⟨wt',r1,r2,r3,r4⟩:=frame P hpl hm hF h1
   exact ⟨wt',seen P b.fn es,sG_run hok.nodef ho hw hb hk r1 h2,r2,r3,fun e he=>(r4 e (mem_seen he)).resolve_left (by simp)⟩
  ·obtain ⟨w₂,x,es',h1,h2,h3⟩:=hst w₁ h₁
   rw [sG_run hok.nodef ho hw hb hk h1 h2] at e
   cases e;exact h3
theorem wpOpsX_go {ops:Array Oper} (hok:OkOps P R ops) : ∀ (l:List Nat) (a:Act) (w:World),wpOpsX P ops (Q .normal) l a w→ItemX P R (.inRegion ops l) Q a w
 | [], a, w, h => fun m b k cs Stop hb hk hc => .calm Z (fun _ => sG_rend) (hc _ _ _ h)
 | i :: l, a, w, h => fun m b k cs Stop hb hk hc => opX_go hok hb hk h fun a' w' h' => wpOpsX_go hok l a' w' h' m b k cs Stop hb hk hc
theorem wpX_region {id:Nat} {ops:Array Oper} (hok:OkOps P R ops) (h:wpOpsX P ops (Q .normal) (List.range ops.size) a w):WpX P R (.region id ops false) Q a w :=
 fun m b k cs Stop hb hk hc => .calm Z (fun _=>sG_region) (wpOpsX_go hok _ _ _ h m b k cs Stop hb hk hc)
theorem wpOpX_mono {ops:Array Oper} {i:Nat} {K K':Act→World→Prop} (hK : ∀ a w,K a w→K' a w) (h:wpOpX P ops i K a w):wpOpX P ops i K' a w:=by
 unfold wpOpX at h ⊢
 split at h
 ·exact hK _ _ h
 ·split at h
  ·rename_i hw
   rw [if_pos hw]
   unfold opX at h ⊢
   refine ⟨h.1,?_⟩
   replace h:=h.2
   generalize (execOp a.eval _).run P w=r at h
   match r,h with
   | .ok (.value v) w', h => exact hK _ _ h
   | .ok .skip w', h => exact hK _ _ h
   | .ok (.enter f args) w', h => exact fun m c cs Stop hc => h m c cs Stop fun v w'' hv => hc v w'' (hK _ _ hv)
   | .ok (.round l f tmps ag bd) w', h => exact fun m c cs Stop hc => h m c cs Stop fun v w'' hv => hc v w'' (hK _ _ hv)
  ·rename_i hw
   rw [if_neg hw]; exact hK _ _ h
theorem wpAnyX_sound {md:Region.Mode} {ops:Array Oper} {Q:Act→World→Prop} : ∀ (fuel t:Nat) (l:Array Bool) (a:Act) (w:World),wpAnyX P md ops Q fuel l a w→wpOpsX P ops Q (Region.linearise.go md ops fuel t l []) a w:=by
 intro fuel
 induction fuel with
 | zero => intro t l a w h; simpa [Region.linearise.go, wpOpsX] using h.2
 | succ fuel ih =>
  intro t l a w h
  obtain ⟨h₀,h₁⟩:=h
  simp only [Region.linearise.go]
  change wpOpsX P ops Q (match (Region.ready md ops l)[t % (Region.ready md ops l).length]? with
   | some i => Region.linearise.go md ops fuel (t / (Region.ready md ops l).length) (l.setIfInBounds i true) [i]
   | none => [].reverse) a w
  cases hi:(Region.ready md ops l)[t % (Region.ready md ops l).length]? with
  | none =>
   have hnil:Region.ready md ops l = []:=by
    cases hr:Region.ready md ops l with
    | nil => rfl
    | cons x xs =>
     rw [hr] at hi
     have hlt:t % (x :: xs).length<(x :: xs).length:=Nat.mod_lt _ (by simp)
     simp at hi
     simp at hlt
     omega
   exact h₀ hnil
  | some i =>
   simp only []
   rw [linearise_go_acc,List.reverse_singleton,List.singleton_append]
   exact fun w₁ hw=>wpOpX_mono (ih _ _) (h₁ i (List.mem_of_getElem? hi) w₁ hw)
theorem wpX_region_any {id:Nat} {ops:Array Oper} (hm:P.follows .mixedOrders=true) (hok:OkOps P R ops) (h : ∀ w₁,Grow w w₁→wpAnyX P .any ops (Q .normal) ops.size (Array.replicate ops.size false) a { w₁ with drawn:=w₁.drawn+1 }):WpX P R (.region id ops true) Q a w :=
 fun m b k cs Stop hb hk hc=>by
  have go : ∀ w₁ t,Grow w w₁→GoI P m Stop (G (b.atR a (.inRegion ops (Region.schedule (P.follows .mixedOrders) ops t) :: k)) cs) { w₁ with drawn:=w₁.drawn+1 } := fun w₁ t h₁=>by
   refine wpOpsX_go hok _ _ _ ?_ m b k cs Stop hb hk hc
   simp only [Region.schedule,hm,Bool.true_or,if_true]
   exact wpAnyX_sound ops.size t _ a _ (h w₁ h₁)
  refine .step Z (fun w₁ h₁=>⟨_,_,_,sG_draw,fun F BU wt hM hF=>⟨{ wt with drawn:=wt.drawn+1 }, #[],?_,hM.draw,Mine.drawn',fun e he=>by simp at he⟩⟩) fun w₁ g' w' es h₁ e => ?_
  ·rw [sG_draw,hM.tape,hM.drawn]
  ·rw [sG_draw] at e;cases e;exact go w₁ _ h₁
/-! ### Calls -/
def bodyX (P:Program) (fn:Func) (R:Ending→World→Prop):Exit→Act→World→Prop
 | .normal, a, w | .ret, a, w => a.defers = [] ∧ ∀ w₁, Grow w w₁ → ∃ v, (results fn a.tmps).run P w₁ = .ok v w₁ ∧ R (.returned v) w₁
 | _, _, _ => False
theorem sG_leave {fn:Func} {todo:List Item} {c:Frame} {v:Value} {w':World} {es:Array Event} (hn:b.kind = .normal) (hd:a.defers = []) (hf:P.funcs[b.fn]? = some fn)
  (hr:(results fn a.tmps).runT P w #[]=(.ok v w',es)) :
  stepG P m (G { b.atR a todo with mode := .returning } (c :: cs)) w = .go (G (c.finish v) cs) w' (seen P b.fn es):=by
 rw [Sem.runT_eq] at hr
 have h1:(results fn a.tmps).run P w = .ok v w':=congrArg Prod.fst hr
 have h2:(results fn a.tmps).events P w #[]=es:=congrArg Prod.snd hr
 simp [G,stepG,unwind,doReturn,Frame.atR,hn,hd,hf,h1,h2,GStep.after]
theorem callsX_of {f:FuncId} {fn:Func} {c:Code} {args:Array Value} {w:World} {R:Ending→World→Prop} (hf:P.funcs[f]? = some fn) (hb:fn.body=some c)
  (h:WpX P none c (bodyX P fn R) { tmps:=args ++ Array.replicate (fn.ntmps - args.size) undef,defers := [] } w):CallsX P f args w R:=fun m cl cs Stop hc=>by
 let b:Frame := { (default:Frame) with fn:=f,kind := .normal }
 have henter:Frame.enter P f args .normal=b.atR { tmps:=args ++ Array.replicate (fn.ntmps - args.size) undef,defers := [] } [.code c]:=by
  simp [Frame.enter,Frame.atR,hf,hb,b]; rfl
 rw [henter]
 have ret : ∀ (a:Act) (w:World) (todo:List Item),(a.defers = [] ∧ ∀ w₁,Grow w w₁ → ∃ v,(results fn a.tmps).run P w₁ = .ok v w₁∧R (.returned v) w₁)→GoI P m Stop (G { b.atR a todo with mode := .returning } (cl :: cs)) w:=fun a w todo ⟨hd,h⟩=>by
  refine .step Z (fun w₁ h₁ => ?_) fun w₁ g' w' es h₁ e => ?_
  ·obtain ⟨v,h2,h3⟩:=h w₁ h₁
   refine ⟨_,_,_,sG_leave (b:=b) Z hd hf (runT_of h2),fun F BU wt hm hF => ?_⟩
   obtain ⟨wt',r1,r2,r3,r4⟩:=frame P (pl_results fn a.tmps) hm hF (runT_of h2)
   exact ⟨wt',_,sG_leave (b:=b) Z hd hf r1,r2,r3,fun e he=>(r4 e (mem_seen he)).resolve_left (by simp)⟩
  ·obtain ⟨v,h2,h3⟩:=h w₁ h₁
   rw [sG_leave (b:=b) Z hd hf (runT_of h2)] at e
   cases e;exact hc v w₁ h3
 refine h m b [] (cl :: cs) Stop Z (by simp [b]) fun e a' w' q => ?_
 cases e with
 | normal => exact .calm Z (fun _ => sG_end Z) (ret _ _ _ q)
 | ret => exact ⟨fun _ todo => ret _ _ _ q, fun h => by cases h⟩
 | _ => exact q.elim
theorem CallsX.mono {f:FuncId} {args:Array Value} {w:World} {R R':Ending→World→Prop} (h:CallsX P f args w R) (hr : ∀ e w',R e w'→R' e w'):CallsX P f args w R' :=
 fun m c cs Stop hc=>h m c cs Stop fun v w' hv=>hc v w' (hr _ _ hv)
end
end Tor.Co
end
section
namespace Tor
open Go Go.RowKit
/-! ### Memory views -/
abbrev Blk:=Array Value × TypeId × (Nat × Nat)
abbrev Hp:=Nat→Option Blk
def Hp.le (h h':Hp):Prop := ∀ b x,h b=some x→h' b=some x
theorem Hp.le_refl (h:Hp):Hp.le h h:=fun _ _ e=>e
def view (w:World):Hp:=fun b=>match w.heap[b]? with | some (.cells c T f)=>some (c,T,f) | _=>none
def hid (O:List Nat) (h:Hp):Hp:=fun b=>if b∈O then none else h b
theorem vQ (O:List Nat) (h:Hp):Hp.le (hid O h) h:=by
 intro b x e;unfold hid at e;split at e
 ·cases e
 ·exact e
theorem gW {O:List Nat} {h h':Hp} (H:Hp.le h h'):Hp.le (hid O h) (hid O h'):=by
 intro b x e;unfold hid at e ⊢; split at e
 ·cases e
 ·rename_i hn;rw [if_neg hn]; exact H _ _ e
theorem lX {O O':List Nat} {h:Hp} (H : ∀ b,b∈O'→b∈O):Hp.le (hid O h) (hid O' h):=by
 intro b x e;unfold hid at e ⊢; split at e
 ·cases e
 ·rename_i hn;rw [if_neg (fun k=>hn (H _ k))]; exact e
theorem cW {O:List Nat} {h:Hp} {b:Nat} {x:Blk} (e:hid O h b=some x):b ∉ O∧h b=some x:=by
 unfold hid at e;split at e
 ·cases e
 ·rename_i hn;exact ⟨hn,e⟩
theorem eA {O:List Nat} {h:Hp} {b:Nat} {x:Blk} (hn:b ∉ O) (e:h b=some x):hid O h b=some x:=by
 unfold hid;rw [if_neg hn]; exact e
theorem dS {w:World} {b:Nat} {c:Array Value} {T:TypeId} {f:Nat × Nat} (e:view w b=some (c,T,f)):w.heap[b]? = some (.cells c T f):=by
 unfold view at e;split at e
 ·rename_i h;cases e;exact h
 ·cases e
theorem fR {w:World} {b:Nat} {c:Array Value} {T:TypeId} {f:Nat × Nat} (e:w.heap[b]? = some (.cells c T f)):view w b=some (c,T,f):=by
 unfold view;rw [e]
theorem d9 {w:World} {b:Nat} {x:Blk} (e:view w b=some x):b<w.heap.size:=by
 obtain ⟨c,T,f⟩:=x
 have:=dS e
 rcases Nat.lt_or_ge b w.heap.size with h | h
 ·exact h
 ·rw [Array.getElem?_eq_none h] at this;cases this
theorem jm {w:World} {b:Nat} {c:Array Value} {T:TypeId} {f:Nat × Nat} (e:view w b=some (c,T,f)) (o:Nat):w.cell? ⟨b,o,none⟩=c[o]? := by
 simp [World.cell?,dS e]
abbrev Ext (w w':World):Prop:=Below w.heap.size w w'
theorem Ext.view {w w':World} (h:Ext w w'):Hp.le (view w) (view w'):=by
 intro b x e
 have hb:=d9 e
 obtain ⟨c,T,f⟩:=x
 exact fR ((h.block b hb).trans (dS e))
theorem Ext.refl (w:World):Ext w w:=Below.refl _ _
theorem Ext.trans {a b c:World} (h:Ext a b) (k:Ext b c):Ext a c:=Below.trans h (Below.mono k h.size)
theorem Ext.alloc (w:World) (o:Obj):Ext w (w.alloc o):=(Below.refl _ _).alloc (Nat.le_refl _) o
theorem ci (w:World) (c:Array Value) (T:TypeId) (f:Nat × Nat):Tor.view (w.alloc (.cells c T f)) w.heap.size=some (c,T,f):=by
 apply fR;show (w.heap.push _)[_]? = _;simp
/-! ### Predicates on values -/
structure VT where
 p:Value→Hp→Prop
 mono : ∀ {v h h'},Hp.le h h'→p v h→p v h'
def VT.le (φ ψ:VT):Prop := ∀ v h, φ.p v h→ψ.p v h
theorem VT.le_refl (φ:VT):VT.le φ φ:=fun _ _ h=>h
theorem _root_.A {φ:VT}:VT.le φ φ:=VT.le_refl _
theorem VT.le_trans {a b c:VT} (h:VT.le a b) (k:VT.le b c):VT.le a c:=fun _ _ e=>k _ _ (h _ _ e)
def one (v:Value):VT:=⟨fun x _=>x=v,fun _ h=>h⟩
theorem av {v v':Value} (h:v=v'):VT.le (one v) (one v'):=fun _ _ e=>e.trans h
def bQ:VT:=⟨fun _ _=>True,fun _ h=>h⟩
def exT {α:Sort _} (φ:α→VT):VT:=⟨fun v h => ∃ x,(φ x).p v h,fun H ⟨x,h⟩=>⟨x,(φ x).mono H h⟩⟩
def cj (F:Prop) (φ:VT):VT:=⟨fun v h=>F∧φ.p v h,fun H ⟨x,h⟩=>⟨x, φ.mono H h⟩⟩
inductive Lay where
 | one
 | agg (n : Nat)
def Lay.sz:Lay→Nat
 | .one => 1
 | .agg n => n
def bP:Lay→Array Value→Nat→Option Value
 | .one, c, o => c[o]?
 | .agg n, c, o => if o + n ≤ c.size then some (.agg (c.extract o (o + n))) else none
def bL (L:Lay) (φ:VT):VT where
 p v h := ∃ b o c T f x,v = .pointer (some ⟨b,o,none⟩)∧h b=some (c,T,f)∧bP L c o=some x∧φ.p x h
 mono:=fun H ⟨b,o,c,T,f,x,hv,hb,hx,hp⟩=>⟨b,o,c,T,f,x,hv,H _ _ hb,hx, φ.mono H hp⟩
def slT (L:Lay) (n:Nat) (φ:Nat→VT):VT where
 p v h := ∃ a cap,v = .slice a n cap∧n≤cap∧n≤2^48 ∧
  ∀ i,i<n → ∃ b o c T f x,a=some ⟨b,o,none⟩∧h b=some (c,T,f)∧bP L c (o+i*L.sz)=some x∧(φ i).p x h
 mono:=fun H ⟨a,cap,hv,h1,h2,he⟩=>⟨a,cap,hv,h1,h2,fun i hi =>
  let ⟨b,o,c,T,f,x,ha,hb,hx,hp⟩:=he i hi;⟨b,o,c,T,f,x,ha,H _ _ hb,hx,(φ i).mono H hp⟩⟩
abbrev bW:=List (Nat × Lay × VT)
def gk (cs:bW) (c:Array Value) (h:Hp):Prop := ∀ q∈cs, ∃ x,bP q.2.1 c q.1=some x∧q.2.2.p x h
theorem lL {cs:bW} {c:Array Value} {h h':Hp} (H:Hp.le h h') (k:gk cs c h):gk cs c h' :=
 fun q hq=>let ⟨x,hx,hp⟩:=k q hq;⟨x,hx,q.2.2.mono H hp⟩
def bE (m:Nat) (cs:bW):VT where
 p v h := ∃ c,v = .agg c∧c.size=m∧c.all (·.oneCell')=true∧gk cs c h
 mono:=fun H ⟨c,hv,hs,ha,hc⟩=>⟨c,hv,hs,ha,lL H hc⟩
def fb:List VT→List Value→Hp→Prop
 | [], [], _ => True
 | φ :: φs, v :: vs, h => φ.p v h ∧ fb φs vs h
 | _, _, _ => False
theorem eI {h h':Hp} (H:Hp.le h h') : ∀ {φs:List VT} {vs:List Value},fb φs vs h→fb φs vs h'
 | [], [], _ => trivial
 | φ :: _, _ :: _, ⟨a, b⟩ => ⟨φ.mono H a, eI H b⟩
def bw (φs:List VT):VT where
 p v h := ∃ vs:List Value,v = .tuple vs.toArray∧fb φs vs h
 mono:=fun H ⟨vs,hv,hp⟩=>⟨vs,hv,eI H hp⟩
/-! ### Own memory -/
abbrev RH:=Nat→Option Obj
def vw (g:RH):Hp:=fun b=>match g b with | some (.cells c T f)=>some (c,T,f) | _=>none
def raw (w:World):RH:=fun b=>w.heap[b]?
theorem vR {g g':RH} {b:Nat} {x:Option Blk} (h:g b=g' b) (e:vw g b=x):vw g' b=x:=by unfold vw at e ⊢; rw [← h]; exact e
theorem fJ {w w':World} {b:Nat} (h:w'.heap[b]? = w.heap[b]?):raw w' b=raw w b:=h
structure Own where
 bl:List Nat
 p:RH→Hp→Prop
 loc : ∀ {g g':RH} {h h':Hp},(∀ b∈bl,g b=g' b)→Hp.le h h'→p g h→p g' h'
abbrev Mem:=List Own
def aS (M:Mem):List Nat:=M.flatMap (·.bl)
@[simp] theorem blks_nil:aS [] = []:=rfl
@[simp] theorem blks_cons (o:Own) (M:Mem):aS (o :: M)=o.bl ++ aS M:=rfl
def Own.le (o o':Own):Prop:=o.bl=o'.bl ∧ ∀ g h,o.p g h→o'.p g h
def slV (sv:Option Nat) (n cap:Nat):Value := .slice (sv.map fun b=>⟨b,0,none⟩) n cap
def aH (sv:Option Nat) (T:TypeId) (L:Lay) (cap n:Nat) (φ:Nat→VT):Own where
 bl:=sv.toList
 p g h:=n≤cap∧n≤2^48∧(sv=none→cap=0) ∧
  ∀ b,sv=some b → ∃ c,vw g b=some (c,T,(0,0))∧c.size=cap*L.sz ∧ ∀ i,i<n → ∃ x,bP L c (i*L.sz)=some x∧(φ i).p x h
 loc:=fun {g g' h h'} he H ⟨h1,h2,h3,h4⟩=>⟨h1,h2,h3,fun b hb =>
  let ⟨c,hg,hs,hi⟩:=h4 b hb;⟨c,vR (he b (by simp [hb])) hg,hs,fun i hn=>let ⟨x,hx,hp⟩:=hi i hn;⟨x,hx,(φ i).mono H hp⟩⟩⟩
def upd (φ:Nat→VT) (j:Nat) (ψ:VT):Nat→VT:=fun i=>if i=j then ψ else φ i
def aT (b:Nat) (T:TypeId) (m:Nat) (cs:bW):Own where
 bl := [b]
 p g h := ∃ c,vw g b=some (c,T,(0,0))∧c.size=m∧c.all (·.oneCell')=true∧gk cs c h
 loc:=fun {g g' h h'} he H ⟨c,hb,hs,ha,hc⟩=>⟨c,vR (he b (by simp)) hb,hs,ha,lL H hc⟩
/-! ### Contexts -/
abbrev Ctx:=List (Nat × VT)
def bt:Ctx→Nat→Option VT
 | [], _ => none
 | (k, v) :: r, t => bif Nat.beq k t then some v else bt r t
theorem aW {k:Nat} {v:VT} {r:Ctx} {t:Nat} : bt ((k,v) :: r) t=if k=t then some v else bt r t:=by
 rw [bt]
 by_cases h:k=t
 ·subst h;simp
 ·have:Nat.beq k t=false:=by rw [← Bool.not_eq_true]; intro e;exact h (Nat.eq_of_beq_eq_true e)
  rw [this,if_neg h]; rfl
def aB (Γ:Ctx):Operand→Option VT
 | .tmp t => bt Γ t
 | .const v => some (one v)
 | .global g => some (one (.pointer (some ⟨g, 0, none⟩)))
 | .func f => some (one (.func (.func f) #[] #[]))
structure Env where
 w0:World
 O:List Nat
 I:List Nat
 N:Nat
 R:Option Nat
structure Fr (I:List Nat) (w w':World):Prop where
 os:w'.os=w.os
 tape:w'.tape=w.tape
 output:w'.output=w.output
 size:w.heap.size≤w'.heap.size
 block : ∀ k,k<w.heap.size→k ∉ I→w'.heap[k]? = w.heap[k]?
theorem Fr.refl (I:List Nat) (w:World):Fr I w w:=⟨rfl,rfl,rfl,Nat.le_refl _,fun _ _ _=>rfl⟩
theorem Fr.ext {I:List Nat} {a b c:World} (h:Fr I a b) (k:Ext b c):Fr I a c :=
 ⟨k.os.trans h.os,k.tape.trans h.tape,k.output.trans h.output,Nat.le_trans h.size k.size,fun i hi hn=>(k.block i (Nat.lt_of_lt_of_le hi h.size)).trans (h.block i hi hn)⟩
theorem Fr.toExt {a b:World} (h:Fr [] a b):Ext a b:=⟨h.os,h.tape,h.output,h.size,fun k hk=>h.block k hk (by simp)⟩
structure Base (E:Env) (M:Mem) (w:World):Prop where
 mem : ∀ o∈M,o.p (raw w) (hid (E.O ++ aS M) (view w))
 nd:(aS M).Nodup
 dis : ∀ b∈aS M,b ∉ E.O
 lo : ∀ b∈aS M,E.w0.heap.size≤b∨b∈E.I
 ex : ∀ b∈E.O ++ aS M,b<w.heap.size
 fr:Fr E.I E.w0 w
abbrev hv (E:Env) (M:Mem) (w:World):Hp:=hid (E.O ++ aS M) (view w)
structure St (E:Env) (D:List Deferred) (Γ:Ctx) (M:Mem) (a:Act) (w:World):Prop where
 base:Base E M w
 sz:a.tmps.size=E.N
 df:a.defers=D
 tm : ∀ t φ,bt Γ t=some φ→φ.p (a.tmps.getD t undef) (hv E M w)
theorem Base.ext {E:Env} {M:Mem} {w w':World} (h:Base E M w) (k:Ext w w'):Base E M w' where
 mem:=fun o ho=>o.loc (fun b hb=>by
   have hlt:b<w.heap.size:=h.ex b (List.mem_append.2 (.inr (List.mem_flatMap.2 ⟨o,ho,hb⟩)))
   unfold raw;rw [k.block b hlt]) (gW k.view) (h.mem o ho)
 nd:=h.nd
 dis:=h.dis
 lo:=h.lo
 ex:=fun b hb=>Nat.lt_of_lt_of_le (h.ex b hb) k.size
 fr:=h.fr.ext k
theorem Base.hv_ext {E:Env} {M:Mem} {w w':World} (k:Ext w w'):Hp.le (hv E M w) (hv E M w'):=gW k.view
theorem cq {E:Env} {D:List Deferred} {Γ:Ctx} {M:Mem} {a:Act} {w:World} (h:St E D Γ M a w) {x:Operand} {φ:VT} (e:aB Γ x=some φ):φ.p (a.eval x) (hv E M w):=by
 cases x with
 | tmp t => exact h.tm t φ e
 | const v => cases e; rfl
 | global g => cases e; rfl
 | func f => cases e; rfl
theorem be {a:Act} {d:Nat} {v:Value} (h:d<a.tmps.size):(a.put (some d) v).tmps.getD d undef=v:=by
 simp [Act.put,Array.getD_eq_getD_getElem?,h]
theorem aP {a:Act} {d t:Nat} {v:Value} (h:d≠t):(a.put (some d) v).tmps.getD t undef=a.tmps.getD t undef:=by
 simp [Act.put,Array.getD_eq_getD_getElem?,h]
theorem St.put {E:Env} {D:List Deferred} {Γ:Ctx} {M:Mem} {a:Act} {w w':World} (h:St E D Γ M a w) (k:Ext w w') {d:Nat} (hd:d<E.N) {ψ:VT} {v:Value} (hv':ψ.p v (hv E M w')) :
  St E D ((d, ψ) :: Γ) M (a.put (some d) v) w' where
 base:=h.base.ext k
 sz:=by simp [Act.put,h.sz]
 df:=h.df
 tm:=by
  intro t φ e
  rw [aW] at e
  split at e
  ·rename_i hdt;cases e;rw [← hdt,be (by rw [h.sz]; exact hd)]; exact hv'
  ·rename_i hdt;rw [aP hdt]; exact φ.mono (Base.hv_ext k) (h.tm t φ e)
theorem St.putNone {E:Env} {D:List Deferred} {Γ:Ctx} {M:Mem} {a:Act} {w w':World} (h:St E D Γ M a w) (k:Ext w w') {v:Value} :
  St E D Γ M (a.put none v) w' where
 base:=h.base.ext k
 sz:=h.sz
 df:=h.df
 tm:=fun t φ e=>φ.mono (Base.hv_ext k) (h.tm t φ e)
/-! ### Judgements -/
variable [Co.Kc]
def mg (o:Oper):Bool:=match o.op with
 | .defer _ => false
 | _ => true
def fO:Code→Bool
 | .region _ ops _ => ops.all mg
 | .seq x y => fO x && fO y
 | .cond _ x y => fO x && fO y
 | .block _ c => fO c
 | .loop c => fO c
 | .skip => true
 | .exit _ => true
 | .label _ => true
 | .ret => true
 | _ => false
abbrev jG (P:Program) (f:FuncId) (args:Array Value) (w:World) (R:Ending→World→Prop):Prop:=Co.CallsX P f args w R
abbrev cG (P:Program) (fn:Func) (R:Ending→World→Prop):Exit→Act→World→Prop:=Co.bodyX P fn R
theorem jG.mono {P:Program} {f:FuncId} {args:Array Value} {w:World} {R R':Ending→World→Prop} (h:jG P f args w R) (hr : ∀ e w',R e w'→R' e w'):jG P f args w R':=Co.CallsX.mono h hr
theorem ig {P:Program} {o:Oper} {a:Act} {next:Act→World→Prop} {f:FuncId} {args:Array Value} {w:World} {R:Ending→World→Prop} (h:jG P f args w R) (hr : ∀ e w',R e w' → ∃ v,e = .returned v∧next (a.put o.dst v) w') :
  Co.upX P o a next (.ok (.enter f args) w):=by
 simp only [Co.upX]
 refine Co.CallsX.mono h fun e w' he => ?_
 obtain ⟨v,rfl,hn⟩:=hr e w' he
 exact hn
def cU:Code→Bool
 | .region _ ops _ => ops.all fun o => Co.plainK o.op
 | .seq x y => cU x && cU y
 | .cond _ x y => cU x && cU y
 | .block _ c => cU c
 | .loop c => cU c
 | .skip => true
 | .exit _ => true
 | .label _ => true
 | .ret => true
 | .rangeFunc _ _ x y => cU x && cU y
 | .scope c => cU c
 | _ => false
structure OkC (R:Option Nat) (c:Code):Prop where
 nodef:R=none∨fO c=true
 plain:cU c=true
theorem OkC.seq1 {R:Option Nat} {x y:Code} (h:OkC R (.seq x y)):OkC R x :=
 ⟨h.nodef.imp id fun h=>by simp only [fO,Bool.and_eq_true] at h;exact h.1,by have:=h.plain;simp only [cU,Bool.and_eq_true] at this;exact this.1⟩
theorem OkC.seq2 {R:Option Nat} {x y:Code} (h:OkC R (.seq x y)):OkC R y :=
 ⟨h.nodef.imp id fun h=>by simp only [fO,Bool.and_eq_true] at h;exact h.2,by have:=h.plain;simp only [cU,Bool.and_eq_true] at this;exact this.2⟩
theorem OkC.cond1 {R:Option Nat} {c:Operand} {x y:Code} (h:OkC R (.cond c x y)):OkC R x :=
 ⟨h.nodef.imp id fun h=>by simp only [fO,Bool.and_eq_true] at h;exact h.1,by have:=h.plain;simp only [cU,Bool.and_eq_true] at this;exact this.1⟩
theorem OkC.cond2 {R:Option Nat} {c:Operand} {x y:Code} (h:OkC R (.cond c x y)):OkC R y :=
 ⟨h.nodef.imp id fun h=>by simp only [fO,Bool.and_eq_true] at h;exact h.2,by have:=h.plain;simp only [cU,Bool.and_eq_true] at this;exact this.2⟩
theorem OkC.block {R:Option Nat} {id:Nat} {c:Code} (h:OkC R (.block id c)):OkC R c:=⟨h.nodef,h.plain⟩
theorem OkC.loop {R:Option Nat} {c:Code} (h:OkC R (.loop c)):OkC R c:=⟨h.nodef,h.plain⟩
theorem OkC.ops {P:Program} {R:Option Nat} {k:Nat} {ops:Array Oper} {d:Bool} (h:OkC R (.region k ops d)):Co.OkOps P R ops where
 nodef:=h.nodef.imp id fun h o ho c hc=>by
  have:=Array.all_eq_true'.1 h o ho
  simp [mg,hc] at this
 plain:=fun o ho=>Array.all_eq_true'.1 h.plain o ho
def JW (P:Program) (E:Env) (c:Code) (Q:Exit→Act→World→Prop) (a:Act) (w:World):Prop:=OkC E.R c→Co.WpX P E.R c Q a w
def J (P:Program) (E:Env) (D:List Deferred) (Γ:Ctx) (M:Mem) (c:Code) (Q:Exit→Act→World→Prop):Prop :=
 ∀ a w,St E D Γ M a w→JW P E c Q a w
theorem JW.mono {P:Program} {E:Env} {c:Code} {Q Q':Exit→Act→World→Prop} {a:Act} {w:World} (h:JW P E c Q a w) (hq : ∀ e a w,Q e a w→Q' e a w):JW P E c Q' a w :=
 fun hd=>Co.wpX_mono (h hd) hq
def PJ (E:Env) (D:List Deferred) (Γ:Ctx) (M:Mem) (e:Exit) (Q:Exit→Act→World→Prop):Prop := ∀ a w,St E D Γ M a w→Q e a w
def aC (P:Program) (E:Env) (Γ:Ctx) (M:Mem) (o:Oper) (ψ:VT):Prop :=
 ∀ (a:Act) (w:World),Base E M w→(∀ x φ,x∈o.op.operands→aB Γ x=some φ→φ.p (a.eval x) (hv E M w)) →
  ∀ (next:Act→World→Prop),
   (∀ v w',Ext w w'→ψ.p v (hv E M w')→next (a.put o.dst v) w')→Co.opX P o a w next
def eD (ops:Array Oper) (o:Oper):Option (Option Tmp × Bool):=o.guard.map fun (j,want)=>((ops[j]?).bind (·.dst),want)
inductive StepG (P:Program) (E:Env) (Γ:Ctx) (M:Mem) (ops:Array Oper) (o:Oper):Ctx→Prop
 | plain {ψ : VT} {d : Nat} : aC P E Γ M o ψ → o.guard = none → o.dst = some d → d < E.N → StepG P E Γ M ops o ((d, ψ) :: Γ)
 | guarded1 {ψ : VT} {d t : Nat} {want : Bool} : eD ops o = some (some t, want) → bt Γ t = some (one (.bool want)) →
   aC P E Γ M o ψ→o.dst=some d→d<E.N→StepG P E Γ M ops o ((d, ψ) :: Γ)
 | guarded0 {d t : Nat} {want b : Bool} : eD ops o = some (some t, want) → bt Γ t = some (one (.bool b)) → (b == want) = false →
   o.dst=some d→d<E.N→StepG P E Γ M ops o ((d,bQ) :: Γ)
 | guardedN {d t : Nat} {want b : Bool} : eD ops o = some (some t, want) → bt Γ t = some (one (.bool b)) → (b == want) = false →
   o.dst=some d→d<E.N→StepG P E Γ M ops o ((d,one undef) :: Γ)
 | guardedU {d t : Nat} {want : Bool} : eD ops o = some (some t, want) → bt Γ t = some (one undef) →
   o.dst=some d→d<E.N→StepG P E Γ M ops o ((d,one undef) :: Γ)
def BJ (P:Program) (E:Env) (ops:Array Oper) (i:Nat) (D:List Deferred) (Γ:Ctx) (M:Mem) (K:List Deferred→Ctx→Mem→Prop):Prop :=
 ∀ a w,St E D Γ M a w → ∀ (next:Act→World→Prop),
  (∀ D' Γ' M' a' w',K D' Γ' M'→St E D' Γ' M' a' w'→next a' w')→Co.wpOpX P ops i next a w
inductive Run (P:Program) (E:Env) (ops:Array Oper):Bool→Nat→List Deferred→Ctx→Mem→List Oper→(List Deferred→Ctx→Mem→Prop)→Prop
 | nil {dr i D Γ M K} : K D Γ M → Run P E ops dr i D Γ M [] K
 | step {dr i D Γ M o os K Γ'} : StepG P E Γ M ops o Γ' → Run P E ops dr (i + 1) D Γ' M os K → Run P E ops dr i D Γ M (o :: os) K
 | conv {i D Γ M Γ' M' os K} : (∀ a w, St E D Γ M a w → St E D Γ' M' a w) → Run P E ops false i D Γ' M' os K → Run P E ops false i D Γ M os K
 | act {i D Γ M o os K} {K' : List Deferred → Ctx → Mem → Prop} : BJ P E ops i D Γ M K' → (∀ D' Γ' M', K' D' Γ' M' → Run P E ops false (i + 1) D' Γ' M' os K) → Run P E ops false i D Γ M (o :: os) K
theorem _root_.Cf {P:Program} {E:Env} {D:List Deferred} {Γ:Ctx} {M:Mem} {ops:Array Oper} {i:Nat} {K:List Deferred→Ctx→Mem→Prop} {dr:Bool} (h:K D Γ M):Run P E ops dr i D Γ M [] K := .nil h
theorem St.ext {E:Env} {D:List Deferred} {Γ:Ctx} {M:Mem} {a:Act} {w w':World} (h:St E D Γ M a w) (k:Ext w w'):St E D Γ M a w':=h.putNone k (v:=undef)
section
variable {P:Program} {E:Env} {Q:Exit→Act→World→Prop} {a:Act} {w:World} {ops:Array Oper} {id:Nat}
theorem Aj (h:Co.wpOpsX P ops (Q .normal) (List.range ops.size) a w):JW P E (.region id ops false) Q a w:=fun hd=>Co.wpX_region hd.ops h
theorem dM (hm:P.follows .mixedOrders=true) (h : ∀ w₁,Ext w w₁→Co.wpAnyX P .any ops (Q .normal) ops.size (Array.replicate ops.size false) a { w₁ with drawn:=w₁.drawn+1 }):JW P E (.region id ops true) Q a w :=
 fun hd=>Co.wpX_region_any hm hd.ops h
theorem JW.seq {x y:Code} (h:JW P E x (Exit.then (JW P E y Q) Q) a w):JW P E (.seq x y) Q a w:=fun hd =>
 Co.wpX_seq (Co.wpX_mono (h hd.seq1) fun e a w hq=>by
  cases e <;> first | exact hq | exact hq hd.seq2)
end
def iN (ops:Array Oper) (o:Oper):List Tmp :=
 (o.op.operands.toList.filterMap fun | .tmp t=>some t | _=>none) ++ (match eD ops o with | some (some t,_) => [t] | _ => [])
end Tor
end
section
namespace Tor
open Go Go.RowKit
variable [Co.Kc]
section
variable {P:Program} {E:Env} {ops:Array Oper}
theorem cO {o:Oper} {y:Nat→Option Bool} (h:o.guard=none):Region.wanted o y=true:=by
 simp [Region.wanted,h]
theorem iO {o:Oper} {a:Act} {t:Nat} {want b:Bool} (hg:eD ops o=some (some t,want)) (hs:t<a.tmps.size)
  (hb:a.tmps.getD t undef = .bool b):Region.wanted o (yielded ops a.tmps)=(b == want):=by
 unfold eD at hg
 cases hgo:o.guard with
 | none => rw [hgo] at hg; cases hg
 | some jw =>
  obtain ⟨j,w'⟩:=jw
  rw [hgo] at hg
  simp only [Option.map_some,Option.some.injEq,Prod.mk.injEq] at hg
  obtain ⟨h1,h2⟩:=hg
  subst h2
  simp only [Region.wanted,hgo,yielded]
  have:a.tmps[t]? = some (.bool b):=by
   rw [Array.getD_eq_getD_getElem?] at hb
   have:a.tmps[t]? = some a.tmps[t]:=by simp [hs]
   rw [this] at hb ⊢; simpa using hb
  cases hj:ops[j]? with
  | none => rw [hj] at h1; cases h1
  | some oj =>
   rw [hj] at h1
   simp only [Option.bind_some] at h1 ⊢
   rw [h1]; simp only [Option.bind_some,this]
   cases b <;> cases w' <;> rfl
theorem jK {a:Act} {t:Nat} {b:Bool} (hb:a.tmps.getD t undef = .bool b):t<a.tmps.size:=by
 rcases Nat.lt_or_ge t a.tmps.size with h | h
 ·exact h
 ·rw [Array.getD_eq_getD_getElem?,Array.getElem?_eq_none h] at hb;cases hb
theorem pQ {o:Oper} {a:Act} {t:Nat} {want:Bool} (hg:eD ops o=some (some t,want)) (hb:a.tmps.getD t undef=undef):Region.wanted o (yielded ops a.tmps)=false:=by
 unfold eD at hg
 cases hgo:o.guard with
 | none => rw [hgo] at hg; cases hg
 | some jw =>
  obtain ⟨j,w'⟩:=jw
  rw [hgo] at hg
  simp only [Option.map_some,Option.some.injEq,Prod.mk.injEq] at hg
  obtain ⟨h1,h2⟩:=hg
  simp only [Region.wanted,hgo,yielded,h1,Option.bind_some]
  rw [Array.getD_eq_getD_getElem?] at hb
  cases ht:a.tmps[t]? with
  | none => rfl
  | some v => rw [ht, Option.getD_some] at hb; subst hb; rfl
theorem StepG.run {Γ Γ':Ctx} {M:Mem} {o:Oper} {i:Nat} (hi:ops[i]? = some o) (h:StepG P E Γ M ops o Γ') :
  ∃ d ψ,o.dst=some d∧d<E.N∧Γ'=(d, ψ) :: Γ ∧ ∀ (a:Act) (w:World),Base E M w →
   (∀ t φ,t∈iN ops o→bt Γ t=some φ→φ.p (a.tmps.getD t undef) (hv E M w)) →
   ∀ (next:Act→World→Prop),
    (∀ v w',Ext w w'→ψ.p v (hv E M w')→next (a.put (some d) v) w')→Co.wpOpX P ops i next a w:=by
 have opsOk : ∀ (a:Act) (w:World),(∀ t φ,t∈iN ops o→bt Γ t=some φ→φ.p (a.tmps.getD t undef) (hv E M w)) →
   ∀ x φ,x∈o.op.operands→aB Γ x=some φ→φ.p (a.eval x) (hv E M w):=by
  intro a w hn x φ hx he
  cases x with
  | tmp t => exact hn t φ (List.mem_append.2 (.inl (List.mem_filterMap.2 ⟨.tmp t, by simpa using hx, rfl⟩))) he
  | const v => cases he; rfl
  | global g => cases he; rfl
  | func f => cases he; rfl
 cases h with
 | @plain ψ d hs hg hd hN =>
  refine ⟨d, ψ,hd,hN,rfl,fun a w hb hn next hnext => ?_⟩
  simp only [Co.wpOpX,hi,cO hg,if_true]
  exact hs a w hb (opsOk a w hn) next (by rw [hd]; exact hnext)
 | @guarded1 ψ d t want hg ht hs hd hN =>
  refine ⟨d,_,hd,hN,rfl,fun a w hb hn next hnext => ?_⟩
  have hbv:a.tmps.getD t undef = .bool want:=hn t _ (List.mem_append.2 (.inr (by rw [hg]; simp))) ht
  have hw:=iO (a:=a) hg (jK hbv) hbv
  simp only [Co.wpOpX,hi,hw]
  rw [if_pos (by simp)]
  refine hs a w hb (opsOk a w hn) next ?_
  rw [hd]; exact fun v w' k hv'=>hnext v w' k hv'
 | @guarded0 d t want b hg ht hne hd hN =>
  refine ⟨d,_,hd,hN,rfl,fun a w hb hn next hnext => ?_⟩
  have hbv:a.tmps.getD t undef = .bool b:=hn t _ (List.mem_append.2 (.inr (by rw [hg]; simp))) ht
  have hw:=iO (a:=a) hg (jK hbv) hbv
  simp only [Co.wpOpX,hi,hw,hne]
  rw [if_neg (by simp),hd]
  exact hnext _ w (Ext.refl w) trivial
 | @guardedN d t want b hg ht hne hd hN =>
  refine ⟨d,_,hd,hN,rfl,fun a w hb hn next hnext => ?_⟩
  have hbv:a.tmps.getD t undef = .bool b:=hn t _ (List.mem_append.2 (.inr (by rw [hg]; simp))) ht
  have hw:=iO (a:=a) hg (jK hbv) hbv
  simp only [Co.wpOpX,hi,hw,hne]
  rw [if_neg (by simp),hd]
  exact hnext _ w (Ext.refl w) Z
 | @guardedU d t want hg ht hd hN =>
  refine ⟨d,_,hd,hN,rfl,fun a w hb hn next hnext => ?_⟩
  have hbv:a.tmps.getD t undef=undef:=hn t _ (List.mem_append.2 (.inr (by rw [hg]; simp))) ht
  have hw:=pQ (a:=a) hg hbv
  simp only [Co.wpOpX,hi,hw]
  rw [if_neg (by simp),hd]
  exact hnext _ w (Ext.refl w) Z
theorem St.names {D:List Deferred} {Γ:Ctx} {M:Mem} {a:Act} {w:World} (h:St E D Γ M a w) (o:Oper) :
  ∀ t φ,t∈iN ops o→bt Γ t=some φ→φ.p (a.tmps.getD t undef) (hv E M w):=fun t φ _ e=>h.tm t φ e
theorem Run.seq {i:Nat} {D:List Deferred} {Γ:Ctx} {M:Mem} {os:List Oper} {K:List Deferred→Ctx→Mem→Prop} {dr:Bool}
  (h:Run P E ops dr i D Γ M os K) : ∀ (Q:Act→World→Prop) (tl:List Nat),(∀ j,j<os.length→ops[i+j]? = os[j]?) →
   (∀ D' Γ' M' a w,K D' Γ' M'→St E D' Γ' M' a w→Co.wpOpsX P ops Q tl a w) →
   ∀ a w,St E D Γ M a w→Co.wpOpsX P ops Q (List.range' i os.length ++ tl) a w:=by
 induction h with
 | nil hK => intro Q tl _ hQ a w hS; exact hQ _ _ _ a w hK hS
 | @step dr i D Γ M o os K Γ' hs _ ih =>
  intro Q tl hops hQ a w hS
  have hi:ops[i]? = some o:=by simpa using hops 0 (by simp)
  obtain ⟨d, ψ,_,hN,rfl,hrun⟩:=hs.run hi
  simp only [List.length_cons,List.range'_succ,List.cons_append,Co.wpOpsX]
  intro w₁ hw₁
  replace hS:=hS.ext hw₁
  refine hrun a _ hS.base (hS.names o) _ fun v w' k hv' => ?_
  refine ih Q tl (fun j hj => ?_) hQ _ _ (hS.put k hN hv')
  have:=hops (j+1) (by simpa using hj)
  rw [show i+1+j=i+(j+1) by omega]; simpa using this
 | @conv i D Γ M Γ' M' os K hc _ ih =>
  intro Q tl hops hQ a w hS
  exact ih Q tl hops hQ a w (hc a w hS)
 | @act i D Γ M o os K K' hs _ ih =>
  intro Q tl hops hQ a w hS
  simp only [List.length_cons,List.range'_succ,List.cons_append,Co.wpOpsX]
  intro w₁ hw₁
  replace hS:=hS.ext hw₁
  refine hs a _ hS _ fun D' Γ' M' a' w' hK hS' => ?_
  refine ih D' Γ' M' hK Q tl (fun j hj => ?_) hQ _ _ hS'
  have:=hops (j+1) (by simpa using hj)
  rw [show i+1+j=i+(j+1) by omega]; simpa using this
theorem ai {D:List Deferred} {Γ:Ctx} {M:Mem} {id:Nat} {Q:Exit→Act→World→Prop}
  (h:Run P E ops false 0 D Γ M ops.toList (fun D' Γ' M'=>PJ E D' Γ' M' .normal Q)):J P E D Γ M (.region id ops false) Q:=by
 intro a w hS
 refine Aj ?_
 have:=h.seq (Q .normal) [] (fun j _=>by simp) (fun D' Γ' M' a w hK hS=>by simpa [Co.wpOpsX] using hK a w hS) a w hS
 simpa [List.range_eq_range'] using this
/-! ### Any order -/
def eJ (ops:Array Oper) (i j:Nat):Bool:=match ops[j]? with
 | some o => o.after.any fun e => Region.binds .any e && e.on == i
 | none => false
def dstOf (ops:Array Oper) (i:Nat):Option Tmp:=(ops[i]?).bind (·.dst)
def cR (ops:Array Oper) (i:Nat):List Tmp:=match ops[i]? with | some o=>iN ops o | none => []
def iF (ops:Array Oper) (i j:Nat):Bool :=
 (match dstOf ops i with | some t=>(cR ops j).contains t || dstOf ops j == some t | none=>false) ||
 (match dstOf ops j with | some t=>(cR ops i).contains t | none=>false)
def dX (n:Nat) (ops:Array Oper):Bool :=
 decide (n≤ops.size) &&
 ((List.range ops.size).all fun j =>
  (match ops[j]? with | some o=>o.after.all (fun e => !Region.binds .any e || decide (e.on<j)) | none=>true) &&
  ((List.range j).all fun i=>eJ ops i j || (decide (j<n) && !iF ops i j)))
theorem cu {n:Nat} (h:dX n ops=true) {i j:Nat} (hij:i<j) (hj:j<ops.size):eJ ops i j=true∨(j<n∧iF ops i j=false):=by
 simp only [dX,Bool.and_eq_true,List.all_eq_true,List.mem_range] at h
 have:=(h.2 j hj).2 i hij
 simpa using this
theorem vS {n:Nat} (h:dX n ops=true) {j:Nat} {o:Oper} (ho:ops[j]? = some o) {e:Edge} (he:e∈o.after) (hb:Region.binds .any e=true):e.on<j:=by
 simp only [dX,Bool.and_eq_true,List.all_eq_true,List.mem_range] at h
 have hj:j<ops.size:=by
  rcases Nat.lt_or_ge j ops.size with h | h
  ·exact h
  ·rw [Array.getElem?_eq_none h] at ho;cases ho
 have:=(h.2 j hj).1
 rw [ho] at this
 simp only [Array.all_eq_true'] at this
 have:=this e he
 simpa [hb] using this
structure Lst (ops:Array Oper) (l:Array Bool):Prop where
 size:l.size=ops.size
 closed : ∀ j,l.getD j false=true → ∀ i,eJ ops i j=true→l.getD i false=true
theorem c5 {l:Array Bool} {i:Nat} (h:i<l.size) (d d':Bool):l.getD i d=l.getD i d':=by
 simp [Array.getD_eq_getD_getElem?,h]
theorem bS {l:Array Bool} {j i:Nat} (hj:j∈Region.ready .any ops l) (hp:eJ ops i j=true):l.getD i false=true:=by
 unfold eJ at hp
 cases ho:ops[j]? with
 | none => rw [ho] at hp; cases hp
 | some o =>
  rw [ho] at hp
  simp only [Array.any_eq_true'] at hp
  obtain ⟨e,he,hh⟩:=hp
  simp only [Bool.and_eq_true,beq_iff_eq] at hh
  obtain ⟨o',ho',hall⟩:=(mem_ready.1 hj).2
  rw [ho] at ho';cases ho'
  rw [← hh.2]; exact hall e he hh.1
theorem Run.chain {i:Nat} {D:List Deferred} {Γ:Ctx} {M:Mem} {os:List Oper} {K:List Deferred→Ctx→Mem→Prop} {dr:Bool}
  (h:Run P E ops dr i D Γ M os K):dr=true → ∃ G:Nat→Ctx,G i=Γ∧K D (G (i+os.length)) M ∧ ∀ j o,os[j]? = some o→StepG P E (G (i+j)) M ops o (G (i+j+1)):=by
 induction h with
 | @nil dr i D Γ M K hK => intro _; exact ⟨fun _ => Γ, rfl, hK, fun j o h => by simp at h⟩
 | @act i D Γ M o os K K' _ _ _ => intro h; cases h
 | @conv i D Γ M Γ' M' os K _ _ _ => intro h; cases h
 | @step dr i D Γ M o os K Γ' hs _ ih =>
  intro hd
  obtain ⟨G,h0,hK,hG⟩:=ih hd
  refine ⟨fun j=>if j=i then Γ else G j,by simp,?_,fun j o' hj => ?_⟩
  ·have e1:i+(o :: os).length=i+1+os.length:=by simp only [List.length_cons]; omega
   have e2 : ¬ (i+(o :: os).length=i):=by simp only [List.length_cons]; omega
   show K D (if i+(o :: os).length=i then Γ else G (i+(o :: os).length)) M
   rw [if_neg e2,e1]; exact hK
  ·cases j with
   | zero =>
    simp only [List.getElem?_cons_zero,Option.some.injEq] at hj;subst hj
    simp only [Nat.add_zero,if_true]; rw [if_neg X,h0]; exact hs
   | succ j =>
    simp only [List.getElem?_cons_succ] at hj
    have:=hG j o' hj
    show StepG P E (if i+(j+1)=i then Γ else G (i+(j+1))) M ops o' (if i+(j+1)+1=i then Γ else G (i+(j+1)+1))
    rw [if_neg X,if_neg X,show i+(j+1)=i+1+j by omega]; exact this
def Inv (E:Env) (ops:Array Oper) (n:Nat) (G:Nat→Ctx) (M:Mem) (l:Array Bool) (a:Act) (w:World):Prop :=
 ∀ k,k≤n → ∀ t φ,bt (G k) t=some φ→(∀ j,j<k→dstOf ops j=some t→l.getD j false=true) →
  (∀ j,k≤j→j<ops.size→dstOf ops j=some t→l.getD j false=false)→φ.p (a.tmps.getD t undef) (hv E M w)
theorem di {n:Nat} {G:Nat→Ctx} {M:Mem} (hG : ∀ j o,j<n→ops[j]? = some o→StepG P E (G j) M ops o (G (j+1))) (hn:n≤ops.size) {t:Nat} {i k:Nat} (hik:i≤k) (hk:k≤n)
    (hno : ∀ j,i≤j→j<k→dstOf ops j≠some t):bt (G k) t=bt (G i) t:=by
  induction k with
  | zero => have : i = 0 := by omega
            subst this;rfl
  | succ k ih =>
    by_cases e:i=k+1
    · subst e;rfl
    · have hk':k<ops.size:=by omega
      have ho:ops[k]? = some ops[k]:=by simp [hk']
      obtain ⟨d, ψ,hd,_,hΓ,_⟩:=(hG k _ X ho).run ho
      rw [hΓ,aW]
      have hne:d≠t:=by
        intro h;subst h
        exact hno k X X (by simp [dstOf,ho,hd])
      rw [if_neg hne]
      exact ih X X (fun j h1 h2=>hno j h1 X)
theorem eL {i j:Nat} {t:Tmp} (hi:dstOf ops i=some t) (hj:dstOf ops j=some t):iF ops i j=true:=by
 simp [iF,hi,hj]
theorem dY {i j:Nat} {t:Tmp} (hi:dstOf ops i=some t) (hj:t∈cR ops j):iF ops i j=true:=by
 simp [iF,hi,hj]
theorem dF {i j:Nat} {t:Tmp} (hj:dstOf ops j=some t) (hi:t∈cR ops i):iF ops i j=true:=by
 simp [iF,hi,hj]
theorem aZ {l:Array Bool} {i j:Nat} (hi:i<l.size):(l.setIfInBounds i true).getD j false=(if i=j then true else l.getD j false):=by
 by_cases h:i=j
 ·subst h;simp [Array.getD_eq_getD_getElem?,hi]
 ·simp [Array.getD_eq_getD_getElem?,h]
def left (ops:Array Oper) (l:Array Bool):Nat:=((List.range ops.size).filter fun i => !l.getD i false).length
theorem dj {l:Array Bool} (hs:l.size=ops.size) {i:Nat} (hi:i<ops.size) (hl:l.getD i false=false):left ops (l.setIfInBounds i true)<left ops l:=by
 unfold left
 have hg : ∀ j,(l.setIfInBounds i true).getD j false=(if i=j then true else l.getD j false):=fun j=>aZ X
 generalize l.setIfInBounds i true=l' at hg
 have key : ∀ r:List Nat,(r.filter fun j => !l'.getD j false).length≤(r.filter fun j => !l.getD j false).length ∧
   (i∈r→(r.filter fun j => !l'.getD j false).length<(r.filter fun j => !l.getD j false).length):=by
  intro r
  induction r with
  | nil => simp
  | cons x r ih =>
   obtain ⟨ih1,ih2⟩:=ih
   rw [List.filter_cons,List.filter_cons,hg x]
   by_cases hx:i=x
   ·subst hx
    rw [if_pos Z,hl,if_neg (by simp),if_pos (by simp)]
    simp only [List.length_cons]; exact ⟨by omega,fun _=>by omega⟩
   ·rw [if_neg hx]
    have hm:i∈x :: r↔i∈r:=by simp [hx]
    rw [hm]
    split
    ·simp only [List.length_cons]; exact ⟨by omega,fun h=>by have:=ih2 h;omega⟩
    ·exact ⟨ih1,ih2⟩
 exact (key _).2 (by simpa using hi)
theorem cy {l:Array Bool} {j:Nat} (hj:j∈Region.ready .any ops l):j<ops.size:=by
 obtain ⟨_,o,ho,_⟩:=mem_ready.1 hj
 exact (Array.getElem?_eq_some_iff.1 ho).1
theorem j9 {n:Nat} (hok:dX n ops=true) {l:Array Bool} (hs:l.size=ops.size) {j:Nat} (hj:j<ops.size) (hl:l.getD j false=false) : ∃ i,i∈Region.ready .any ops l:=by
 induction j using Nat.strongRecOn with
 | _ j ih =>
  by_cases h:j∈Region.ready .any ops l
  ·exact ⟨j,h⟩
  ·have ho:ops[j]? = some ops[j]:=by simp [hj]
   rw [mem_ready] at h
   have h1:l.getD j true=false:=by rw [c5 X true false]; exact hl
   have h2 : ¬ ∀ e∈ops[j].after,Region.binds .any e=true→l.getD e.on false=true:=fun hall=>h ⟨h1,_,ho,hall⟩
   obtain ⟨e,h2⟩:=Classical.not_forall.1 h2
   obtain ⟨he,h2⟩:=Classical.not_imp.1 h2
   obtain ⟨hb,h2⟩:=Classical.not_imp.1 h2
   have hlt:=vS hok ho he hb
   exact ih e.on hlt X (by simpa using h2)
theorem uz {n:Nat} (hok:dX n ops=true) {G:Nat→Ctx} {M:Mem} {D:List Deferred} (hG : ∀ j o,j<n→ops[j]? = some o→StepG P E (G j) M ops o (G (j+1)))
  {Q:Act→World→Prop} (htail : ∀ a w,St E D (G n) M a w→Co.wpOpsX P ops Q (List.range' n (ops.size - n)) a w) :
  ∀ (fuel:Nat) (l:Array Bool) (a:Act) (w:World),Lst ops l→left ops l≤fuel→Base E M w→a.tmps.size=E.N→a.defers=D→Inv E ops n G M l a w →
   (∃ i,i<n∧l.getD i false=false)→Co.wpAnyX P .any ops Q fuel l a w:=by
 have hn:n≤ops.size:=by simp only [dX,Bool.and_eq_true] at hok;exact of_decide_eq_true hok.1
 -- the tail, once the head is done
 have tail : ∀ (m:Nat) (fuel:Nat) (l:Array Bool) (k:Nat) (a:Act) (w:World),k+m=ops.size→n≤k→Lst ops l→(∀ j,j<ops.size→(l.getD j false=true↔j<k))→m≤fuel →
   Co.wpOpsX P ops Q (List.range' k m) a w→Co.wpAnyX P .any ops Q fuel l a w:=by
  intro m
  induction m with
  | zero =>
   intro fuel l k a w hkm hnk hl hiff _ h
   have hr:Region.ready .any ops l = []:=by
    rw [List.eq_nil_iff_forall_not_mem]
    intro j hj
    have h1:=cy hj
    have h2:=(mem_ready.1 hj).1
    have h3:=(hiff j h1).2 X
    rw [c5 (by have:=hl.size;omega) true false,h3] at h2;cases h2
   have hq:Q a w:=by simpa [Co.wpOpsX] using h
   cases fuel with
   | zero => exact ⟨hr, hq⟩
   | succ f => exact ⟨fun _ => hq, fun i hi => by rw [hr] at hi; cases hi⟩
  | succ m ih =>
   intro fuel l k a w hkm hnk hl hiff hf h
   obtain ⟨f,rfl⟩ : ∃ f,fuel=f+1:=⟨fuel - 1,by omega⟩
   have hsz:=hl.size
   have hkl:l.getD k false=false:=by
    rw [← Bool.not_eq_true]; intro h';have:=(hiff k X).1 h';omega
   refine ⟨fun hr => ?_,fun i hi w₁ hw₁ => ?_⟩
   ·obtain ⟨i,hi⟩:=j9 hok hsz (j:=k) X hkl
    rw [hr] at hi;cases hi
   ·have hi1:=cy hi
    have hi2:=(mem_ready.1 hi).1
    rw [c5 X true false] at hi2
    have hik:k≤i:=by
     rcases Nat.lt_or_ge i k with h' | h'
     ·rw [(hiff i hi1).2 h'] at hi2;cases hi2
     ·exact h'
    have:i=k:=by
     rcases Nat.lt_or_ge k i with h' | h'
     ·rcases cu hok h' hi1 with hp | ⟨hp,_⟩
      ·have:=bS hi hp;rw [this] at hkl;cases hkl
      ·omega
     ·omega
    subst this
    rw [List.range'_succ] at h
    refine Co.wpOpX_mono (fun a' w' h' => ?_) (h w₁ hw₁)
    refine ih f _ (i+1) a' w' X X ⟨by simpa using hsz,?_⟩ ?_ X h'
    ·intro j hj i' hp
     rw [aZ X] at hj ⊢
     split
     ·rfl
     ·split at hj
      ·rename_i h1;subst h1;exact bS hi hp
      ·exact hl.closed j hj i' hp
    ·intro j hj
     rw [aZ X]
     split
     ·rename_i h1;subst h1;simp
     ·rename_i h1;rw [hiff j hj]; omega
 intro fuel
 induction fuel with
 | zero =>
  intro l a w hl hleft _ _ _ _ ⟨i,hi,hil⟩
  have:=dj (ops:=ops) hl.size (i:=i) X hil
  omega
 | succ fuel ih =>
  intro l a w hl hleft hbase hsz hdf hinv ⟨i0,hi0,hil0⟩
  have hls:=hl.size
  refine ⟨fun hr => ?_,fun i hi w₁ hw₁ => ?_⟩
  ·obtain ⟨i,hi⟩:=j9 hok hls (j:=i0) X hil0
   rw [hr] at hi;cases hi
  ·have hi1:=cy hi
   have hi2:l.getD i false=false:=by
    have:=(mem_ready.1 hi).1
    rw [c5 X true false] at this;exact this
   have hin:i<n:=by
    rcases Nat.lt_or_ge i n with h' | h'
    ·exact h'
    ·rcases cu hok (i:=i0) (j:=i) X hi1 with hp | ⟨hp,_⟩
     ·have:=bS hi hp;rw [this] at hil0;cases hil0
     ·omega
   have ho:ops[i]? = some ops[i]:=by simp [hi1]
   obtain ⟨d, ψ,hd,hN,hΓ,hrun⟩:=(hG i _ hin ho).run ho
   have hdi:dstOf ops i=some d:=by simp [dstOf,ho,hd]
   replace hbase:=hbase.ext hw₁
   replace hinv:Inv E ops n G M l a w₁:=fun k hk t φ h1 h2 h3=>φ.mono (Base.hv_ext hw₁) (hinv k hk t φ h1 h2 h3)
   refine hrun a _ hbase (fun t φ ht hlk => ?_) _ fun v w' k hv' => ?_
   ·refine hinv i X t φ hlk (fun j hj hdj => ?_) (fun j hj hjs hdj => ?_)
    ·rcases cu hok hj hi1 with hp | ⟨_,hp⟩
     ·exact bS hi hp
     ·rw [dY hdj (by simpa [cR,ho] using ht)] at hp;cases hp
    ·rcases Nat.lt_or_ge i j with h' | h'
     ·rw [← Bool.not_eq_true]; intro hlj
      rcases cu hok h' hjs with hp | ⟨_,hp⟩
      ·have:=hl.closed j hlj i hp;rw [this] at hi2;cases hi2
      ·rw [dF hdj (by simpa [cR,ho] using ht)] at hp;cases hp
     ·have:j=i:=by omega
      subst this;exact hi2
   ·have hl':Lst ops (l.setIfInBounds i true):=by
     refine ⟨by simpa using hls,fun j hj i' hp => ?_⟩
     rw [aZ X] at hj ⊢
     split
     ·rfl
     ·split at hj
      ·rename_i h1;subst h1;exact bS hi hp
      ·exact hl.closed j hj i' hp
    have hbase':=hbase.ext k
    have hsz':(a.put (some d) v).tmps.size=E.N:=by simp [Act.put,hsz]
    have hinv':Inv E ops n G M (l.setIfInBounds i true) (a.put (some d) v) w':=by
     intro k' hk' t φ hlk hlo hhi
     by_cases htd:d=t
     ·subst htd
      have hik:i<k':=by
       rcases Nat.lt_or_ge i k' with h' | h'
       ·exact h'
       ·have:=hhi i h' hi1 hdi;rw [aZ X] at this;simp at this
      have hno : ∀ j,i+1≤j→j<k'→dstOf ops j≠some d:=by
       intro j h1 h2 hdj
       have h3:=hlo j h2 hdj
       rw [aZ X,if_neg X] at h3
       rcases cu hok (i:=i) (j:=j) X X with hp | ⟨_,hp⟩
       ·have:=hl.closed j h3 i hp;rw [this] at hi2;cases hi2
       ·rw [eL hdi hdj] at hp;cases hp
      rw [di hG hn (i:=i+1) X hk' hno,hΓ,aW,if_pos Z] at hlk
      cases hlk
      rw [be (by rw [hsz]; exact hN)]; exact hv'
     ·rw [aP htd]
      refine φ.mono (Base.hv_ext k) (hinv k' hk' t φ hlk (fun j hj hdj => ?_) (fun j hj hjs hdj => ?_))
      ·have:=hlo j hj hdj;rw [aZ X] at this
       split at this
       ·rename_i h1;subst h1;rw [hdi] at hdj;cases hdj;exact absurd Z htd
       ·exact this
      ·have:=hhi j hj hjs hdj;rw [aZ X] at this
       split at this
       ·cases this
       ·exact this
    have hleft':=dj (ops:=ops) hls hi1 hi2
    by_cases hmore : ∃ i',i'<n∧(l.setIfInBounds i true).getD i' false=false
    ·exact ih _ _ _ hl' X hbase' hsz' hdf hinv' hmore
    ·have hall : ∀ j,j<n→(l.setIfInBounds i true).getD j false=true:=by
      intro j hj;rw [← Bool.not_eq_false]; intro h;exact hmore ⟨j,hj,h⟩
     have hlate : ∀ j,n≤j→j<ops.size→(l.setIfInBounds i true).getD j false=false:=by
      intro j hj hjs
      rw [aZ X,if_neg X, ← Bool.not_eq_true]
      intro hlj
      rcases cu hok (i:=i) (j:=j) X hjs with hp | ⟨hp,_⟩
      ·have:=hl.closed j hlj i hp;rw [this] at hi2;cases hi2
      ·omega
     have hSt:St E D (G n) M (a.put (some d) v) w' :=
      ⟨hbase',hsz',hdf,fun t φ hlk=>hinv' n (Nat.le_refl _) t φ hlk (fun j hj _=>hall j hj) (fun j hj hjs _=>hlate j hj hjs)⟩
     refine tail (ops.size - n) fuel _ n _ w' X (Nat.le_refl _) hl' (fun j hj => ?_) ?_ (htail _ _ hSt)
     ·constructor
      ·intro h;rcases Nat.lt_or_ge j n with h' | h'
       ·exact h'
       ·rw [hlate j h' hj] at h;cases h
      ·exact hall j
     ·have:ops.size - n≤left ops (l.setIfInBounds i true):=by
       unfold left
       have h1:(List.range' n (ops.size - n)).Sublist ((List.range ops.size).filter fun i' => !(l.setIfInBounds i true).getD i' false):=by
        have h2:((List.range' n (ops.size - n)).filter fun i' => !(l.setIfInBounds i true).getD i' false)=List.range' n (ops.size - n):=by
         rw [List.filter_eq_self]
         intro j hj;rw [List.mem_range'_1] at hj
         rw [hlate j X X]; rfl
        rw [← h2]
        refine List.Sublist.filter _ ?_
        have h3:List.range ops.size=List.range' 0 n ++ List.range' n (ops.size - n):=by
         have := @List.range'_append 0 n (ops.size - n) 1
         rw [List.range_eq_range']
         simp only [Nat.one_mul,Nat.zero_add] at this
         rw [this]; congr 1;omega
        rw [h3]; exact List.sublist_append_right _ _
       have:=h1.length_le;simpa using this
      omega
theorem bG {D:List Deferred} {Γ:Ctx} {M:Mem} {id:Nat} {Q:Exit→Act→World→Prop} (n:Nat) (hm:P.follows .mixedOrders=true) (hok:dX n ops=true) (hn0:0<n)
  (h:Run P E ops true 0 D Γ M (ops.toList.take n) (fun D' Γ' M'=>Run P E ops false n D' Γ' M' (ops.toList.drop n) (fun D' Γ' M'=>PJ E D' Γ' M' .normal Q))):J P E D Γ M (.region id ops true) Q:=by
 intro a w hS
 have hn:n≤ops.size:=by simp only [dX,Bool.and_eq_true] at hok;exact of_decide_eq_true hok.1
 refine dM hm fun w₁ hw₁ => ?_
 have k:Ext w { w₁ with drawn:=w₁.drawn+1 } := hw₁.trans ⟨rfl,rfl,rfl,Nat.le_refl _,fun _ _=>rfl⟩
 obtain ⟨G,hG0,hK,hG⟩:=h.chain Z
 have hlen:(ops.toList.take n).length=n:=by simp [hn]
 rw [hlen,Nat.zero_add] at hK
 refine uz (D:=D) hok (G:=G) (M:=M) (fun j o hj ho => ?_) (fun a' w' hS' => ?_) ops.size _ a _ ⟨by simp,fun j hj => ?_⟩ ?_ (hS.base.ext k) hS.sz hS.df ?_ ⟨0,hn0,?_⟩
 ·have:=hG j o (by rw [List.getElem?_take,if_pos hj]; simpa using ho)
  simpa using this
 ·have:=hK.seq (Q .normal) [] (fun j _=>by simp [List.getElem?_drop]) (fun D' Γ' M' a w hK hS=>by simpa [Co.wpOpsX] using hK a w hS) a' w' hS'
  simpa using this
 ·simp [Array.getD_eq_getD_getElem?,Array.getElem?_replicate] at hj;split at hj <;> simp at hj
 ·unfold left;refine Nat.le_trans (List.length_filter_le _ _) (by simp)
 ·intro k' hk' t φ hlk hlo _
  have hno : ∀ j,0≤j→j<k'→dstOf ops j≠some t:=by
   intro j _ hj hd
   have:=hlo j hj hd
   simp [Array.getD_eq_getD_getElem?,Array.getElem?_replicate] at this;split at this <;> simp at this
  rw [di (fun j o hj ho=>by have:=hG j o (by rw [List.getElem?_take,if_pos hj]; simpa using ho);simpa using this) hn (Nat.zero_le _) hk' hno,hG0] at hlk
  exact φ.mono (Base.hv_ext k) (hS.tm t φ hlk)
 ·simp [Array.getD_eq_getD_getElem?,Array.getElem?_replicate]; split <;> rfl
end
end Tor
end
section
namespace Tor
open Go Go.RowKit
variable [Tor.Co.Kc]
/-! ### What a program says of its types -/
def yt:TypeDesc→Bool
 | .struct _ | .array _ _ => true
 | _ => false
def Lay.isAgg:Lay→Bool
 | .one => false
 | .agg _ => true
class LayOf (P:Program) (T:TypeId) (L:outParam Lay):Prop where
 sz:(P.info? T).map (·.size)=some L.sz
 ag:(P.underlying T).map yt=some L.isAgg
class ZeroOf (P:Program) (T:TypeId) (z:outParam Value) (bytes:outParam Nat):Prop where
 zb:(P.info? T).map (fun i=>(i.zero,i.bytes))=some (some z,bytes)
class SliceOf (P:Program) (T:TypeId) (e:outParam TypeId):Prop where
 und:P.underlying T=some (.slice e)
class ArrayOf (P:Program) (T:TypeId) (n:outParam Nat) (e:outParam TypeId):Prop where
 und:P.underlying T=some (.array n e)
class IntOf (P:Program) (T:TypeId) (k:outParam IntKind):Prop where
 und:P.underlying T=some (.int k)
class FieldOf (P:Program) (T:TypeId) (i:Nat) (off:outParam Nat) (L:outParam Lay):Prop where
 ex : ∃ fs f,P.underlying T=some (.struct fs)∧fs[i]? = some f∧f.offset=off∧LayOf P f.type L∧L.sz≠0
def nD (P:Program) (T:TypeId) (i:Nat):Option (Nat × TypeId) :=
 match P.underlying T with
 | some (.struct fs) => (fs[i]?).map fun f => (f.offset, f.type)
 | _ => none
theorem FieldOf.by_info {P:Program} {T:TypeId} {i off:Nat} {ft:TypeId} {L:Lay} (hL:LayOf P ft L) (h:nD P T i=some (off,ft)) (hs:L.sz≠0):FieldOf P T i off L where
 ex:=by
  unfold nD at h
  split at h
  ·rename_i fs hfs
   cases hf:fs[i]? with
   | none => rw [hf] at h; cases h
   | some f =>
    rw [hf] at h;simp only [Option.map_some,Option.some.injEq,Prod.mk.injEq] at h
    obtain ⟨h1,h2⟩:=h
    subst h2
    exact ⟨fs,f,hfs,hf,h1,hL,hs⟩
  ·cases h
section
variable {P:Program} {E:Env} {Γ:Ctx} {M:Mem} {d:Option Tmp} {ty:TypeId} {pos:String} {af:Array Edge} {gd:Option (Nat × Bool)}
theorem LayOf.info {T:TypeId} {L:Lay} (h:LayOf P T L) : ∃ i,P.info? T=some i∧i.size=L.sz:=by
 have:=h.sz
 cases hi:P.info? T with
 | none => rw [hi] at this; cases this
 | some i => rw [hi] at this; exact ⟨i, rfl, by simpa using this⟩
theorem LayOf.und {T:TypeId} {L:Lay} (h:LayOf P T L) : ∃ d,P.underlying T=some d∧yt d=L.isAgg:=by
 have:=h.ag
 cases hi:P.underlying T with
 | none => rw [hi] at this; cases this
 | some i => rw [hi] at this; exact ⟨i, rfl, by simpa using this⟩
theorem ZeroOf.info {T:TypeId} {z:Value} {b:Nat} (h:ZeroOf P T z b) : ∃ i,P.info? T=some i∧i.zero=some z∧i.bytes=b:=by
 have:=h.zb
 cases hi:P.info? T with
 | none => rw [hi] at this; cases this
 | some i => rw [hi] at this; simp at this; exact ⟨i, rfl, this.1, this.2⟩
/-! ### Runs of the model's small steps -/
theorem fS {T:TypeId} {i:TypeInfo} (h:P.info? T=some i) (w:World):(typeInfo T).run P w = .ok i w:=by
 simp [typeInfo,program,h,Sem.run,pure,Bind.bind,Sem.bind]
theorem aO {T:TypeId} {d:TypeDesc} (h:P.underlying T=some d) (w:World):(underlying T).run P w = .ok d w:=by
 simp [underlying,program,h,Sem.run,pure,Bind.bind,Sem.bind]
theorem cX {b o n:Nat} : (⟨b,o,none⟩:Addr).add n=⟨b,o+n,none⟩:=by
 unfold Addr.add;split <;> simp_all
theorem nE {T:TypeId} {L:Lay} [h:LayOf P T L] (w:World):(isAgg T).run P w = .ok L.isAgg w:=by
 obtain ⟨d,hd,hL⟩:=h.und
 unfold isAgg
 rw [Sem.run_bind,aO hd w]
 cases d <;> simp_all [yt]
theorem cn {T:TypeId} {L:Lay} [h:LayOf P T L] (w:World):(Go.sizeOf T).run P w = .ok L.sz w:=by
 obtain ⟨i,hi,hs⟩:=h.info
 simp [Go.sizeOf,Sem.run_bind,fS hi,hs]
theorem dk {T T':TypeId} {L:Lay} [h:LayOf P T L] {w:World} {b o:Nat} {c:Array Value} {f:Nat × Nat} {x:Value}
  (hb:view w b=some (c,T',f)) (hx:bP L c o=some x):(loadVar T ⟨b,o,none⟩).run P w = .ok x w:=by
 unfold loadVar
 rw [Sem.run_bind,nE (L:=L)]
 cases L with
 | one =>
  have:w.cell? ⟨b,o,none⟩=some x:=by rw [jm hb]; exact hx
  simp [Lay.isAgg,run_load,this]
 | agg n =>
  simp only [bP] at hx
  split at hx
  ·rename_i hle
   cases hx
   have hl:=run_loadCells (P:=P) w ⟨b,o,none⟩ n (fun j=>c.getD (o+j) undef) (fun j hj=>by
    rw [cX,jm hb,Array.getD_eq_getD_getElem?]
    have:o+j<c.size:=by omega
    simp [this])
   have he:((List.range n).map fun j=>c.getD (o+j) undef).toArray=c.extract o (o+n):=by
    apply Array.ext
    ·simp;omega
    ·intro i h1 h2
     simp at h1
     have:o+i<c.size:=by omega
     simp [Array.getD_eq_getD_getElem?,this]
   rw [he] at hl
   simp only [Lay.isAgg,Result.andThen_ok,if_true,Sem.run_bind,cn (L := .agg n),Lay.sz,hl,Sem.run_pure]
  ·cases hx
def ct (c:Array Value) (o:Nat) (vs:Array Value):Array Value:=(c.toList.take o ++ vs.toList ++ c.toList.drop (o+vs.size)).toArray
theorem cP {c vs:Array Value} {o:Nat} (h:o+vs.size≤c.size):(ct c o vs).size=c.size:=by
 simp [ct]; omega
theorem dT {c vs:Array Value} {o:Nat} (h:o+vs.size≤c.size) (j:Nat):(ct c o vs)[j]? = if o≤j∧j<o+vs.size then vs[j - o]? else c[j]? := by
 have hm:min o c.size=o:=by omega
 simp only [ct,List.getElem?_toArray,List.getElem?_append,List.length_take,List.length_append,Array.length_toList,List.getElem?_take,List.getElem?_drop,Array.getElem?_toList,hm]
 by_cases h1:j<o+vs.size
 ·rw [if_pos h1]
  by_cases h2:j<o
  ·rw [if_pos h2,if_pos h2,if_neg X]
  ·rw [if_neg h2,if_pos X]
 ·rw [if_neg h1,if_neg X]; congr 1;omega
theorem cI (c:Array Value) (o n j:Nat):(c.extract o (o+n))[j]? = if j<n then c[o+j]? else none:=by
 rw [Array.getElem?_extract]
 by_cases h1:j<n
 ·rw [if_pos h1]
  by_cases h2:o+j<c.size
  ·rw [if_pos X]
  ·rw [if_neg X,Array.getElem?_eq_none X]
 ·rw [if_neg h1,if_neg X]
theorem dq {T T':TypeId} {L:Lay} [h:LayOf P T L] {w:World} {b o:Nat} {c:Array Value} {v:Value}
  (hb:view w b=some (c,T',(0,0))) (hs:v.cells.size=L.sz) (ho:o+L.sz≤c.size) (h1:v.cells.all (·.oneCell')=true) :
  (storeVar T ⟨b,o,none⟩ v).run P w = .ok () (w.setRow b (ct c o v.cells)):=by
 unfold storeVar
 rw [Sem.run_bind,cn (L:=L)]
 simp only [Result.andThen_ok,hs,ne_eq,not_true,if_false]
 have:=run_storeCells_at (P:=P) b o T' v.cells.toList 0 c w (dS hb) (by simp;omega) (fun x hx=>(Array.all_eq_true_iff_forall_mem.1 h1) x (by simpa using hx))
 simp only [Nat.add_zero,Array.length_toList] at this
 simpa [ct] using this
/-! ### Values by their cells -/
theorem dN {L:Lay} {c:Array Value} {o:Nat} {v:Value} (ho:o+L.sz≤c.size) (hs:v.cells.size=L.sz) (hv:bP L v.cells 0=some v) :
  bP L (ct c o v.cells) o=some v:=by
 cases L with
 | one =>
  simp only [bP,Lay.sz] at *
  rw [dT X,if_pos X]; simpa using hv
 | agg n =>
  simp only [bP,Lay.sz] at *
  have h1:0+n≤v.cells.size:=by omega
  rw [if_pos h1] at hv
  rw [cP X,if_pos ho]
  have he:v.cells.extract 0 n=v.cells:=by
   apply Array.ext_getElem?; intro i
   have:=cI v.cells 0 n i
   rw [Nat.zero_add] at this
   rw [this]; split
   ·rw [Nat.zero_add]
   ·rw [Array.getElem?_eq_none X]
  rw [← hv,Nat.zero_add,he]; congr 2
  apply Array.ext_getElem?; intro i
  rw [cI,dT X]
  by_cases h2:i<n
  ·rw [if_pos h2,if_pos X]; congr 1;omega
  ·rw [if_neg h2,Array.getElem?_eq_none X]
theorem dg {L':Lay} {c vs:Array Value} {o o':Nat} (ho:o+vs.size≤c.size) (hd:o'+L'.sz≤o∨o+vs.size≤o') :
  bP L' (ct c o vs) o'=bP L' c o':=by
 cases L' with
 | one =>
  simp only [bP,Lay.sz] at *
  rw [dT ho,if_neg X]
 | agg n =>
  simp only [bP,Lay.sz] at *
  rw [cP ho]
  split
  ·congr 2
   apply Array.ext_getElem?; intro i
   rw [cI,cI]
   split
   ·rw [dT ho,if_neg X]
   ·rfl
  ·rfl
end
end Tor
end
section
namespace Tor
open Go Go.RowKit
variable [Co.Kc]
section
variable {P:Program} {E:Env} {Γ:Ctx} {M:Mem} {d:Option Tmp} {ty:TypeId} {pos:String} {af:Array Edge} {gd:Option (Nat × Bool)}
def PlO (P:Program) (E:Env) (Γ:Ctx) (M:Mem) (o:Oper):Prop :=
 ∀ (a:Act) (w:World),Base E M w→(∀ x φ,x∈o.op.operands→aB Γ x=some φ→φ.p (a.eval x) (hv E M w))→Co.valK o.op=true→Co.Plain P (execOp a.eval o)
open Co in
theorem eE {op:BinOp} {T T':TypeId} {x y:Operand} {k k':IntKind} {a b:Int} (hx:aB Γ x=some (one (.int k a))) (hy:aB Γ y=some (one (.int k' b))):PlO P E Γ M ⟨d, .binOp op T x y T',ty,pos,af,gd⟩:=fun ac w hb hf _=>by
 have hx':ac.eval x = .int k a:=hf x _ (by simp [Op.operands]) hx
 have hy':ac.eval y = .int k' b:=hf y _ (by simp [Op.operands]) hy
 refine Plain.bind (Plain.bind ?_ fun _ => ?_) fun _=>pl_ret _
 ·rw [hx',hy']; unfold eqGuard;split <;> exact pl_ret _
 ·rw [hx',hy']
  unfold binOp
  cases op <;> (try unfold Op.shift) <;> (try unfold Op.intArith) <;> (try unfold Op.intDiv) <;> (try unfold Op.intBits) <;> (try unfold Op.intCmp) <;> dsimp only <;> (repeat' first | exact Tor.Co.pl_ret _ | exact Tor.Co.pl_stk _ | exact Tor.Co.pl_uns _ | exact Tor.Co.pl_prog | exact Tor.Co.pl_ld _ | exact Tor.Co.pl_st _ _ | exact Tor.Co.pl_ch _ | exact Tor.Co.pl_rt _ | exact Tor.Co.pl_bounds _ _ _ _ | exact Tor.Co.pl_info _ | exact Tor.Co.pl_und _ | exact Tor.Co.pl_zero _ | exact Tor.Co.pl_size _ | exact Tor.Co.pl_agg _ | exact Tor.Co.pl_lvar _ _ | exact Tor.Co.pl_svar _ _ _ | exact Tor.Co.pl_row _ _ | exact Tor.Co.pl_part _ _ _ | exact Tor.Co.pl_room' _ | exact Tor.Co.pl_intOf _ | exact Tor.Co.pl_int _ | exact Tor.Co.pl_bool _ | exact Tor.Co.pl_sure _ | exact Tor.Co.pl_addr _ | exact Tor.Co.pl_lcf _ _ _ _ | exact Tor.Co.pl_stc _ _ _ | apply Tor.Co.Plain.bind | intro _ | split | dsimp only)
open Co in
theorem eU {α:Type} {T:TypeId} {t:TypeDesc} {f:TypeDesc→Sem α} (h:P.underlying T=some t) (hf:Plain P (f t)):Plain P (underlying T >>= f):=by
 show Plain P (.program _)
 refine .program ?_
 show Plain P (Sem.bind (match P.underlying T with | some d=>pure d | none=>stuck "no such type") f)
 rw [h]; exact hf
open Co in
theorem rK {T:TypeId} {i off:Nat} {L:Lay} (h:FieldOf P T i off L) (v:Value):Plain P (Instr.fieldAt T v i):=by
 obtain ⟨fs,f,h1,h2,h3,h4,h5⟩:=h.ex
 obtain ⟨fi,h6,h7⟩:=h4.info
 unfold Instr.fieldAt
 refine eU h1 ?_
 simp only [h2]
 refine Plain.bind (pl_sure _) fun a=>Plain.bind ?_ fun _=>pl_ret _
 unfold fieldPlace
 show Plain P (.program _)
 refine .program ?_
 show Plain P (Sem.bind (Sem.bind (match P.info? f.type with | some i=>pure i | none=>stuck "no such type") _) _)
 rw [h6]
 show Plain P (if fi.size=0 then _ else _)
 rw [h7,if_neg h5]; exact pl_ret _
theorem mh {T:TypeId} {fi off:Nat} {L:Lay} [hF:FieldOf P T fi off L] {x:Operand} : PlO P E Γ M ⟨d, .fieldAddr T x fi,ty,pos,af,gd⟩:=fun ac w hb hf _=>(rK hF _).bind fun _=>Co.pl_ret _
open Co in
theorem rL {T e:TypeId} [hS:SliceOf P T e] {x:Operand} {af:Array Edge} : PlO P E Γ M ⟨d, .call ⟨.builtin .len, #[x], #[T]⟩,ty,pos,af,gd⟩:=fun ac w hb hf _=>by
 suffices h : ∀ c,Plain P (builtin .len #[T] ty c (Array.map ac.eval #[x])) from h #[]
 intro c
 rw [show Array.map ac.eval #[x] = #[ac.eval x] from by simp]
 unfold builtin
 refine Plain.bind ?_ fun _=>pl_ret _
 unfold Builtin.len_
 simp only [List.getElem?_toArray,List.getElem?_cons_zero]
 refine eU hS.und ?_
 split <;> first | (first | exact Tor.Co.pl_ret _ | exact Tor.Co.pl_stk _ | exact Tor.Co.pl_uns _ | exact Tor.Co.pl_prog | exact Tor.Co.pl_ld _ | exact Tor.Co.pl_st _ _ | exact Tor.Co.pl_ch _ | exact Tor.Co.pl_rt _ | exact Tor.Co.pl_bounds _ _ _ _) | contradiction | simp_all
theorem aC.ofRun' {o:Oper} {ψ:VT} (h : ∀ (a:Act) (w:World),Base E M w→(∀ x φ,x∈o.op.operands→aB Γ x=some φ→φ.p (a.eval x) (hv E M w)) →
  ∃ v w',(execOp a.eval o).run P w = .ok (.value v) w'∧Ext w w'∧ψ.p v (hv E M w')) (hp:PlO P E Γ M o:=by intro _ _ _ _ h;cases h):aC P E Γ M o ψ:=by
 intro a w hb hf next hn
 obtain ⟨v,w',hr,he,hp'⟩:=h a w hb hf
 refine ⟨hp a w hb hf,?_⟩
 rw [hr]; exact hn v w' he hp'
theorem aC.ofRun {o:Oper} {ψ:VT} (h : ∀ (a:Act) (w:World),Base E M w→(∀ x φ,x∈o.op.operands→aB Γ x=some φ→φ.p (a.eval x) (hv E M w)) →
  ∃ v,(execOp a.eval o).run P w = .ok (.value v) w∧ψ.p v (hv E M w)) (hp:PlO P E Γ M o:=by intro _ _ _ _ h;cases h):aC P E Γ M o ψ :=
 aC.ofRun' (fun a w hb hf=>let ⟨v,hr,hp⟩:=h a w hb hf;⟨v,w,hr,Ext.refl w,hp⟩) hp
theorem ab {x:Operand} {φ:VT} (hx:aB Γ x=some φ):aC P E Γ M ⟨d, .move x,ty,pos,af,gd⟩ φ :=
 aC.ofRun fun a w hb hf=>⟨a.eval x,by simp [execOp],hf x φ (by simp [Op.operands]) hx⟩
theorem ah {x:Operand} {φ:VT} (hx:aB Γ x=some φ):aC P E Γ M ⟨d, .assign x,ty,pos,af,gd⟩ φ :=
 aC.ofRun fun a w hb hf=>⟨a.eval x,by simp [execOp],hf x φ (by simp [Op.operands]) hx⟩
/-! ### Loads -/
theorem aY {T:TypeId} {L:Lay} [LayOf P T L] {x:Operand} {φ:VT} (hx:aB Γ x=some (bL L φ)):aC P E Γ M ⟨d, .load T x,ty,pos,af,gd⟩ φ :=
 aC.ofRun fun a w hb hf=>by
  obtain ⟨b,o,c,T',f,v,hv',hc,hx',hp⟩:=hf x _ (by simp [Op.operands]) hx
  refine ⟨v,?_,hp⟩
  simp only [execOp,hv',Instr.loadAt,Instr.sureAddr,Sem.run_bind,Sem.run_pure,Result.andThen_ok,dk (vQ _ _ _ _ hc) hx']
def eP (b j sz:Nat):VT:=one (.pointer (some ⟨b,j*sz,none⟩))
theorem dA {M:Mem} {w:World} (hb:Base E M w) {i:Nat} {o:Own} (hM:M[i]? = some o):o.p (raw w) (hv E M w):=hb.mem o (List.mem_of_getElem? hM)
theorem bM {T T':TypeId} {L:Lay} [LayOf P T L] {x:Operand} {b j cap n:Nat} {φ:Nat→VT} (i:Nat) (hx:aB Γ x=some (eP b j L.sz)) (hM:M[i]? = some (aH (some b) T' L cap n φ)) (hj:j<n) :
  aC P E Γ M ⟨d, .load T x,ty,pos,af,gd⟩ (φ j) :=
 aC.ofRun fun a w hb hf=>by
  have h1:a.eval x = .pointer (some ⟨b,j*L.sz,none⟩):=hf x _ (by simp [Op.operands]) hx
  obtain ⟨_,_,_,h4⟩:=dA hb hM
  obtain ⟨c,hc,_,he⟩:=h4 b Z
  obtain ⟨v,hx',hp⟩:=he j hj
  refine ⟨v,?_,hp⟩
  simp only [execOp,h1,Instr.loadAt,Instr.sureAddr,Sem.run_bind,Sem.run_pure,Result.andThen_ok,dk hc hx']
def fP:bW→Nat→Option (Lay × VT)
 | [], _ => none
 | (k, l, v) :: r, t => bif Nat.beq k t then some (l, v) else fP r t
theorem dU : ∀ {cs:bW} {t:Nat} {l:Lay} {v:VT},fP cs t=some (l,v)→(t,l,v)∈cs
 | [], _, _, _, h => by cases h
 | (k, l', v') :: r, t, l, v, h => by
  rw [fP] at h
  by_cases e:Nat.beq k t=true
  ·rw [e] at h;simp only [cond_true,Option.some.injEq,Prod.mk.injEq] at h
   have:=Nat.eq_of_beq_eq_true e;subst this;rw [h.1,h.2]; exact List.mem_cons_self
  ·have e':Nat.beq k t=false:=by cases h':Nat.beq k t with | true=>exact absurd h' e | false=>rfl
   rw [e'] at h;exact List.mem_cons_of_mem _ (dU h)
theorem am {T T':TypeId} {L:Lay} [LayOf P T L] {x:Operand} {b o m:Nat} {cs:bW} {φ:VT} (i:Nat) (hx:aB Γ x=some (one (.pointer (some ⟨b,o,none⟩)))) (hM:M[i]? = some (aT b T' m cs)) (hl:fP cs o=some (L, φ)) :
  aC P E Γ M ⟨d, .load T x,ty,pos,af,gd⟩ φ :=
 aC.ofRun fun a w hb hf=>by
  have h1:a.eval x = .pointer (some ⟨b,o,none⟩):=hf x _ (by simp [Op.operands]) hx
  obtain ⟨c,hc,_,_,hcs⟩:=dA hb hM
  obtain ⟨v,hx',hp⟩:=hcs _ (dU hl)
  refine ⟨v,?_,hp⟩
  simp only [execOp,h1,Instr.loadAt,Instr.sureAddr,Sem.run_bind,Sem.run_pure,Result.andThen_ok,dk hc hx']
theorem bI {T T':TypeId} {m:Nat} [LayOf P T (.agg m)] {x:Operand} {b:Nat} {cs:bW} (i:Nat) (hx:aB Γ x=some (one (.pointer (some ⟨b,0,none⟩)))) (hM:M[i]? = some (aT b T' m cs)) :
  aC P E Γ M ⟨d, .load T x,ty,pos,af,gd⟩ (bE m cs) :=
 aC.ofRun fun a w hb hf=>by
  have h1:a.eval x = .pointer (some ⟨b,0,none⟩):=hf x _ (by simp [Op.operands]) hx
  obtain ⟨c,hc,hs,ha,hcs⟩:=dA hb hM
  refine ⟨.agg c,?_,c,rfl,hs,ha,hcs⟩
  have hx':bP (.agg m) c 0=some (.agg c):=by simp [bP, ← hs]
  simp only [execOp,h1,Instr.loadAt,Instr.sureAddr,Sem.run_bind,Sem.run_pure,Result.andThen_ok,dk hc hx']
/-! ### Fields -/
theorem pR {T:TypeId} {i off:Nat} {L:Lay} (h:FieldOf P T i off L) {b o:Nat} (w:World):(Instr.fieldAt T (.pointer (some ⟨b,o,none⟩)) i).run P w = .ok (.pointer (some ⟨b,o+off,none⟩)) w:=by
 obtain ⟨fs,f,h1,h2,h3,h4,h5⟩:=h.ex
 have hs:(Go.sizeOf f.type).run P w = .ok L.sz w:=cn w
 unfold Instr.fieldAt
 rw [Sem.run_bind,aO h1]
 simp only [Result.andThen_ok,h2,Instr.sureAddr,Sem.run_bind,Sem.run_pure,fieldPlace,hs,h5,if_false,cX,h3]
theorem aj {T:TypeId} {fi off:Nat} {L:Lay} [hF:FieldOf P T fi off L] {x:Operand} {b o:Nat} (hx:aB Γ x=some (one (.pointer (some ⟨b,o,none⟩)))) :
  aC P E Γ M ⟨d, .fieldAddr T x fi,ty,pos,af,gd⟩ (one (.pointer (some ⟨b,o+off,none⟩))) :=
 aC.ofRun (hp:=mh) fun a w hb hf=>by
  have h1:a.eval x = .pointer (some ⟨b,o,none⟩):=hf x _ (by simp [Op.operands]) hx
  refine ⟨_,?_,rfl⟩
  simp only [execOp,h1,Sem.run_bind,pR hF,Result.andThen_ok,Sem.run_pure]
theorem pS {T:TypeId} {L:Lay} [h:LayOf P T L] {c:Array Value} {o:Nat} {x:Value} (hx:bP L c o=some x) (w:World):(part T c o).run P w = .ok x w:=by
 unfold part
 rw [Sem.run_bind,nE (L:=L)]
 cases L with
 | one => simp only [bP] at hx; simp [Lay.isAgg, hx]
 | agg n =>
  simp only [bP] at hx
  split at hx
  ·cases hx;simp only [Lay.isAgg,Result.andThen_ok,if_true,Sem.run_bind,cn (L := .agg n),Lay.sz,Sem.run_pure]
  ·cases hx
theorem th {T:TypeId} {fi off m:Nat} {L:Lay} [hF:FieldOf P T fi off L] {x:Operand} {cs:bW} {φ:VT} (hx:aB Γ x=some (bE m cs)) (hl:fP cs off=some (L, φ)) :
  aC P E Γ M ⟨d, .field T x fi,ty,pos,af,gd⟩ φ :=
 aC.ofRun fun a w hb hf=>by
  obtain ⟨c,hv',hs,ha,hcs⟩:=hf x _ (by simp [Op.operands]) hx
  obtain ⟨y,hy,hp⟩:=hcs _ (dU hl)
  obtain ⟨fs,f,h1,h2,h3,h4,h5⟩:=hF.ex
  subst h3
  refine ⟨y,?_,hp⟩
  have h6:=pS (P:=P) (T:=f.type) hy w
  simp only [execOp,hv',Instr.field,Sem.run_bind,aO h1,Result.andThen_ok,h2,asAgg,Sem.run_pure,h6]
theorem pT : ∀ {φs:List VT} {vs:List Value} {h:Hp} {i:Nat} {φ:VT},fb φs vs h→φs[i]? = some φ → ∃ v,vs[i]? = some v∧φ.p v h
 | [], [], _, _, _, _, e => by simp at e
 | φ :: φs, v :: vs, h, 0, ψ, ⟨a, _⟩, e => by simp at e; subst e; exact ⟨v, rfl, a⟩
 | φ :: φs, v :: vs, h, i + 1, ψ, ⟨_, b⟩, e => by simp at e; obtain ⟨u, h1, h2⟩ := pT b e; exact ⟨u, by simpa using h1, h2⟩
theorem aA {x:Operand} {i:Nat} {φs:List VT} {φ:VT} (hx:aB Γ x=some (bw φs)) (hi:φs[i]? = some φ):aC P E Γ M ⟨d, .extract x i,ty,pos,af,gd⟩ φ :=
 aC.ofRun fun a w hb hf=>by
  obtain ⟨vs,hv',hp⟩:=hf x _ (by simp [Op.operands]) hx
  obtain ⟨v,h1,h2⟩:=pT hp hi
  exact ⟨v,by simp [execOp,hv',Instr.extract,h1],h2⟩
/-! ### Elements -/
theorem ej {T e:TypeId} {L:Lay} [hS:SliceOf P T e] [hL:LayOf P e L] {x y:Operand} {n:Nat} {φ:Nat→VT} {k:IntKind} {iv:Int} (hx:aB Γ x=some (slT L n φ)) (hy:aB Γ y=some (one (.int k iv)))
  (h0:0≤iv) (h1:iv<n):aC P E Γ M ⟨d, .indexAddr T x y,ty,pos,af,gd⟩ (bL L (φ iv.toNat)) :=
 aC.ofRun fun a w hb hf=>by
  obtain ⟨ad,cap,hv',_,_,he⟩:=hf x _ (by simp [Op.operands]) hx
  have hy':a.eval y = .int k iv:=hf y _ (by simp [Op.operands]) hy
  obtain ⟨b,o,c,T',f,v,h2,h3,h4,h5⟩:=he iv.toNat X
  refine ⟨.pointer (some ⟨b,o+iv.toNat*L.sz,none⟩),?_,b,_,c,T',f,v,rfl,h3,h4,h5⟩
  have hi:0≤iv∧iv<(n:Int):=⟨h0,h1⟩
  simp [execOp,hv',hy',Instr.indexAt,asIntOf,aO hS.und,h2,hi,cn (L:=L),cX]
theorem mi {T e:TypeId} {L:Lay} [hS:SliceOf P T e] [hL:LayOf P e L] {x y:Operand} {b n cap:Nat} {k:IntKind} {iv:Int} (hx:aB Γ x=some (one (slV (some b) n cap))) (hy:aB Γ y=some (one (.int k iv)))
  (h0:0≤iv) (h1:iv<n):aC P E Γ M ⟨d, .indexAddr T x y,ty,pos,af,gd⟩ (eP b iv.toNat L.sz) :=
 aC.ofRun fun a w hb hf=>by
  have hx':a.eval x = .slice (some ⟨b,0,none⟩) n cap:=hf x _ (by simp [Op.operands]) hx
  have hy':a.eval y = .int k iv:=hf y _ (by simp [Op.operands]) hy
  refine ⟨.pointer (some ⟨b,iv.toNat*L.sz,none⟩),?_,rfl⟩
  have hi:0≤iv∧iv<(n:Int):=⟨h0,h1⟩
  simp [execOp,hx',hy',Instr.indexAt,asIntOf,aO hS.und,hi,cn (L:=L),cX]
theorem aI {T e:TypeId} {L:Lay} [hS:SliceOf P T e] [hL:LayOf P e L] {x y:Operand} {n j:Nat} {φ:Nat→VT} {k:IntKind} (hx:aB Γ x=some (slT L n φ)) (hy:aB Γ y=some (one (.int k (j:Int))))
  (h1:j<n):aC P E Γ M ⟨d, .indexAddr T x y,ty,pos,af,gd⟩ (bL L (φ j)):=by
 have:=ej (P:=P) (e:=e) (E:=E) (M:=M) (d:=d) (ty:=ty) (pos:=pos) (af:=af) (gd:=gd) (L:=L) (T:=T) hx hy X X
 rwa [Int.toNat_natCast] at this
theorem ar {T e:TypeId} {L:Lay} [hS:SliceOf P T e] [hL:LayOf P e L] {x y:Operand} {b n cap j:Nat} {k:IntKind} (hx:aB Γ x=some (one (slV (some b) n cap))) (hy:aB Γ y=some (one (.int k (j:Int))))
  (h1:j<n):aC P E Γ M ⟨d, .indexAddr T x y,ty,pos,af,gd⟩ (eP b j L.sz):=by
 have:=mi (P:=P) (e:=e) (E:=E) (M:=M) (d:=d) (ty:=ty) (pos:=pos) (af:=af) (gd:=gd) (L:=L) (T:=T) hx hy X X
 rwa [Int.toNat_natCast] at this
theorem a9 {T e:TypeId} [hS:SliceOf P T e] {x:Operand} {L:Lay} {n:Nat} {φ:Nat→VT} (hx:aB Γ x=some (slT L n φ)) :
  aC P E Γ M ⟨d, .call ⟨.builtin .len, #[x], #[T]⟩,ty,pos,af,gd⟩ (one (.int .i64 n)) :=
 aC.ofRun (hp:=rL) fun a w hb hf=>by
  obtain ⟨ad,cap,hv',_⟩:=hf x _ (by simp [Op.operands,Call.operands]) hx
  refine ⟨_,?_,rfl⟩
  simp [execOp,resolve,invoke,builtin,Builtin.len_,hv',aO hS.und,goInt]
theorem iP {T e:TypeId} [hS:SliceOf P T e] {x:Operand} {sv:Option Nat} {n cap:Nat} (hx:aB Γ x=some (one (slV sv n cap))) :
  aC P E Γ M ⟨d, .call ⟨.builtin .len, #[x], #[T]⟩,ty,pos,af,gd⟩ (one (.int .i64 n)) :=
 aC.ofRun (hp:=rL) fun a w hb hf=>by
  have hx':a.eval x=slV sv n cap:=hf x _ (by simp [Op.operands,Call.operands]) hx
  refine ⟨_,?_,rfl⟩
  simp [execOp,resolve,invoke,builtin,Builtin.len_,hx',slV,aO hS.und,goInt]
theorem Ak {T e:TypeId} [hS:SliceOf P T e] {x:Operand} {a0:Option Addr} {n cap:Nat} (hx:aB Γ x=some (one (.slice a0 n cap))) :
  aC P E Γ M ⟨d, .call ⟨.builtin .len, #[x], #[T]⟩,ty,pos,af,gd⟩ (one (.int .i64 n)) :=
 aC.ofRun (hp:=rL) fun a w hb hf=>by
  have hx':a.eval x = .slice a0 n cap:=hf x _ (by simp [Op.operands,Call.operands]) hx
  refine ⟨_,?_,rfl⟩
  simp [execOp,resolve,invoke,builtin,Builtin.len_,hx',slV,aO hS.und,goInt]
/-! ### Numbers -/
theorem cz {T T':TypeId} {x y:Operand} {k:IntKind} {a b r:Int} (hx:aB Γ x=some (one (.int k a))) (hy:aB Γ y=some (one (.int k b))) (hr:k.wrap (a+b)=r) :
  aC P E Γ M ⟨d, .binOp .add T x y T',ty,pos,af,gd⟩ (one (.int k r)) :=
 aC.ofRun (hp:=eE hx hy) fun ac w hb hf=>by
  have hx':ac.eval x = .int k a:=hf x _ (by simp [Op.operands]) hx
  have hy':ac.eval y = .int k b:=hf y _ (by simp [Op.operands]) hy
  exact ⟨_,by simp [execOp,hx',hy',eqGuard,binOp,Op.intArith,hr],rfl⟩
theorem ef {T T':TypeId} {x y:Operand} {k:IntKind} {a b r:Int} (hx:aB Γ x=some (one (.int k a))) (hy:aB Γ y=some (one (.int k b))) (hr:k.wrap (a - b)=r) :
  aC P E Γ M ⟨d, .binOp .sub T x y T',ty,pos,af,gd⟩ (one (.int k r)) :=
 aC.ofRun (hp:=eE hx hy) fun ac w hb hf=>by
  have hx':ac.eval x = .int k a:=hf x _ (by simp [Op.operands]) hx
  have hy':ac.eval y = .int k b:=hf y _ (by simp [Op.operands]) hy
  exact ⟨_,by simp [execOp,hx',hy',eqGuard,binOp,Op.intArith,hr],rfl⟩
theorem mj {T T':TypeId} {x y:Operand} {k:IntKind} {a b r:Int} (hx:aB Γ x=some (one (.int k a))) (hy:aB Γ y=some (one (.int k b))) (hr:k.wrap (a*b)=r) :
  aC P E Γ M ⟨d, .binOp .mul T x y T',ty,pos,af,gd⟩ (one (.int k r)) :=
 aC.ofRun (hp:=eE hx hy) fun ac w hb hf=>by
  have hx':ac.eval x = .int k a:=hf x _ (by simp [Op.operands]) hx
  have hy':ac.eval y = .int k b:=hf y _ (by simp [Op.operands]) hy
  exact ⟨_,by simp [execOp,hx',hy',eqGuard,binOp,Op.intArith,hr],rfl⟩
theorem z4 {T T':TypeId} {x y:Operand} {k:IntKind} {a b r:Int} (hx:aB Γ x=some (one (.int k a))) (hy:aB Γ y=some (one (.int k b))) (h0:b≠0) (hr:k.wrap (a.tdiv b)=r) :
  aC P E Γ M ⟨d, .binOp .quo T x y T',ty,pos,af,gd⟩ (one (.int k r)) :=
 aC.ofRun (hp:=eE hx hy) fun ac w hb hf=>by
  have hx':ac.eval x = .int k a:=hf x _ (by simp [Op.operands]) hx
  have hy':ac.eval y = .int k b:=hf y _ (by simp [Op.operands]) hy
  exact ⟨_,by simp [execOp,hx',hy',eqGuard,binOp,Op.intDiv,h0,hr],rfl⟩
theorem z5 {T T':TypeId} {x y:Operand} {k:IntKind} {a b r:Int} (hx:aB Γ x=some (one (.int k a))) (hy:aB Γ y=some (one (.int k b))) (h0:b≠0) (hr:a.tmod b=r) :
  aC P E Γ M ⟨d, .binOp .rem T x y T',ty,pos,af,gd⟩ (one (.int k r)) :=
 aC.ofRun (hp:=eE hx hy) fun ac w hb hf=>by
  have hx':ac.eval x = .int k a:=hf x _ (by simp [Op.operands]) hx
  have hy':ac.eval y = .int k b:=hf y _ (by simp [Op.operands]) hy
  exact ⟨_,by simp [execOp,hx',hy',eqGuard,binOp,Op.intDiv,h0,hr],rfl⟩
theorem z6 {T T':TypeId} {x y:Operand} {k:IntKind} {a b r:Int} (hx:aB Γ x=some (one (.int k a))) (hy:aB Γ y=some (one (.int k b))) (hr:k.wrap ((BitVec.ofInt k.bits a &&& BitVec.ofInt k.bits b).toNat:Int)=r) :
  aC P E Γ M ⟨d, .binOp .and T x y T',ty,pos,af,gd⟩ (one (.int k r)) :=
 aC.ofRun (hp:=eE hx hy) fun ac w hb hf=>by
  have hx':ac.eval x = .int k a:=hf x _ (by simp [Op.operands]) hx
  have hy':ac.eval y = .int k b:=hf y _ (by simp [Op.operands]) hy
  exact ⟨.int k r,by rw [← hr]; simp [execOp,hx',hy',eqGuard,binOp,Op.intBits],rfl⟩
theorem Br {T T':TypeId} {x y:Operand} {k:IntKind} {a b r:Int} (hx:aB Γ x=some (one (.int k a))) (hy:aB Γ y=some (one (.int k b))) (hr:k.wrap ((BitVec.ofInt k.bits a ||| BitVec.ofInt k.bits b).toNat:Int)=r) :
  aC P E Γ M ⟨d, .binOp .or T x y T',ty,pos,af,gd⟩ (one (.int k r)) :=
 aC.ofRun (hp:=eE hx hy) fun ac w hb hf=>by
  have hx':ac.eval x = .int k a:=hf x _ (by simp [Op.operands]) hx
  have hy':ac.eval y = .int k b:=hf y _ (by simp [Op.operands]) hy
  exact ⟨.int k r,by rw [← hr]; simp [execOp,hx',hy',eqGuard,binOp,Op.intBits],rfl⟩
theorem z7 {T T':TypeId} {x y:Operand} {k k':IntKind} {a b r:Int} (hx:aB Γ x=some (one (.int k a))) (hy:aB Γ y=some (one (.int k' b))) (h0:0≤b) (hr:k.wrap (a*2^(min b.toNat k.bits))=r) :
  aC P E Γ M ⟨d, .binOp .shl T x y T',ty,pos,af,gd⟩ (one (.int k r)) :=
 aC.ofRun (hp:=eE hx hy) fun ac w hb hf=>by
  have hx':ac.eval x = .int k a:=hf x _ (by simp [Op.operands]) hx
  have hy':ac.eval y = .int k' b:=hf y _ (by simp [Op.operands]) hy
  have h1 : ¬ b<0:=by omega
  exact ⟨_,by simp [execOp,hx',hy',eqGuard,binOp,Op.shift,h1,hr],rfl⟩
theorem vT {T T':TypeId} {x y:Operand} {k k':IntKind} {a b r:Int} (hx:aB Γ x=some (one (.int k a))) (hy:aB Γ y=some (one (.int k' b))) (h0:0≤b) (hr:a.fdiv (2^(min b.toNat k.bits))=r) :
  aC P E Γ M ⟨d, .binOp .shr T x y T',ty,pos,af,gd⟩ (one (.int k r)) :=
 aC.ofRun (hp:=eE hx hy) fun ac w hb hf=>by
  have hx':ac.eval x = .int k a:=hf x _ (by simp [Op.operands]) hx
  have hy':ac.eval y = .int k' b:=hf y _ (by simp [Op.operands]) hy
  have h1 : ¬ b<0:=by omega
  exact ⟨_,by simp [execOp,hx',hy',eqGuard,binOp,Op.shift,h1,hr],rfl⟩
theorem cQ {T T':TypeId} {x y:Operand} {k:IntKind} {a b:Int} (hx:aB Γ x=some (one (.int k a))) (hy:aB Γ y=some (one (.int k b))) :
  aC P E Γ M ⟨d, .binOp .eql T x y T',ty,pos,af,gd⟩ (one (.bool (decide (a=b)))) :=
 aC.ofRun (hp:=eE hx hy) fun ac w hb hf=>by
  have hx':ac.eval x = .int k a:=hf x _ (by simp [Op.operands]) hx
  have hy':ac.eval y = .int k b:=hf y _ (by simp [Op.operands]) hy
  refine ⟨_,?_,rfl⟩
  have:(a == b)=decide (a=b):=by by_cases h:a=b <;> simp [h]
  simp [execOp,hx',hy',eqGuard,binOp,Op.intCmp,this]
theorem ek {T T':TypeId} {x y:Operand} {k:IntKind} {a b:Int} (hx:aB Γ x=some (one (.int k a))) (hy:aB Γ y=some (one (.int k b))) :
  aC P E Γ M ⟨d, .binOp .neq T x y T',ty,pos,af,gd⟩ (one (.bool (decide (a≠b)))) :=
 aC.ofRun (hp:=eE hx hy) fun ac w hb hf=>by
  have hx':ac.eval x = .int k a:=hf x _ (by simp [Op.operands]) hx
  have hy':ac.eval y = .int k b:=hf y _ (by simp [Op.operands]) hy
  refine ⟨_,?_,rfl⟩
  have:(a != b)=decide (a≠b):=by by_cases h:a=b <;> simp [h]
  simp [execOp,hx',hy',eqGuard,binOp,Op.intCmp,this]
theorem bD {T T':TypeId} {x y:Operand} {k:IntKind} {a b:Int} (hx:aB Γ x=some (one (.int k a))) (hy:aB Γ y=some (one (.int k b))) :
  aC P E Γ M ⟨d, .binOp .lss T x y T',ty,pos,af,gd⟩ (one (.bool (decide (a<b)))) :=
 aC.ofRun (hp:=eE hx hy) fun ac w hb hf=>by
  have hx':ac.eval x = .int k a:=hf x _ (by simp [Op.operands]) hx
  have hy':ac.eval y = .int k b:=hf y _ (by simp [Op.operands]) hy
  exact ⟨_,by simp [execOp,hx',hy',eqGuard,binOp,Op.intCmp],rfl⟩
theorem yu {T T':TypeId} {x y:Operand} {k:IntKind} {a b:Int} (hx:aB Γ x=some (one (.int k a))) (hy:aB Γ y=some (one (.int k b))) :
  aC P E Γ M ⟨d, .binOp .leq T x y T',ty,pos,af,gd⟩ (one (.bool (decide (a≤b)))) :=
 aC.ofRun (hp:=eE hx hy) fun ac w hb hf=>by
  have hx':ac.eval x = .int k a:=hf x _ (by simp [Op.operands]) hx
  have hy':ac.eval y = .int k b:=hf y _ (by simp [Op.operands]) hy
  exact ⟨_,by simp [execOp,hx',hy',eqGuard,binOp,Op.intCmp],rfl⟩
theorem dx {T T':TypeId} {x y:Operand} {k:IntKind} {a b:Int} (hx:aB Γ x=some (one (.int k a))) (hy:aB Γ y=some (one (.int k b))) :
  aC P E Γ M ⟨d, .binOp .gtr T x y T',ty,pos,af,gd⟩ (one (.bool (decide (b<a)))) :=
 aC.ofRun (hp:=eE hx hy) fun ac w hb hf=>by
  have hx':ac.eval x = .int k a:=hf x _ (by simp [Op.operands]) hx
  have hy':ac.eval y = .int k b:=hf y _ (by simp [Op.operands]) hy
  exact ⟨_,by simp [execOp,hx',hy',eqGuard,binOp,Op.intCmp],rfl⟩
theorem eR {T T':TypeId} {x y:Operand} {k:IntKind} {a b:Int} (hx:aB Γ x=some (one (.int k a))) (hy:aB Γ y=some (one (.int k b))) :
  aC P E Γ M ⟨d, .binOp .geq T x y T',ty,pos,af,gd⟩ (one (.bool (decide (b≤a)))) :=
 aC.ofRun (hp:=eE hx hy) fun ac w hb hf=>by
  have hx':ac.eval x = .int k a:=hf x _ (by simp [Op.operands]) hx
  have hy':ac.eval y = .int k b:=hf y _ (by simp [Op.operands]) hy
  exact ⟨_,by simp [execOp,hx',hy',eqGuard,binOp,Op.intCmp],rfl⟩
class BoolOf (P:Program) (T:TypeId):Prop where
 und:P.underlying T=some .bool
theorem rM {T:TypeId} [hB:BoolOf P T] (n:Nat) (a b:Bool) (w:World):(Op.equalIn (n+1) T (.bool a) (.bool b)).run P w = .ok (a == b) w:=by
 unfold Op.equalIn
 rw [Sem.run_bind,aO hB.und]; rfl
theorem tj {T:TypeId} [hB:BoolOf P T] (a b:Bool) (w:World):(Op.equal T (.bool a) (.bool b)).run P w = .ok (a == b) w:=rM 9999 a b w
theorem nF {T:TypeId} [hB:BoolOf P T] (n:Nat) (a b:Bool):Co.Plain P (Op.equalIn (n+1) T (.bool a) (.bool b)):=by
 unfold Op.equalIn
 exact eU hB.und (Co.pl_ret _)
theorem tk {op:BinOp} {T T':TypeId} [hB:BoolOf P T] {x y:Operand} {a b:Bool} (ho:op = .eql∨op = .neq) (hx:aB Γ x=some (one (.bool a))) (hy:aB Γ y=some (one (.bool b))):PlO P E Γ M ⟨d, .binOp op T x y T',ty,pos,af,gd⟩:=fun ac w hb hf _=>by
 have hx':ac.eval x = .bool a:=hf x _ (by simp [Op.operands]) hx
 have hy':ac.eval y = .bool b:=hf y _ (by simp [Op.operands]) hy
 refine Co.Plain.bind (Co.Plain.bind ?_ fun _ => ?_) fun _=>Co.pl_ret _
 ·rw [hx',hy']; unfold eqGuard;split <;> exact Co.pl_ret _
 ·rw [hx',hy']
  rcases ho with rfl | rfl
  ·exact (nF 9999 a b).bind fun _=>Co.pl_ret _
  ·exact (nF 9999 a b).bind fun _=>Co.pl_ret _
theorem vU {T T':TypeId} [hB:BoolOf P T] {x y:Operand} {a b:Bool} (hx:aB Γ x=some (one (.bool a))) (hy:aB Γ y=some (one (.bool b))) :
  aC P E Γ M ⟨d, .binOp .eql T x y T',ty,pos,af,gd⟩ (one (.bool (a == b))) :=
 aC.ofRun (hp:=tk (.inl Z) hx hy) fun ac w hb hf=>by
  have hx':ac.eval x = .bool a:=hf x _ (by simp [Op.operands]) hx
  have hy':ac.eval y = .bool b:=hf y _ (by simp [Op.operands]) hy
  refine ⟨_,?_,rfl⟩
  simp only [execOp,hx',hy',eqGuard,binOp,Sem.run_bind,tj]; rfl
theorem pU {T T':TypeId} [hB:BoolOf P T] {x y:Operand} {a b:Bool} (hx:aB Γ x=some (one (.bool a))) (hy:aB Γ y=some (one (.bool b))) :
  aC P E Γ M ⟨d, .binOp .neq T x y T',ty,pos,af,gd⟩ (one (.bool (!(a == b)))) :=
 aC.ofRun (hp:=tk (.inr Z) hx hy) fun ac w hb hf=>by
  have hx':ac.eval x = .bool a:=hf x _ (by simp [Op.operands]) hx
  have hy':ac.eval y = .bool b:=hf y _ (by simp [Op.operands]) hy
  refine ⟨_,?_,rfl⟩
  simp only [execOp,hx',hy',eqGuard,binOp,Sem.run_bind,tj]; rfl
theorem c8 {T:TypeId} {x:Operand} {a:Bool} (hx:aB Γ x=some (one (.bool a))):aC P E Γ M ⟨d, .unOp .not T x,ty,pos,af,gd⟩ (one (.bool (!a))) :=
 aC.ofRun (hp:=fun ac w hb hf _=>by
  have h1:ac.eval x = .bool a:=hf x _ (by simp [Op.operands]) hx
  simp only [execOp]; rw [h1]; exact (Co.pl_ret _).bind fun _=>Co.pl_ret _) fun ac w hb hf=>by
  have hx':ac.eval x = .bool a:=hf x _ (by simp [Op.operands]) hx
  exact ⟨_,by simp [execOp,hx',Op.unary],rfl⟩
theorem z8 {T:TypeId} {x:Operand} {k:IntKind} {a r:Int} (hx:aB Γ x=some (one (.int k a))) (hr:k.wrap (0 - a)=r):aC P E Γ M ⟨d, .unOp .neg T x,ty,pos,af,gd⟩ (one (.int k r)) :=
 aC.ofRun (hp:=fun ac w hb hf _=>by
  have h1:ac.eval x = .int k a:=hf x _ (by simp [Op.operands]) hx
  simp only [execOp]; rw [h1]; exact (Co.pl_ret _).bind fun _=>Co.pl_ret _) fun ac w hb hf=>by
  have hx':ac.eval x = .int k a:=hf x _ (by simp [Op.operands]) hx
  exact ⟨.int k r,by rw [← hr]; simp [execOp,hx',Op.unary,Op.intArith],rfl⟩
theorem iQ {T T':TypeId} {k k':IntKind} [h1:IntOf P T k] [h2:IntOf P T' k'] {x:Operand} {k0:IntKind} {a r:Int} (hx:aB Γ x=some (one (.int k0 a))) (hr:k'.wrap a=r) :
  aC P E Γ M ⟨d, .convert T T' x,ty,pos,af,gd⟩ (one (.int k' r)) :=
 aC.ofRun (hp:=fun ac w hb hf _=>by
  have h3:ac.eval x = .int k0 a:=hf x _ (by simp [Op.operands]) hx
  simp only [execOp,convert]; rw [h3]; exact Co.Plain.bind (eU h1.und (eU h2.und (Co.pl_ret _))) fun _=>Co.pl_ret _) fun ac w hb hf=>by
  have hx':ac.eval x = .int k0 a:=hf x _ (by simp [Op.operands]) hx
  exact ⟨.int k' r,by rw [← hr]; simp [execOp,hx',convert,aO h1.und,aO h2.und,Conv.intToInt],rfl⟩
theorem z9 {x y:Operand} {ats:Array TypeId} {k:IntKind} {a b:Int} (hx:aB Γ x=some (one (.int k a))) (hy:aB Γ y=some (one (.int k b))) :
  aC P E Γ M ⟨d, .call ⟨.builtin .max, #[x,y],ats⟩,ty,pos,af,gd⟩ (one (.int k (max a b))) :=
 aC.ofRun (hp:=fun ac w hb hf _=>by
  have hx':ac.eval x = .int k a:=hf x _ (by simp [Op.operands,Call.operands]) hx
  have hy':ac.eval y = .int k b:=hf y _ (by simp [Op.operands,Call.operands]) hy
  suffices h : ∀ c,Co.Plain P (builtin .max ats ty c (Array.map ac.eval #[x,y])) from h #[]
  intro c
  rw [show Array.map ac.eval #[x,y] = #[ac.eval x,ac.eval y] from by simp,hx',hy']
  exact Co.pl_ret _) fun ac w hb hf=>by
  have hx':ac.eval x = .int k a:=hf x _ (by simp [Op.operands,Call.operands]) hx
  have hy':ac.eval y = .int k b:=hf y _ (by simp [Op.operands,Call.operands]) hy
  refine ⟨_,?_,rfl⟩
  have:(if b>a then b else a)=max a b:=by omega
  simp [execOp,resolve,invoke,builtin,Builtin.max_,Builtin.max2,hx',hy',this]
theorem vV {x y:Operand} {ats:Array TypeId} {k:IntKind} {a b:Int} (hx:aB Γ x=some (one (.int k a))) (hy:aB Γ y=some (one (.int k b))) :
  aC P E Γ M ⟨d, .call ⟨.builtin .min, #[x,y],ats⟩,ty,pos,af,gd⟩ (one (.int k (min a b))) :=
 aC.ofRun (hp:=fun ac w hb hf _=>by
  have hx':ac.eval x = .int k a:=hf x _ (by simp [Op.operands,Call.operands]) hx
  have hy':ac.eval y = .int k b:=hf y _ (by simp [Op.operands,Call.operands]) hy
  suffices h : ∀ c,Co.Plain P (builtin .min ats ty c (Array.map ac.eval #[x,y])) from h #[]
  intro c
  rw [show Array.map ac.eval #[x,y] = #[ac.eval x,ac.eval y] from by simp,hx',hy']
  exact Co.pl_ret _) fun ac w hb hf=>by
  have hx':ac.eval x = .int k a:=hf x _ (by simp [Op.operands,Call.operands]) hx
  have hy':ac.eval y = .int k b:=hf y _ (by simp [Op.operands,Call.operands]) hy
  refine ⟨_,?_,rfl⟩
  have:(if b<a then b else a)=min a b:=by omega
  simp [execOp,resolve,invoke,builtin,Builtin.min_,Builtin.min2,hx',hy',this]
end
end Tor
end
section
namespace Tor
open Go Go.RowKit
variable [Co.Kc]
section
variable {P:Program} {E:Env} {D:List Deferred} {Γ:Ctx} {M:Mem} {Q:Exit→Act→World→Prop}
/-! ### Control -/
theorem aa {y:Code} (h:J P E D Γ M y Q):PJ E D Γ M .normal (Exit.then (JW P E y Q) Q):=h
theorem ae {x y:Code} (h:J P E D Γ M x (Exit.then (JW P E y Q) Q)):J P E D Γ M (.seq x y) Q:=fun a w hS=>JW.seq (h a w hS)
theorem ay (h:PJ E D Γ M .normal Q):J P E D Γ M .skip Q:=fun a w hS _=>Co.wpX_skip (h a w hS)
theorem lY {l:Nat} (h:PJ E D Γ M .normal Q):J P E D Γ M (.label l) Q:=fun a w hS _=>Co.wpX_label (h a w hS)
theorem a8 {id:Nat} (h:PJ E D Γ M (.exit id) Q):J P E D Γ M (.exit id) Q:=fun a w hS _=>Co.wpX_exit (h a w hS)
theorem aG (h:PJ E D Γ M .ret Q):J P E D Γ M .ret Q:=fun a w hS _=>Co.wpX_ret (h a w hS)
theorem ii {c:Code} (h:J P E D Γ M c (Exit.noGoto Q)):J P E D Γ M (.scope c) Q:=fun a w hS hd =>
 Co.wpX_scope (h a w hS ⟨.inl (hd.nodef.resolve_right (by simp [fO])),hd.plain⟩)
theorem aw {id:Nat} {c:Code} (h:J P E D Γ M c (Exit.inBlock id Q)):J P E D Γ M (.block id c) Q:=fun a w hS hd=>Co.wpX_block (h a w hS hd.block)
theorem bv {c:Operand} {x y:Code} {b:Bool} (hc:aB Γ c=some (one (.bool b))) (ht:b=true→J P E D Γ M x Q) (hf:b=false→J P E D Γ M y Q):J P E D Γ M (.cond c x y) Q :=
 fun a w hS hd=>Co.wpX_cond_split (cq hS hc) (fun h=>ht h a w hS hd.cond1) (fun h=>hf h a w hS hd.cond2)
theorem ax {id:Nat} {n:Act→World→Prop} (h:PJ E D Γ M (.exit id) Q):PJ E D Γ M (.exit id) (Exit.then n Q):=h
theorem aL {id:Nat} (h:PJ E D Γ M .normal Q):PJ E D Γ M (.exit id) (Exit.inBlock id Q):=by
 intro a w hS;show if id=id then _ else _;rw [if_pos Z]; exact h a w hS
theorem dG {id id':Nat} (hne':Nat.beq id' id=false) (h:PJ E D Γ M (.exit id') Q):PJ E D Γ M (.exit id') (Exit.inBlock id Q):=by
 intro a w hS;show if id'=id then _ else _;rw [if_neg (Nat.ne_of_beq_eq_false hne')]; exact h a w hS
theorem aK {id:Nat} (h:PJ E D Γ M .normal Q):PJ E D Γ M .normal (Exit.inBlock id Q):=h
theorem bp {id:Nat} (h:PJ E D Γ M .ret Q):PJ E D Γ M .ret (Exit.inBlock id Q):=h
theorem el (h:PJ E D Γ M .ret Q):PJ E D Γ M .ret (Exit.noGoto Q):=h
/-! ### Weakening of states -/
def dO (Γ Γ':Ctx):Prop := ∀ t φ',bt Γ' t=some φ' → ∃ φ,bt Γ t=some φ∧VT.le φ φ'
theorem dO.nil:dO Γ []:=fun t φ' h=>by cases h
theorem dO.cons {Γ':Ctx} {t:Nat} {φ φ':VT} (h:bt Γ t=some φ) (hle:VT.le φ φ') (hr:dO Γ Γ'):dO Γ ((t, φ') :: Γ'):=by
 intro s ψ hs
 rw [aW] at hs
 split at hs
 ·rename_i e;subst e;cases hs;exact ⟨φ,h,hle⟩
 ·exact hr s ψ hs
theorem dO.refl (Γ:Ctx):dO Γ Γ:=fun t φ h=>⟨φ,h,A⟩
theorem _root_.BW {P:Prop} (h:P:=by repeat (first | exact dO.nil | refine dO.cons rfl (VT.le_refl _) ?_)):P:=h
theorem _root_.BX {P:Prop} (h:P:=by repeat (first | exact dO.refl _ | exact dO.nil | refine dO.cons Z A ?_ | (refine dO.cons Z (av ?_) ?_;(congr 1;first | omega | (simp;omega) | simp)))):P:=h
theorem _root_.BY {P:Prop} (h:P:=by repeat (first | exact dO.nil | refine dO.cons Z A ?_ | (refine dO.cons Z (av ?_) ?_;(congr 1;first | omega | (simp;omega) | simp)))):P:=h
theorem _root_.BZ {P:Prop} (h:P:=by repeat (first | exact dO.nil | refine dO.cons Z A ?_)):P:=h
inductive SubM:Mem→Mem→Prop
 | nil : SubM [] []
 | drop {o M M'} : SubM M M' → SubM (o :: M) M'
 | keep {o o' M M'} : Own.le o o' → SubM M M' → SubM (o :: M) (o' :: M')
theorem Own.le_refl (o:Own):Own.le o o:=⟨rfl,fun _ _ h=>h⟩
theorem _root_.Ca {a:Own}:Own.le a a:=Own.le_refl _
theorem SubM.refl : ∀ M:Mem,SubM M M
 | [] => .nil
 | o :: M => .keep (Own.le_refl o) (SubM.refl M)
theorem SubM.nilR : ∀ M:Mem,SubM M []
 | [] => .nil
 | _ :: M => .drop (SubM.nilR M)
theorem SubM.sub {M M':Mem} (h:SubM M M'):(aS M').Sublist (aS M):=by
 induction h with
 | nil => exact List.Sublist.refl _
 | drop _ ih => exact ih.trans (List.sublist_append_right _ _)
 | keep hle _ ih => simp only [blks_cons, ← hle.1]; exact List.Sublist.append_left ih _
theorem SubM.mem {M M':Mem} (h:SubM M M') : ∀ o'∈M', ∃ o∈M,Own.le o o':=by
 induction h with
 | nil => intro o' h; cases h
 | drop _ ih => intro o' h; obtain ⟨o, h1, h2⟩ := ih o' h; exact ⟨o, List.mem_cons_of_mem _ h1, h2⟩
 | keep hle _ ih =>
  intro o' h
  rcases List.mem_cons.1 h with rfl | h
  ·exact ⟨_,List.mem_cons_self,hle⟩
  ·obtain ⟨o,h1,h2⟩:=ih o' h;exact ⟨o,List.mem_cons_of_mem _ h1,h2⟩
theorem ld {M M':Mem} {w:World} (h : ∀ b∈aS M',b∈aS M):Hp.le (hv E M w) (hv E M' w) :=
 lX fun b hb=>by
  rcases List.mem_append.1 hb with h' | h'
  ·exact List.mem_append.2 (.inl h')
  ·exact List.mem_append.2 (.inr (h b h'))
theorem Base.sub {M':Mem} {w:World} (hb:Base E M w) (h:SubM M M'):Base E M' w where
 mem:=fun o' ho'=>let ⟨o,ho,hle⟩:=h.mem o' ho';o'.loc (fun _ _=>rfl) (ld fun b hb'=>h.sub.subset hb') (hle.2 _ _ (hb.mem o ho))
 nd:=h.sub.nodup hb.nd
 dis:=fun b hb'=>hb.dis b (h.sub.subset hb')
 lo:=fun b hb'=>hb.lo b (h.sub.subset hb')
 ex:=fun b hb'=>hb.ex b (by
  rcases List.mem_append.1 hb' with h' | h'
  ·exact List.mem_append.2 (.inl h')
  ·exact List.mem_append.2 (.inr (h.sub.subset h')))
 fr:=hb.fr
theorem St.sub {Γ':Ctx} {M':Mem} {a:Act} {w:World} (hS:St E D Γ M a w) (hg:dO Γ Γ') (hm:SubM M M'):St E D Γ' M' a w where
 base:=hS.base.sub hm
 sz:=hS.sz
 df:=hS.df
 tm:=fun t φ' h=>let ⟨φ,h1,h2⟩:=hg t φ' h;h2 _ _ (φ.mono (ld fun b hb=>hm.sub.subset hb) (hS.tm t φ h1))
theorem cv {Γ':Ctx} {M':Mem} {c:Code} (hg:dO Γ Γ') (hm:SubM M M') (h:J P E D Γ' M' c Q):J P E D Γ M c Q:=fun a w hS=>h a w (hS.sub hg hm)
theorem oE {Γ':Ctx} {M':Mem} {e:Exit} (hg:dO Γ Γ') (hm:SubM M M') (h:PJ E D Γ' M' e Q):PJ E D Γ M e Q:=fun a w hS=>h a w (hS.sub hg hm)
theorem iR {c:Code} {t:Nat} {φ:VT} {F:Prop} (ht:bt Γ t=some φ) (hF : ∀ v h, φ.p v h→F) (h:F→J P E D Γ M c Q):J P E D Γ M c Q :=
 fun a w hS=>h (hF _ _ (hS.tm t φ ht)) a w hS
theorem kb {c:Code} {i:Nat} {o:Own} {F:Prop} (hM:M[i]? = some o) (hF : ∀ g h,o.p g h→F) (h:F→J P E D Γ M c Q):J P E D Γ M c Q :=
 fun a w hS=>h (hF _ _ (hS.base.mem o (List.mem_of_getElem? hM))) a w hS
theorem yv {c:Code} {t:Nat} {α:Type} {φ:α→VT} (ht:bt Γ t=some (exT φ)) (h : ∀ x,J P E D ((t, φ x) :: Γ) M c Q):J P E D Γ M c Q:=by
 intro a w hS
 obtain ⟨x,hx⟩:=hS.tm t _ ht
 refine h x a w ⟨hS.base,hS.sz,hS.df,fun s ψ hs => ?_⟩
 rw [aW] at hs
 split at hs
 ·rename_i e;subst e;cases hs;exact hx
 ·exact hS.tm s ψ hs
theorem pV {c:Code} {t:Nat} {φ ψ:VT} (ht:bt Γ t=some φ) (hle:VT.le φ ψ) (h:J P E D ((t, ψ) :: Γ) M c Q):J P E D Γ M c Q :=
 cv (fun s χ hs=>by
  rw [aW] at hs
  split at hs
  ·rename_i e;subst e;cases hs;exact ⟨φ,ht,hle⟩
  ·exact ⟨χ,hs,A⟩) (SubM.refl _) h
/-! ### Loops, joins -/
theorem c6 {σ:Type} {c:Code} (G:σ→Ctx) (Ms:σ→Mem) (ok:σ→Prop) (μ:σ→Nat) (s0:σ) (h0:ok s0) (hg:dO Γ (G s0)) (hm:SubM M (Ms s0))
  (round : ∀ s,ok s→J P E D (G s) (Ms s) c (Exit.then (fun a w => ∃ s',ok s'∧μ s'<μ s∧St E D (G s') (Ms s') a w) Q)):J P E D Γ M (.loop c) Q:=by
 intro a w hS hd
 refine Co.wpX_loop (fun s a w=>ok s∧St E D (G s) (Ms s) a w) μ s0 ⟨h0,hS.sub hg hm⟩ fun s a w hI=>Co.wpX_mono (round s hI.1 a w hI.2 hd.loop) fun e a w hq => ?_
 cases e with
 | normal => obtain ⟨s', h1, h2, h3⟩ := hq; exact ⟨s', ⟨h1, h3⟩, h2⟩
 | _ => exact hq
theorem cD {σ:Type} {G:σ→Ctx} {Ms:σ→Mem} {ok:σ→Prop} {μ:σ→Nat} {s:σ} (s':σ) (h:ok s') (hμ:μ s'<μ s) (hg:dO Γ (G s')) (hm:SubM M (Ms s')) :
  PJ E D Γ M .normal (Exit.then (fun a w => ∃ s',ok s'∧μ s'<μ s∧St E D (G s') (Ms s') a w) Q) :=
 fun a w hS=>⟨s',h,hμ,hS.sub hg hm⟩
theorem cE {σ:Type} {G:σ→Ctx} {Ms:σ→Mem} {ok:σ→Prop} (s:σ) (h:ok s) (hg:dO Γ (G s)) (hm:SubM M (Ms s)) :
  PJ E D Γ M .normal (Exit.then (fun a w => ∃ s,ok s∧St E D (G s) (Ms s) a w) Q) :=
 fun a w hS=>⟨s,h,hS.sub hg hm⟩
/-! ### Calls -/
def Ret (O:List Nat) (ψ:VT) (w:World) (e:Ending) (w':World):Prop := ∃ v,e = .returned v∧ψ.p v (hid O (view w'))∧Ext w w'
class Fn (P:Program) (f:FuncId):Prop where
 run : ∀ args w,(callFunc f args).run P w = .ok (.enter f args) w
 plain : ∀ args,Co.Plain P (callFunc f args)
theorem Fn.of {f:FuncId} {fn:Func} (h:P.funcs[f]? = some fn) (h1:fn.name ≠ "runtime.NumGoroutine") (h2:fn.body.isSome=true):Fn P f where
 run:=by
  intro args w
  have h3:fn.body.isNone=false:=by cases hb:fn.body <;> simp_all
  have h4:(fn.name == "runtime.NumGoroutine")=false:=by simpa using h1
  unfold callFunc
  rw [Sem.run_bind]
  have h5:(Go.program).run P w = .ok P w:=rfl
  rw [h5]
  simp only [Result.andThen_ok,h,h4,h3,Bool.false_eq_true,if_false]; rfl
 plain:=by
  intro args
  have h3:fn.body.isNone=false:=by cases hb:fn.body <;> simp_all
  have h4:(fn.name == "runtime.NumGoroutine")=false:=by simpa using h1
  unfold callFunc
  refine .program ?_
  show Co.Plain P (match P.funcs[f]? with | none=>_ | some fn=>_)
  rw [h]
  show Co.Plain P (if (fn.name == "runtime.NumGoroutine")=true then _ else if fn.body.isNone=true then _ else _)
  rw [h4,h3]
  exact Co.pl_ret _
def fB (Γ:Ctx):List Operand→Option (List VT)
 | [] => some []
 | x :: xs => match aB Γ x, fB Γ xs with
  | some φ, some φs => some (φ :: φs)
  | _, _ => none
theorem fv {a:Act} {h:Hp} : ∀ {xs:List Operand} {φs:List VT},fB Γ xs=some φs→(∀ x φ,x∈xs→aB Γ x=some φ→φ.p (a.eval x) h)→fb φs (xs.map a.eval) h
  | [], φs, e, _ => by cases e; trivial
  | x :: xs, φs, e, hf => by
    rw [fB] at e
    cases h1:aB Γ x with
    | none => rw [h1] at e; cases e
    | some φ =>
      cases h2:fB Γ xs with
      | none => rw [h1, h2] at e; cases e
      | some ψs => rw [h1, h2] at e; cases e
                   exact ⟨hf x φ (by simp) h1,fv h2 fun y ψ hy=>hf y ψ (by simp [hy])⟩
variable {d:Option Tmp} {ty:TypeId} {pos:String} {af:Array Edge} {gd:Option (Nat × Bool)}
theorem Al {f:FuncId} [hF:Fn P f] {xs:Array Operand} {ats:Array TypeId} {φs:List VT} {ψ:VT} (hx:fB Γ xs.toList=some φs)
  (hc : ∀ (w:World) (vs:List Value),(∀ b∈E.O ++ aS M,b<w.heap.size)→fb φs vs (hid (E.O ++ aS M) (view w))→jG P f vs.toArray w (Ret (E.O ++ aS M) ψ w)) :
  aC P E Γ M ⟨d, .call ⟨.value (.func f),xs,ats⟩,ty,pos,af,gd⟩ ψ:=by
 intro a w hb hf next hn
 have hp:=fv (a:=a) (h:=hv E M w) hx (fun x φ hx' he=>hf x φ (by simp [Op.operands,Call.operands]; exact .inr (by simpa using hx')) he)
 have:=hc w _ hb.ex hp
 refine ⟨fun _=>hF.plain _,?_⟩
 have hr:(execOp a.eval ⟨d, .call ⟨.value (.func f),xs,ats⟩,ty,pos,af,gd⟩).run P w = .ok (.enter f (xs.toList.map a.eval).toArray) w:=by
  have h0:a.eval (.func f) = .func (.func f) #[] #[]:=rfl
  have h9:(xs.map a.eval)=(xs.toList.map a.eval).toArray:=by simp [← Array.toList_map]
  simp [execOp,resolve,Deferred.ofValue,invoke,h0,hF.run,h9]
 rw [hr]
 refine ig this ?_
 rintro e w' ⟨v,rfl,hv',hext⟩
 exact ⟨v,rfl,hn v w' hext hv'⟩
/-! ### Entry and return -/
def fK:Nat→List VT→Ctx
 | _, [] => []
 | i, φ :: φs => (i, φ) :: fK (i + 1) φs
theorem eM {h:Hp} {φ:VT} : ∀ {i t:Nat} {φs:List VT} {vs:List Value},bt (fK i φs) t=some φ→fb φs vs h → ∃ v,i≤t∧vs[t - i]? = some v∧φ.p v h
 | _, _, [], _, e, _ => by cases e
 | i, t, ψ :: φs, v :: vs, e, ⟨h1, h2⟩ => by
  rw [fK,aW] at e
  split at e
  ·rename_i he;subst he;cases e;exact ⟨v,Nat.le_refl _,by simp,h1⟩
  ·rename_i hne
   obtain ⟨u,hle,hu,hp⟩:=eM e h2
   refine ⟨u,by omega,?_,hp⟩
   rw [show t - i=(t - (i+1))+1 by omega]; simpa using hu
theorem gX {h:Hp} : ∀ {φs:List VT} {vs:List Value},fb φs vs h→φs.length=vs.length
 | [], [], _ => rfl
 | _ :: _, _ :: _, ⟨_, h⟩ => by simp [gX h]
 | [], _ :: _, h => h.elim
 | _ :: _, [], h => h.elim
theorem enter {f:FuncId} {fn:Func} {c:Code} {N:Nat} {w:World} {O:List Nat} {φs:List VT} {vs:List Value} {R:Ending→World→Prop}
  (hf:P.funcs[f]? = some fn) (hb:fn.body=some c) (hN:fn.ntmps=N) (hO : ∀ b∈O,b<w.heap.size) (hv':fb φs vs (hid O (view w))) (hle:φs.length≤N)
  (h:J P ⟨w,O, [],N,none⟩ [] (fK 0 φs) [] c (cG P fn R)) (hpl:cU c=true:=by kernel_rfl):jG P f vs.toArray w R:=by
 have hl:=gX hv'
 refine Co.callsX_of hf hb (h _ w ⟨⟨by simp,by simp,by simp,by simp,?_,Fr.refl _ _⟩,?_,rfl,?_⟩ ⟨.inl Z,hpl⟩)
 ·intro b hb';exact hO b (by simpa using hb')
 ·simp [hN]; omega
 ·intro t φ e
  obtain ⟨v,_,h2,h3⟩:=eM e hv'
  have h4:hv ⟨w,O, [],N,none⟩ [] w=hid O (view w):=by simp [hv]
  rw [h4]
  rw [Nat.sub_zero] at h2
  have hlt:=(List.getElem?_eq_some_iff.1 h2).1
  rw [Array.getD_eq_getD_getElem?,Array.getElem?_append_left (by simpa using hlt)]
  simpa [h2] using h3
theorem St.ret {a:Act} {w:World} {w0:World} {O:List Nat} {N:Nat} (hS:St ⟨w0,O, [],N,none⟩ D Γ M a w):Ext w0 w:=hS.base.fr.toExt
theorem aJ {n:Act→World→Prop} (h:PJ E D Γ M .ret Q):PJ E D Γ M .ret (Exit.then n Q):=h
end
end Tor
end
section
namespace Tor
open Go Go.RowKit
variable [Tor.Co.Kc]
section
variable {P:Program} {E:Env} {D:List Deferred} {Γ:Ctx} {M:Mem} {Q:Exit→Act→World→Prop}
theorem pW : ∀ {M:Mem} {i:Nat} {o o':Own},M[i]? = some o→o'.bl=o.bl→aS (M.set i o')=aS M
 | [], _, _, _, h, _ => by simp at h
 | x :: M, 0, o, o', h, e => by simp at h; subst h; simp [e]
 | x :: M, i + 1, o, o', h, e => by simp at h; simp [pW h e]
theorem eG {M:Mem} {i:Nat} {o:Own} (h:M[i]? = some o):o∈M:=List.mem_of_getElem? h
theorem cJ {M:Mem} {o:Own} (h:o∈M) {b:Nat} (hb:b∈o.bl):b∈aS M:=List.mem_flatMap.2 ⟨o,h,hb⟩
theorem ml : ∀ {M:Mem} {i j:Nat} {o o':Own},(aS M).Nodup→M[i]? = some o→M[j]? = some o'→i≠j → ∀ b,b∈o.bl→b ∉ o'.bl
 | [], _, _, _, _, _, h, _, _, _, _ => by simp at h
 | x :: M, 0, 0, _, _, _, _, _, h, _, _ => absurd Z h
 | x :: M, 0, j + 1, o, o', hn, hi, hj, _, b, hb => by
  simp at hi hj;subst hi
  rw [blks_cons,List.nodup_append] at hn
  intro h;exact hn.2.2 b hb b (cJ (eG hj) h) Z
 | x :: M, i + 1, 0, o, o', hn, hi, hj, _, b, hb => by
  simp at hi hj;subst hj
  rw [blks_cons,List.nodup_append] at hn
  intro h;exact hn.2.2 b h b (cJ (eG hi) hb) Z
 | x :: M, i + 1, j + 1, o, o', hn, hi, hj, hne, b, hb => by
  simp at hi hj
  rw [blks_cons,List.nodup_append] at hn
  exact ml hn.2.1 hi hj X b hb
theorem gJ {w w':World} {b:Nat} (h:w'.heap[b]? = w.heap[b]?):view w' b=view w b:=by unfold view;rw [h]
theorem St.own {a:Act} {w w':World} (hS:St E D Γ M a w) {i:Nat} {o o':Own} (hM:M[i]? = some o) (hbl:o'.bl=o.bl)
  (hb : ∀ k,k ∉ o.bl→w'.heap[k]? = w.heap[k]?) (hsz:w'.heap.size=w.heap.size) (hos:w'.os=w.os) (ht:w'.tape=w.tape) (hout:w'.output=w.output)
  (hp:o'.p (raw w') (hv E M w)):St E D Γ (M.set i o') a w':=by
 have e1:aS (M.set i o')=aS M:=pW hM hbl
 have e2:hv E (M.set i o') w'=hv E M w:=by
  unfold hv;rw [e1]; funext b;unfold hid
  by_cases h:b∈E.O ++ aS M
  ·rw [if_pos h,if_pos h]
  ·rw [if_neg h,if_neg h]
   exact gJ (hb b fun hk=>h (List.mem_append.2 (.inr (cJ (eG hM) hk))))
 refine ⟨⟨?_,by rw [e1]; exact hS.base.nd,by rw [e1]; exact hS.base.dis,by rw [e1]; exact hS.base.lo,by rw [e1,hsz]; exact hS.base.ex,?_⟩,hS.sz,hS.df,?_⟩
 ·intro q hq
  rw [show hid (E.O ++ aS (M.set i o')) (view w')=hv E M w from e2]
  obtain ⟨j,hj⟩:=List.mem_iff_getElem?.1 hq
  rw [List.getElem?_set] at hj
  by_cases hij:i=j
  ·subst hij
   have hlt:=(List.getElem?_eq_some_iff.1 hM).1
   simp [hlt] at hj;subst hj;exact hp
  ·simp [hij] at hj
   refine q.loc (fun b hbq=>(fJ (hb b fun hk => ?_)).symm) (Hp.le_refl _) (hS.base.mem q (eG hj))
   exact ml hS.base.nd hM hj hij b hk hbq
 ·have hf:=hS.base.fr
  exact ⟨hos.trans hf.os,ht.trans hf.tape,hout.trans hf.output,by rw [hsz]; exact hf.size,fun k hk hn=>by
   have hko:k ∉ o.bl:=fun h=>by
    rcases hS.base.lo k (cJ (eG hM) h) with h' | h'
    ·omega
    ·exact hn h'
   rw [hb k hko]; exact hf.block k hk hn⟩
 ·intro t φ h;rw [e2]; exact hS.tm t φ h
theorem c7 (w:World) (g:Nat) (c:Array Value) (k:Nat) (h:k≠g):(w.setRow g c).heap[k]? = w.heap[k]? := by
 simp only [World.setRow,Array.getElem?_modify]
 rw [if_neg X]
theorem dH {w:World} {g:Nat} {c c':Array Value} {T:TypeId} {f:Nat × Nat} (h:view w g=some (c,T,f)):view (w.setRow g c') g=some (c',T,f) :=
 fR (setRow_heap w g c c' T f (dS h))
theorem dI (w:World) (g:Nat) (c:Array Value):(w.setRow g c).heap.size=w.heap.size:=by simp [World.setRow]
theorem St.alloc {a:Act} {w:World} (hS:St E D Γ M a w) {o:Own} {c:Array Value} {T:TypeId} (hbl:o.bl = [w.heap.size])
  (hp:o.p (raw (w.alloc (.cells c T))) (hv E M w)) {d:Nat} (hd:d<E.N) {v:Value} {ψ:VT} (hv':ψ.p v (hv E M w)) :
  St E D ((d, ψ) :: Γ) (o :: M) (a.put (some d) v) (w.alloc (.cells c T)):=by
 have hx:Ext w (w.alloc (.cells c T)):=Ext.alloc w _
 have hnew : ∀ b∈E.O ++ aS M,b<w.heap.size:=hS.base.ex
 have hle:Hp.le (hv E M w) (hv E (o :: M) (w.alloc (.cells c T))):=by
  intro b x e
  obtain ⟨h1,h2⟩:=cW e
  refine eA ?_ (hx.view _ _ h2)
  intro hb
  have hlt:=d9 h2
  rw [blks_cons,hbl] at hb
  rcases List.mem_append.1 hb with h | h
  ·exact h1 (List.mem_append.2 (.inl h))
  ·rcases List.mem_append.1 h with h | h
   ·simp at h;omega
   ·exact h1 (List.mem_append.2 (.inr h))
 have hb':=hS.base.ext hx
 have hmap : ∀ b∈aS (o :: M),b=w.heap.size∨b∈aS M:=by
  intro b hb;rw [blks_cons,hbl] at hb
  rcases List.mem_append.1 hb with h | h
  ·simp at h;exact .inl h
  ·exact .inr h
 refine ⟨⟨?_,?_,?_,?_,?_,hb'.fr⟩,by simp [Act.put,hS.sz],hS.df,?_⟩
 ·intro q hq
  rcases List.mem_cons.1 hq with rfl | hq
  ·exact q.loc (fun _ _=>rfl) hle hp
  ·exact q.loc (fun b hb=>(fJ (hx.block b (hS.base.ex b (List.mem_append.2 (.inr (cJ hq hb)))))).symm) hle (hS.base.mem q hq)
 ·rw [blks_cons,hbl,List.nodup_append]
  refine ⟨by simp,hS.base.nd,fun x hx y hy => ?_⟩
  simp at hx;subst hx
  have:=hnew y (List.mem_append.2 (.inr hy));omega
 ·intro b hb
  rcases hmap b hb with rfl | h
  ·intro hO;have:=hnew _ (List.mem_append.2 (.inl hO));omega
  ·exact hS.base.dis b h
 ·intro b hb
  rcases hmap b hb with rfl | h
  ·exact .inl hS.base.fr.size
  ·exact hS.base.lo b h
 ·intro b hb
  have:(w.alloc (.cells c T)).heap.size=w.heap.size+1:=by simp
  rw [this]
  rcases List.mem_append.1 hb with h | h
  ·have:=hnew b (List.mem_append.2 (.inl h));omega
  ·rcases hmap b h with rfl | h
   ·omega
   ·have:=hnew b (List.mem_append.2 (.inr h));omega
 ·intro t φ h
  rw [aW] at h
  split at h
  ·rename_i e;cases h;rw [← e,be (by rw [hS.sz]; exact hd)]; exact ψ.mono hle hv'
  ·rename_i e;rw [aP e]; exact φ.mono hle (hS.tm t φ h)
theorem Own.freeze {w:World} {sv:Option Nat} {T:TypeId} {L:Lay} {cap n:Nat} {φ:Nat→VT} {h h':Hp} (ho:(aH sv T L cap n φ).p (raw w) h) (hle:Hp.le h h') (hb : ∀ b,sv=some b→view w b=h' b) :
  (slT L n φ).p (slV sv n cap) h':=by
 obtain ⟨h1,h2,h3,h4⟩:=ho
 cases sv with
 | none =>
  have hc:=h3 Z
  exact ⟨none,cap,rfl,h1,h2,fun i hi=>by omega⟩
 | some b =>
  obtain ⟨c,hc,hs,he⟩:=h4 b Z
  refine ⟨some ⟨b,0,none⟩,cap,rfl,h1,h2,fun i hi => ?_⟩
  obtain ⟨x,hx,hp⟩:=he i hi
  exact ⟨b,0,c,T,(0,0),x,rfl,by rw [← hb b Z]; exact hc,by rw [Nat.zero_add]; exact hx,(φ i).mono hle hp⟩
theorem rN : ∀ {M:Mem} {i:Nat},(aS (M.eraseIdx i)).Sublist (aS M)
 | [], _ => by simp
 | x :: M, 0 => by simp
 | x :: M, i + 1 => by simp only [List.eraseIdx_cons_succ, blks_cons]; exact List.Sublist.append_left rN _
theorem mn : ∀ (M:Mem) (i:Nat),SubM M (M.eraseIdx i)
 | [], _ => .nil
 | _ :: M, 0 => .drop (SubM.refl M)
 | _ :: M, i + 1 => .keep Ca (mn M i)
theorem iS : ∀ {M:Mem} {i:Nat} {o:Own},(aS M).Nodup→M[i]? = some o → ∀ b∈o.bl,b ∉ aS (M.eraseIdx i)
 | [], _, _, _, h, _, _ => by simp at h
 | x :: M, 0, o, hn, h, b, hb => by
  simp at h;subst h
  rw [blks_cons,List.nodup_append] at hn
  simp only [List.eraseIdx_cons_zero]; intro h';exact hn.2.2 b hb b h' Z
 | x :: M, i + 1, o, hn, h, b, hb => by
  simp at h
  rw [blks_cons,List.nodup_append] at hn
  simp only [List.eraseIdx_cons_succ,blks_cons,List.mem_append,not_or]
  exact ⟨fun h'=>hn.2.2 b h' b (cJ (eG h) hb) Z,iS hn.2.1 h b hb⟩
theorem lf {t i:Nat} {sv:Option Nat} {T:TypeId} {L:Lay} {cap n:Nat} {φ:Nat→VT} (ht:bt Γ t=some (one (slV sv n cap))) (hM:M[i]? = some (aH sv T L cap n φ))
  {a:Act} {w:World} (hS:St E D Γ M a w):St E D ((t,slT L n φ) :: Γ) (M.eraseIdx i) a w:=by
 refine ⟨hS.base.sub (mn M i),hS.sz,hS.df,fun s ψ hs => ?_⟩
 have hle:Hp.le (hv E M w) (hv E (M.eraseIdx i) w):=ld fun b hb=>rN.subset hb
 rw [aW] at hs
 split at hs
 ·rename_i e;subst e;cases hs
  have hval:a.tmps.getD t undef=slV sv n cap:=hS.tm t _ ht
  rw [hval]
  refine Own.freeze (dA hS.base hM) hle (fun b hb => ?_)
  have hbM:b∈aS M:=cJ (eG hM) (by simp [aH,hb])
  have hn:b ∉ E.O ++ aS (M.eraseIdx i):=by
   rw [List.mem_append,not_or]
   exact ⟨hS.base.dis b hbM,iS hS.base.nd hM b (by simp [aH,hb])⟩
  simp only [hv,hid,if_neg hn]
 ·exact ψ.mono hle (hS.tm s ψ hs)
theorem vW {c:Code} {t i:Nat} {b:Option Nat} {T:TypeId} {L:Lay} {cap n:Nat} {φ:Nat→VT} (ht:bt Γ t=some (one (slV b n cap))) (hM:M[i]? = some (aH b T L cap n φ))
  (h:J P E D ((t,slT L n φ) :: Γ) (M.eraseIdx i) c Q):J P E D Γ M c Q:=fun a w hS=>h a w (lf ht hM hS)
theorem dh {e:Exit} {t i:Nat} {b:Option Nat} {T:TypeId} {L:Lay} {cap n:Nat} {φ:Nat→VT} (ht:bt Γ t=some (one (slV b n cap))) (hM:M[i]? = some (aH b T L cap n φ))
  (h:PJ E D ((t,slT L n φ) :: Γ) (M.eraseIdx i) e Q):PJ E D Γ M e Q:=fun a w hS=>h a w (lf ht hM hS)
theorem ij {ops:Array Oper} {i:Nat} {os:List Oper} {K:List Deferred→Ctx→Mem→Prop} {t j:Nat} {b:Option Nat} {T:TypeId} {L:Lay} {cap n:Nat} {φ:Nat→VT} (ht:bt Γ t=some (one (slV b n cap))) (hM:M[j]? = some (aH b T L cap n φ))
  (h:Run P E ops false i D ((t,slT L n φ) :: Γ) (M.eraseIdx j) os K):Run P E ops false i D Γ M os K := .conv (fun a w hS=>lf ht hM hS) h
/-! ### Operations -/
variable {ops:Array Oper} {i:Nat} {ty:TypeId} {pos:String} {af:Array Edge} {os:List Oper} {K:List Deferred→Ctx→Mem→Prop}
theorem Run.one {o:Oper} {K':List Deferred→Ctx→Mem→Prop} (hg:o.guard=none)
  (h : ∀ a w,St E D Γ M a w → ∃ r,(execOp a.eval o).run P w=r∧(match r with
   | .ok (.value v) w' => ∃ D' Γ' M', K' D' Γ' M' ∧ St E D' Γ' M' (a.put o.dst v) w'
   | .ok .skip w' => ∃ D' Γ' M', K' D' Γ' M' ∧ St E D' Γ' M' (a.put o.dst undef) w'
   | _ => False))
  (hr : ∀ D' Γ' M',K' D' Γ' M'→Run P E ops false (i+1) D' Γ' M' os K) (hi:ops[i]? = some o) (hp : ∀ a w,St E D Γ M a w→Co.valK o.op=true→Co.Plain P (execOp a.eval o):=by intro _ _ _ h;cases h):Run P E ops false i D Γ M (o :: os) K:=by
 refine .act (K':=K') (fun a w hS next hn => ?_) hr
 obtain ⟨r,hr',hm⟩:=h a w hS
 simp only [Co.wpOpX,hi,cO hg,if_true]
 refine ⟨hp a w hS,?_⟩
 rw [hr']
 cases r with
 | halt x w' => exact hm.elim
 | ok n w' =>
  cases n with
  | value v => obtain ⟨D', Γ', M', hK, hS'⟩ := hm; exact hn D' Γ' M' _ _ hK hS'
  | skip => obtain ⟨D', Γ', M', hK, hS'⟩ := hm; exact hn D' Γ' M' _ _ hK hS'
  | _ => exact hm.elim
class Flat (φ:VT) (L:outParam Lay):Prop where
 ok : ∀ v h, φ.p v h→v.cells.size=L.sz∧v.cells.all (·.oneCell')=true∧bP L v.cells 0=some v
instance {k:IntKind} {n:Int} : Flat (one (.int k n)) .one:=⟨fun v h e=>by cases e;simp [Value.cells,Lay.sz,Value.oneCell',bP]⟩
instance {b:Bool} : Flat (one (.bool b)) .one:=⟨fun v h e=>by cases e;simp [Value.cells,Lay.sz,Value.oneCell',bP]⟩
instance {a:Option Addr} {n c:Nat} : Flat (one (.slice a n c)) .one:=⟨fun v h e=>by cases e;simp [Value.cells,Lay.sz,Value.oneCell',bP]⟩
instance {s:Option Nat} {n c:Nat} : Flat (one (slV s n c)) .one:=⟨fun v h e=>by cases e;simp [slV,Value.cells,Lay.sz,Value.oneCell',bP]⟩
instance {L:Lay} {n:Nat} {φ:Nat→VT} : Flat (slT L n φ) .one:=⟨fun v h ⟨a,cap,e,_⟩=>by subst e;simp [Value.cells,Lay.sz,Value.oneCell',bP]⟩
instance {m:Nat} {cs:bW} : Flat (bE m cs) (.agg m):=⟨fun v h ⟨c,e,hs,ha,_⟩=>by subst e;subst hs;simp only [Value.cells,Lay.sz,bP]; exact ⟨trivial,ha,by simp⟩⟩
theorem kd {c:Array Value} {m:Nat} (hs:c.size=m) (ha:c.all (·.oneCell')=true):Flat (one (.agg c)) (.agg m):=⟨fun v h e=>by cases e;subst hs;simp only [Value.cells,Lay.sz,bP]; exact ⟨trivial,ha,by simp⟩⟩
theorem ZeroOf.run {T:TypeId} {z:Value} {b:Nat} [h:ZeroOf P T z b] (w:World):(zeroValue T).run P w = .ok z w:=by
 obtain ⟨i,hi,hz,_⟩:=h.info
 simp [zeroValue,Sem.run_bind,fS hi,hz]
theorem aN {T:TypeId} {z:Value} {by':Nat} {L:Lay} {d:Nat} [ZeroOf P T z by'] [hF:Flat (one z) L] (hi:ops[i]? = some ⟨some d, .alloc T,ty,pos,af,none⟩) (hd:d<E.N)
  (h : ∀ b,Run P E ops false (i+1) D ((d,one (.pointer (some ⟨b,0,none⟩))) :: Γ) (aT b T L.sz [(0,L,one z)] :: M) os K) :
  Run P E ops false i D Γ M (⟨some d, .alloc T,ty,pos,af,none⟩ :: os) K:=by
 refine Run.one (K':=fun D' Γ' M' => ∃ b,D'=D∧Γ'=(d,one (.pointer (some ⟨b,0,none⟩))) :: Γ∧M'=aT b T L.sz [(0,L,one z)] :: M) Z (fun a w hS => ?_) (fun D' Γ' M' ⟨b,h1,h2,h3⟩=>by subst h1 h2 h3;exact h b) hi
 refine ⟨.ok (.value (.pointer (some ⟨w.heap.size,0,none⟩))) (w.alloc (.cells z.cells T)),?_,D,_,_,⟨w.heap.size,rfl,rfl,rfl⟩,?_⟩
 ·have hz:=ZeroOf.run (P:=P) (T:=T) w
  simp [execOp,Instr.alloc,Sem.run_bind,hz,newVar,newRow,newObj,Sem.run]
 ·obtain ⟨h1,h2,h3⟩:=hF.ok z (fun _=>none) Z
  refine hS.alloc (o:=aT w.heap.size T L.sz [(0,L,one z)]) Z ⟨z.cells,ci w _ _ _,h1,h2,?_⟩ hd Z
  intro q hq;simp at hq;subst hq;exact ⟨z,h3,rfl⟩
theorem jH {T:TypeId} {x:Operand} {φ:VT} {L:Lay} {d:Nat} [hF:Flat φ L] (hx:aB Γ x=some φ) (hi:ops[i]? = some ⟨some d, .box T x,ty,pos,af,none⟩) (hd:d<E.N)
  (h : ∀ b,Run P E ops false (i+1) D ((d,one (.pointer (some ⟨b,0,none⟩))) :: Γ) (aT b T L.sz [(0,L, φ)] :: M) os K) :
  Run P E ops false i D Γ M (⟨some d, .box T x,ty,pos,af,none⟩ :: os) K:=by
 refine Run.one (K':=fun D' Γ' M' => ∃ b,D'=D∧Γ'=(d,one (.pointer (some ⟨b,0,none⟩))) :: Γ∧M'=aT b T L.sz [(0,L, φ)] :: M) Z (fun a w hS => ?_) (fun D' Γ' M' ⟨b,h1,h2,h3⟩=>by subst h1 h2 h3;exact h b) hi
 have hp:=cq hS hx
 refine ⟨.ok (.value (.pointer (some ⟨w.heap.size,0,none⟩))) (w.alloc (.cells (a.eval x).cells T)),?_,D,_,_,⟨w.heap.size,rfl,rfl,rfl⟩,?_⟩
 ·simp [execOp,Instr.box,Sem.run_bind,newVar,newRow,newObj,Sem.run]
 ·obtain ⟨h1,h2,h3⟩:=hF.ok _ _ hp
  refine hS.alloc (o:=aT w.heap.size T L.sz [(0,L, φ)]) Z ⟨(a.eval x).cells,ci w _ _ _,h1,h2,?_⟩ hd Z
  intro q hq;simp at hq;subst hq;exact ⟨_,h3,hp⟩
theorem bJ {T:TypeId} {x:Operand} {m:Nat} {cs:bW} {d:Nat} (hx:aB Γ x=some (bE m cs)) (hi:ops[i]? = some ⟨some d, .box T x,ty,pos,af,none⟩) (hd:d<E.N)
  (h : ∀ b,Run P E ops false (i+1) D ((d,one (.pointer (some ⟨b,0,none⟩))) :: Γ) (aT b T m cs :: M) os K) :
  Run P E ops false i D Γ M (⟨some d, .box T x,ty,pos,af,none⟩ :: os) K:=by
 refine Run.one (K':=fun D' Γ' M' => ∃ b,D'=D∧Γ'=(d,one (.pointer (some ⟨b,0,none⟩))) :: Γ∧M'=aT b T m cs :: M) Z (fun a w hS => ?_) (fun D' Γ' M' ⟨b,h1,h2,h3⟩=>by subst h1 h2 h3;exact h b) hi
 obtain ⟨c,hc,hs,ha,hcs⟩:=cq hS hx
 refine ⟨.ok (.value (.pointer (some ⟨w.heap.size,0,none⟩))) (w.alloc (.cells c T)),?_,D,_,_,⟨w.heap.size,rfl,rfl,rfl⟩,?_⟩
 ·simp [execOp,Instr.box,Sem.run_bind,newVar,newRow,newObj,Sem.run,hc,Value.cells]
 ·exact hS.alloc (o:=aT w.heap.size T m cs) Z ⟨c,ci w _ _ _,hs,ha,hcs⟩ hd Z
def kf:bW→Nat→VT→bW
 | [], _, _ => []
 | (k, l, v) :: r, t, ψ => bif Nat.beq k t then (k, l, ψ) :: r else (k, l, v) :: kf r t ψ
def eV:bW→Bool
 | [] => true
 | (k, l, _) :: r => r.all (fun q => decide (k + l.sz ≤ q.1) || decide (q.1 + q.2.1.sz ≤ k)) && eV r
theorem oF {c vs:Array Value} {h:Hp} {o:Nat} {L:Lay} {φ ψ:VT} {v:Value} (hle:o+vs.size≤c.size) (hvs:vs.size=L.sz) (hv:bP L (ct c o vs) o=some v) (hp:ψ.p v h) :
  ∀ {cs:bW},eV cs=true→fP cs o=some (L, φ)→gk cs c h→gk (kf cs o ψ) (ct c o vs) h
 | [], _, hl, _ => by cases hl
 | (k, l, u) :: r, ha, hl, hc => by
  simp only [eV,Bool.and_eq_true,List.all_eq_true,Bool.or_eq_true,decide_eq_true_eq] at ha
  rw [fP] at hl;rw [kf]
  by_cases e:Nat.beq k o=true
  ·rw [e] at hl ⊢; simp only [cond_true,Option.some.injEq,Prod.mk.injEq] at hl ⊢
   have hk:=Nat.eq_of_beq_eq_true e;subst hk
   obtain ⟨rfl,rfl⟩:=hl
   intro q hq
   rcases List.mem_cons.1 hq with rfl | hq
   ·exact ⟨v,hv,hp⟩
   ·obtain ⟨x,hx,hpx⟩:=hc q (List.mem_cons_of_mem _ hq)
    refine ⟨x,?_,hpx⟩
    rw [dg hle]; · exact hx
    have:=ha.1 q hq;omega
  ·have e':Nat.beq k o=false:=by cases h':Nat.beq k o with | true=>exact absurd h' e | false=>rfl
   rw [e'] at hl ⊢; simp only [cond_false] at hl ⊢
   intro q hq
   rcases List.mem_cons.1 hq with rfl | hq
   ·obtain ⟨x,hx,hpx⟩:=hc (k,l,u) List.mem_cons_self
    refine ⟨x,?_,hpx⟩
    have hm:=dU hl
    have:=ha.1 _ hm
    simp only at this hx ⊢
    rw [dg hle]; · exact hx
    omega
   ·exact oF hle hvs hv hp ha.2 hl (fun q hq=>hc q (List.mem_cons_of_mem _ hq)) q hq
theorem im {c vs:Array Value} {o:Nat} (h1:c.all (·.oneCell')=true) (h2:vs.all (·.oneCell')=true):(ct c o vs).all (·.oneCell')=true:=by
 simp only [ct,Array.all_eq_true_iff_forall_mem,List.mem_toArray,List.mem_append] at *
 rintro x ((h | h) | h)
 ·exact h1 x (by simpa using List.mem_of_mem_take h)
 ·exact h2 x (by simpa using h)
 ·exact h1 x (by simpa using List.mem_of_mem_drop h)
theorem az {T T':TypeId} {x y:Operand} {b o m:Nat} {cs:bW} {L:Lay} {φ ψ:VT} [hL:LayOf P T L] [hF:Flat ψ L] (j:Nat) (hx:aB Γ x=some (one (.pointer (some ⟨b,o,none⟩)))) (hy:aB Γ y=some ψ)
  (hM:M[j]? = some (aT b T' m cs)) (hl:fP cs o=some (L, φ)) (ha:eV cs=true) (hle:o+L.sz≤m) (hi:ops[i]? = some ⟨none, .store T x y,ty,pos,af,none⟩)
  (h:Run P E ops false (i+1) D Γ (M.set j (aT b T' m (kf cs o ψ))) os K):Run P E ops false i D Γ M (⟨none, .store T x y,ty,pos,af,none⟩ :: os) K:=by
 refine Run.one (K':=fun D' Γ' M'=>D'=D∧Γ'=Γ∧M'=M.set j (aT b T' m (kf cs o ψ))) Z (fun a w hS => ?_) (fun D' Γ' M' ⟨h1,h2,h3⟩=>by subst h1 h2 h3;exact h) hi
 have h1:a.eval x = .pointer (some ⟨b,o,none⟩):=cq hS hx
 have h2:=cq hS hy
 obtain ⟨f1,f2,f3⟩:=hF.ok _ _ h2
 obtain ⟨c,hc,hs,hall,hcs⟩:=dA hS.base hM
 have hst:=dq (P:=P) (T:=T) (L:=L) (o:=o) hc f1 X f2
 refine ⟨.ok .skip (w.setRow b (ct c o (a.eval y).cells)),?_,D, Γ,_,⟨rfl,rfl,rfl⟩,?_⟩
 ·simp only [execOp,h1,Instr.storeAt,Instr.sureAddr,Sem.run_bind,Sem.run_pure,Result.andThen_ok,hst]
 ·show St E D Γ _ a _
  refine hS.own hM Z (fun k hk=>c7 _ _ _ _ (by intro e;exact hk (by simp [aT,e]))) (dI _ _ _) Z Z Z ?_
  refine ⟨_,dH hc,by rw [cP X]; exact hs,im hall f2,oF X f1 (dN X f1 f3) h2 ha hl hcs⟩
theorem bX {T T':TypeId} {x y:Operand} {b m:Nat} {cs cs':bW} [hL:LayOf P T (.agg m)] (j:Nat) (hx:aB Γ x=some (one (.pointer (some ⟨b,0,none⟩)))) (hy:aB Γ y=some (bE m cs'))
  (hM:M[j]? = some (aT b T' m cs)) (hi:ops[i]? = some ⟨none, .store T x y,ty,pos,af,none⟩)
  (h:Run P E ops false (i+1) D Γ (M.set j (aT b T' m cs')) os K):Run P E ops false i D Γ M (⟨none, .store T x y,ty,pos,af,none⟩ :: os) K:=by
 refine Run.one (K':=fun D' Γ' M'=>D'=D∧Γ'=Γ∧M'=M.set j (aT b T' m cs')) Z (fun a w hS => ?_) (fun D' Γ' M' ⟨h1,h2,h3⟩=>by subst h1 h2 h3;exact h) hi
 have h1:a.eval x = .pointer (some ⟨b,0,none⟩):=cq hS hx
 obtain ⟨c',hc',hs',ha',hcs'⟩:=cq hS hy
 obtain ⟨c,hc,hs,hall,hcs⟩:=dA hS.base hM
 have hst:=dq (P:=P) (T:=T) (L := .agg m) (v:=a.eval y) (o:=0) hc (by rw [hc']; exact hs') (by simp [Lay.sz,hs]) (by rw [hc']; exact ha')
 have hsp:ct c 0 (a.eval y).cells=c':=by
  rw [hc']; show ct c 0 c'=c'
  apply Array.ext_getElem?; intro k
  rw [dT X]
  by_cases hk:k<c'.size
  ·rw [if_pos X]; rfl
  ·rw [if_neg X,Array.getElem?_eq_none X,Array.getElem?_eq_none X]
 refine ⟨.ok .skip (w.setRow b c'),?_,D, Γ,_,⟨rfl,rfl,rfl⟩,?_⟩
 ·simp only [execOp,h1,Instr.storeAt,Instr.sureAddr,Sem.run_bind,Sem.run_pure,Result.andThen_ok,hst,hsp]
 ·show St E D Γ _ a _
  refine hS.own hM Z (fun k hk=>c7 _ _ _ _ (by intro e;exact hk (by simp [aT,e]))) (dI _ _ _) Z Z Z ?_
  exact ⟨c',dH hc,hs',ha',hcs'⟩
theorem au {T T':TypeId} {x y:Operand} {b k cap n:Nat} {φ:Nat→VT} {L:Lay} {ψ:VT} [hL:LayOf P T L] [hF:Flat ψ L] (j:Nat) (hx:aB Γ x=some (eP b k L.sz)) (hy:aB Γ y=some ψ)
  (hM:M[j]? = some (aH (some b) T' L cap n φ)) (hk:k<n) (hi:ops[i]? = some ⟨none, .store T x y,ty,pos,af,none⟩)
  (h:Run P E ops false (i+1) D Γ (M.set j (aH (some b) T' L cap n (upd φ k ψ))) os K):Run P E ops false i D Γ M (⟨none, .store T x y,ty,pos,af,none⟩ :: os) K:=by
 refine Run.one (K':=fun D' Γ' M'=>D'=D∧Γ'=Γ∧M'=M.set j (aH (some b) T' L cap n (upd φ k ψ))) Z (fun a w hS => ?_) (fun D' Γ' M' ⟨h1,h2,h3⟩=>by subst h1 h2 h3;exact h) hi
 have h1:a.eval x = .pointer (some ⟨b,k*L.sz,none⟩):=cq hS hx
 have h2:=cq hS hy
 obtain ⟨f1,f2,f3⟩:=hF.ok _ _ h2
 obtain ⟨g1,g2,g3,g4⟩:=dA hS.base hM
 obtain ⟨c,hc,hs,he⟩:=g4 b Z
 have hmul : ∀ q,q<cap→q*L.sz+L.sz≤cap*L.sz:=fun q hq=>by
  have:=Nat.mul_le_mul_right L.sz (show q+1≤cap by omega);rwa [Nat.succ_mul] at this
 have hfit:k*L.sz+L.sz≤c.size:=by rw [hs]; exact hmul k X
 have hst:=dq (P:=P) (T:=T) (L:=L) (o:=k*L.sz) hc f1 hfit f2
 refine ⟨.ok .skip (w.setRow b (ct c (k*L.sz) (a.eval y).cells)),?_,D, Γ,_,⟨rfl,rfl,rfl⟩,?_⟩
 ·simp only [execOp,h1,Instr.storeAt,Instr.sureAddr,Sem.run_bind,Sem.run_pure,Result.andThen_ok,hst]
 ·show St E D Γ _ a _
  refine hS.own hM Z (fun k' hk'=>c7 _ _ _ _ (by intro e;exact hk' (by simp [aH,e]))) (dI _ _ _) Z Z Z ?_
  refine ⟨g1,g2,g3,fun b' hb' => ?_⟩
  cases hb'
  refine ⟨_,dH hc,by rw [cP X]; exact hs,fun q hq => ?_⟩
  unfold upd
  by_cases e:q=k
  ·subst e;rw [if_pos Z]; exact ⟨_,dN hfit f1 f3,h2⟩
  ·rw [if_neg e]
   obtain ⟨v,hv,hp⟩:=he q hq
   refine ⟨v,?_,hp⟩
   rw [dg X]; · exact hv
   rw [f1]
   rcases Nat.lt_or_ge q k with h' | h'
   ·left
    have:=Nat.mul_le_mul_right L.sz (show q+1≤k by omega);rwa [Nat.succ_mul] at this
   ·right
    have:=Nat.mul_le_mul_right L.sz (show k+1≤q by omega);rwa [Nat.succ_mul] at this
end
end Tor
end
section
namespace Tor
open Go Go.RowKit
variable [Tor.Co.Kc]
section
variable {P:Program} {E:Env} {D:List Deferred} {Γ:Ctx} {M:Mem} {Q:Exit→Act→World→Prop}
variable {ops:Array Oper} {i:Nat} {ty:TypeId} {pos:String} {af:Array Edge} {os:List Oper} {K:List Deferred→Ctx→Mem→Prop} {d:Option Tmp} {gd:Option (Nat × Bool)}
def dt (z:Array Value) (n:Nat):Array Value:=(Array.range n).map (z[· % z.size]!)
theorem eO (z:Array Value) (n:Nat):(dt z n).size=n:=by simp [dt]
theorem nG {z:Array Value} {n k:Nat} (hk:k<n) (hz:0<z.size):(dt z n)[k]? = z[k % z.size]? := by
 have:k % z.size<z.size:=Nat.mod_lt _ hz
 simp [dt,hk,this]
theorem jL {L:Lay} {v:Value} {n q:Nat} (hs:v.cells.size=L.sz) (hv:bP L v.cells 0=some v) (hq:q<n) (hz:0<L.sz):bP L (dt v.cells (n*L.sz)) (q*L.sz)=some v:=by
 have hfit:q*L.sz+L.sz≤n*L.sz:=by
  have:=Nat.mul_le_mul_right L.sz (show q+1≤n by omega);rwa [Nat.succ_mul] at this
 cases L with
 | one =>
  simp only [bP,Lay.sz,Nat.mul_one] at *
  rw [nG hq X,hs,Nat.mod_one]; exact hv
 | agg m =>
  have hs:v.cells.size=m:=hs
  have hz:0<m:=hz
  have hfit:q*m+m≤n*m:=hfit
  have hv:(if 0+m≤v.cells.size then some (Value.agg (v.cells.extract 0 (0+m))) else none)=some v:=hv
  show (if q*m+m≤(dt v.cells (n*m)).size then some (Value.agg ((dt v.cells (n*m)).extract (q*m) (q*m+m))) else none)=some v
  rw [if_pos X] at hv
  rw [eO,if_pos X, ← hv]
  congr 2
  apply Array.ext_getElem?; intro k
  have h0:=cI v.cells 0 m k
  rw [Nat.zero_add] at h0
  rw [cI,Nat.zero_add,h0]
  by_cases hk:k<m
  ·rw [if_pos hk,if_pos hk,Nat.zero_add,nG X X,hs]
   have:(q*m+k) % m=k:=by rw [Nat.mul_comm,Nat.mul_add_mod]; exact Nat.mod_eq_of_lt hk
   rw [this]
  ·rw [if_neg hk,if_neg hk]
theorem yx {k:IntKind} {n:Int} (h1:k.min≤n) (h2:n≤k.max):k.wrap n=n:=by
 cases k <;> simp [IntKind.wrap,IntKind.bits,IntKind.signed,IntKind.min,IntKind.max] at * <;> omega
theorem aR {n:Int} (h1 : -9223372036854775808≤n) (h2:n≤9223372036854775807):IntKind.i64.wrap n=n:=yx (by simp [IntKind.min,IntKind.signed,IntKind.bits]; omega) (by simp [IntKind.max,IntKind.signed,IntKind.bits]; omega)
theorem cY (n:Int):IntKind.u64.wrap n=n % 18446744073709551616:=by simp [IntKind.wrap,IntKind.bits,IntKind.signed]
theorem mo (n:Int):IntKind.u32.wrap n=n % 4294967296:=by simp [IntKind.wrap,IntKind.bits,IntKind.signed]
theorem yy (n:Int):IntKind.u8.wrap n=n % 256:=by simp [IntKind.wrap,IntKind.bits,IntKind.signed]
theorem mp {n:Nat} (h:n≤2^48):IntKind.i64.wrap (n:Int)=n:=aR X X
theorem pX (n:Nat) (w:World):(askRoom n).run P w = .ok () w:=by unfold askRoom;split <;> rfl
theorem io (T:TypeId) (c:Array Value) (w:World):(newRow T c).run P w = .ok ⟨w.heap.size,0,none⟩ (w.alloc (.cells c T)):=by
 simp [newRow,Sem.run_bind,newObj,Sem.run]
theorem gQ {T e:TypeId} {z:Value} {by':Nat} {L:Lay} {l n:Nat} [hS:SliceOf P T e] [hL:LayOf P e L] [hZ:ZeroOf P e z by'] (hb0:0<by') (hln:l≤n) (hn:by'*n≤2^48) (w:World) :
  (Instr.makeSlice T (.int .i64 l) (.int .i64 n)).run P w = .ok (slV (some w.heap.size) l n) (w.alloc (.cells (dt z.cells (n*L.sz)) e)):=by
 obtain ⟨ti,hti,htz,htb⟩:=hZ.info
 have hn48:n≤2^48:=by
  have:n≤by'*n:=Nat.le_mul_of_pos_left n hb0
  omega
 have hw:=mp hn48
 have hwl:=mp (show l≤2^48 by omega)
 have hle:((by':Int)*n)≤2^48:=by
  have:((by'*n:Nat):Int)≤2^48:=by exact_mod_cast hn
  rw [Int.natCast_mul] at this;omega
 unfold Instr.makeSlice
 simp only [Sem.run_bind,aO hS.und,Result.andThen_ok,asInt,asIntOf,Sem.run_pure,fS hti,htb,hw,hwl]
 rw [if_neg (by simp;omega)]
 simp only [Sem.run_bind,pX,Result.andThen_ok,cn (L:=L),Int.toNat_natCast]
 split
 ·rename_i h0
  simp only [Sem.run_pure,Sem.run_bind,Result.andThen_ok,io,h0]
  rw [show dt z.cells 0=Array.map (fun x=>default) (Array.range 0) by simp [dt]]; rfl
 ·simp only [Sem.run_pure,Sem.run_bind,Result.andThen_ok,io,ZeroOf.run (z:=z)]
  simp [slV,dt]
theorem cA {T e:TypeId} {z:Value} {by':Nat} {L:Lay} {x y:Operand} {il ic:Int} {d:Nat} [hS:SliceOf P T e] [hL:LayOf P e L] [hZ:ZeroOf P e z by'] [hF:Flat (one z) L] (l n:Nat) (hx:aB Γ x=some (one (.int .i64 il))) (hy:aB Γ y=some (one (.int .i64 ic)))
  (hil:il=l) (hic:ic=n) (hln:l≤n) (hb0:Nat.ble 1 by'=true) (hz0:Nat.ble 1 L.sz=true) (hn:by'*n≤2^48) (hi:ops[i]? = some ⟨some d, .makeSlice T x y,ty,pos,af,none⟩) (hd:Nat.ble (d+1) E.N=true)
  (h : ∀ b,Run P E ops false (i+1) D ((d,one (slV (some b) l n)) :: Γ) (aH (some b) e L n l (fun _=>one z) :: M) os K) :
  Run P E ops false i D Γ M (⟨some d, .makeSlice T x y,ty,pos,af,none⟩ :: os) K:=by
 have hb0:=Nat.le_of_ble_eq_true hb0
 have hz0:=Nat.le_of_ble_eq_true hz0
 have hd:d<E.N:=Nat.le_of_ble_eq_true hd
 subst hil hic
 refine Run.one (K':=fun D' Γ' M' => ∃ b,D'=D∧Γ'=(d,one (slV (some b) l n)) :: Γ∧M'=aH (some b) e L n l (fun _=>one z) :: M) Z (fun a w hSt => ?_) (fun D' Γ' M' ⟨b,h1,h2,h3⟩=>by subst h1 h2 h3;exact h b) hi
 have hx':a.eval x = .int .i64 l:=cq hSt hx
 have hy':a.eval y = .int .i64 n:=cq hSt hy
 obtain ⟨h1,h2,h3⟩:=hF.ok z (fun _=>none) Z
 have hn48:n≤2^48:=by
  have:n≤by'*n:=Nat.le_mul_of_pos_left n hb0
  omega
 refine ⟨.ok (.value (slV (some w.heap.size) l n)) (w.alloc (.cells (dt z.cells (n*L.sz)) e)),?_,D,_,_,⟨w.heap.size,rfl,rfl,rfl⟩,?_⟩
 ·simp only [execOp,hx',hy',Sem.run_bind,gQ hb0 hln hn,Result.andThen_ok,Sem.run_pure]
 ·refine hSt.alloc (o:=aH (some w.heap.size) e L n l (fun _=>one z)) Z ⟨hln,by omega,(fun h=>by cases h),fun b hb => ?_⟩ hd Z
  cases hb
  refine ⟨_,ci w _ _ _,eO _ _,fun q hq=>⟨z,jL h1 h3 X hz0,rfl⟩⟩
/-! ### Slices that are cut -/
def kg (Γ:Ctx) (x:Option Operand) (dv:VT):Option VT:=match x with | none=>some dv | some y=>aB Γ y
theorem cK {k:IntKind} {iv:Int} {y:Nat} {code:BoundsCode} (h0:0≤iv) (h1:iv≤y) (w:World):(Instr.sliceBound (.int k iv) y code).run P w = .ok iv.toNat w:=by
 simp [Instr.sliceBound,asIntOf,h0,h1]
theorem fT {T e:TypeId} {L:Lay} [hS:SliceOf P T e] [hL:LayOf P e L] {x:Operand} {lo hi mx:Option Operand} {n:Nat} {φ:Nat→VT} {kl kh km:IntKind} {l h m:Int} (hx:aB Γ x=some (slT L n φ))
  (hlo:kg Γ lo (one (.int .i64 0))=some (one (.int kl l))) (hhi:kg Γ hi (one (.int .i64 n))=some (one (.int kh h))) (hmx:kg Γ mx (one (.int .i64 n))=some (one (.int km m)))
  (hmh:mx.isSome=true→hi.isSome=true) (h0:0≤l) (h1:l≤h) (h2:h≤m) (h3:m≤n) :
  aC P E Γ M ⟨d, .slice T x lo hi mx,ty,pos,af,gd⟩ (slT L (h - l).toNat (fun j=>φ (l.toNat+j))) :=
 aC.ofRun fun a w hb hf=>by
  obtain ⟨ad,cap,hv',g1,g2,he⟩:=hf x _ (by simp [Op.operands]) hx
  have hl : ∀ y,lo=some y→a.eval y = .int kl l:=fun y hy=>by subst hy;exact hf y _ (by simp [Op.operands]) hlo
  have hh : ∀ y,hi=some y→a.eval y = .int kh h:=fun y hy=>by subst hy;exact hf y _ (by simp [Op.operands]) hhi
  have hm : ∀ y,mx=some y→a.eval y = .int km m:=fun y hy=>by subst hy;exact hf y _ (by simp [Op.operands]) hmx
  have hl0:lo=none→l=0:=fun hy=>by subst hy;simp [kg,one] at hlo;have:=congrFun (congrFun hlo (.int .i64 0)) (fun _=>none);simp at this;exact this.2.symm
  have hh0:hi=none→h=n:=fun hy=>by subst hy;simp [kg,one] at hhi;have:=congrFun (congrFun hhi (.int .i64 n)) (fun _=>none);simp at this;exact this.2.symm
  have hbd : ∃ mm:Nat,(Instr.sliceBounds true n cap (lo.map a.eval) (hi.map a.eval) (mx.map a.eval)).run P w = .ok (l.toNat,h.toNat,mm) w∧h.toNat≤mm∧mm≤cap:=by
   cases mx with
   | some y =>
    obtain ⟨z,rfl⟩ : ∃ z,hi=some z:=by cases hi with | none=>simp at hmh | some z=>exact ⟨z,rfl⟩
    refine ⟨m.toNat,?_,by omega,by omega⟩
    have e1:=cK (P:=P) (k:=km) (iv:=m) (y:=cap) (code := .slice3Acap) X X w
    have e2:=cK (P:=P) (k:=kh) (iv:=h) (y:=m.toNat) (code := .slice3B) X X w
    cases lo with
    | none => simp [Instr.sliceBounds, Sem.run_bind, hm y Z, hh z Z, e1, e2, hl0 Z]
    | some u =>
     have e3:=cK (P:=P) (k:=kl) (iv:=l) (y:=h.toNat) (code := .slice3C) X X w
     simp [Instr.sliceBounds,Sem.run_bind,hm y Z,hh z Z,hl u Z,e1,e2,e3]
   | none =>
    refine ⟨cap,?_,by omega,by omega⟩
    cases hi with
    | some z =>
     have e2:=cK (P:=P) (k:=kh) (iv:=h) (y:=cap) (code := .sliceAcap) X X w
     cases lo with
     | none => simp [Instr.sliceBounds, Sem.run_bind, hh z Z, e2, hl0 Z]
     | some u =>
      have e3:=cK (P:=P) (k:=kl) (iv:=l) (y:=h.toNat) (code := .sliceB) X X w
      simp [Instr.sliceBounds,Sem.run_bind,hh z Z,hl u Z,e2,e3]
    | none =>
     cases lo with
     | none => simp [Instr.sliceBounds, Sem.run_bind, hl0 Z, hh0 Z]
     | some u =>
      have e3:=cK (P:=P) (k:=kl) (iv:=l) (y:=n) (code := .sliceB) X (by have:=hh0 Z;omega) w
      simp [Instr.sliceBounds,Sem.run_bind,hl u Z,e3,hh0 Z]
  obtain ⟨mm,hrun,hmm,hmc⟩:=hbd
  have hdesc : ∀ y:Value,(Instr.sliceAt T (.slice ad n cap) (lo.map a.eval) (hi.map a.eval) (mx.map a.eval)).run P w = .ok (.slice (if mm=l.toNat then ad else ad.map (·.add (l.toNat*L.sz))) (h.toNat - l.toNat) (mm - l.toNat)) w:=by
   intro _
   simp only [Instr.sliceAt,Sem.run_bind,aO hS.und,Result.andThen_ok,Instr.slice,hrun,cn (L:=L),Sem.run_pure]
  refine ⟨_,by simp only [execOp,hv',Sem.run_bind,hdesc undef,Result.andThen_ok,Sem.run_pure]; rfl,?_⟩
  refine ⟨_,_,by rw [show (h - l).toNat=h.toNat - l.toNat by omega],by omega,by omega,fun j hj => ?_⟩
  obtain ⟨b,o,c,T',f,v,h4,h5,h6,h7⟩:=he (l.toNat+j) X
  have hne : ¬ (mm=l.toNat):=by omega
  refine ⟨b,o+l.toNat*L.sz,c,T',f,v,?_,h5,?_,h7⟩
  ·rw [if_neg hne,h4]; simp [cX]
  ·rw [Nat.add_mul] at h6;rw [Nat.add_assoc]; exact h6
end
end Tor
namespace Tor
open Go Go.RowKit
variable [Tor.Co.Kc]
section
variable {P:Program} {E:Env} {D:List Deferred} {Γ:Ctx} {M:Mem} {ops:Array Oper} {i:Nat} {op:Op} {ty:TypeId} {pos:String} {af:Array Edge} {os:List Oper} {K:List Deferred→Ctx→Mem→Prop} {dr:Bool}
theorem ltN {a b:Nat} (h:Nat.ble (a+1) b=true):a<b:=Nat.le_of_ble_eq_true h
theorem st {d:Nat} {ψ:VT} (h:aC P E Γ M ⟨some d,op,ty,pos,af,none⟩ ψ) (hd:Nat.ble (d+1) E.N=true) (hr:Run P E ops dr (i+1) D ((d, ψ) :: Γ) M os K) :
  Run P E ops dr i D Γ M (⟨some d,op,ty,pos,af,none⟩ :: os) K := .step (.plain h Z Z (ltN hd)) hr
theorem _root_.Cb {P:Program} {E:Env} {D:List Deferred} {Γ:Ctx} {M:Mem} {ops:Array Oper} {i:Nat} {op:Op} {ty:TypeId} {pos:String} {af:Array Edge} {os:List Oper} {K:List Deferred→Ctx→Mem→Prop} {dr:Bool} {d:Nat} {ψ:VT} (h:aC P E Γ M ⟨some d,op,ty,pos,af,none⟩ ψ) (hr:Run P E ops dr (i+1) D ((d, ψ) :: Γ) M os K) (hd:Nat.ble (d+1) E.N=true:=by exact rfl):Run P E ops dr i D Γ M (⟨some d,op,ty,pos,af,none⟩ :: os) K:=st h hd hr
theorem _root_.Cc {P:Program} {E:Env} {D:List Deferred} {Γ:Ctx} {M:Mem} {ops:Array Oper} {i:Nat} {ty:TypeId} {pos:String} {af:Array Edge} {os:List Oper} {K:List Deferred→Ctx→Mem→Prop} {dr:Bool} {d:Nat} {ψ:VT} {x:Operand} (hx:aB Γ x=some ψ) (hr:Run P E ops dr (i+1) D ((d, ψ) :: Γ) M os K) (hd:Nat.ble (d+1) E.N=true:=by exact rfl):Run P E ops dr i D Γ M (⟨some d, .move x,ty,pos,af,none⟩ :: os) K:=st (ab hx) hd hr
theorem _root_.Cd {P:Program} {E:Env} {D:List Deferred} {Γ:Ctx} {M:Mem} {ops:Array Oper} {i:Nat} {ty:TypeId} {pos:String} {af:Array Edge} {os:List Oper} {K:List Deferred→Ctx→Mem→Prop} {dr:Bool} {d:Nat} {ψ:VT} {x:Operand} (hx:aB Γ x=some ψ) (hr:Run P E ops dr (i+1) D ((d, ψ) :: Γ) M os K) (hd:Nat.ble (d+1) E.N=true:=by exact rfl):Run P E ops dr i D Γ M (⟨some d, .assign x,ty,pos,af,none⟩ :: os) K:=st (ah hx) hd hr
end
end Tor
namespace Tor
variable [Tor.Co.Kc]
theorem fL {L:Lay} {n:Nat} {φ ψ:Nat→VT} (H : ∀ i,i<n→VT.le (φ i) (ψ i)):VT.le (slT L n φ) (slT L n ψ) :=
 fun v h ⟨a,cap,h1,h2,h3,h4⟩=>⟨a,cap,h1,h2,h3,fun i hi=>let ⟨b,o,c,T,f,x,k1,k2,k3,k4⟩:=h4 i hi;⟨b,o,c,T,f,x,k1,k2,k3,H i hi _ _ k4⟩⟩
theorem cH {L:Lay} {n m:Nat} {φ ψ:Nat→VT} (hn:n=m) (H : ∀ i,i<n→φ i=ψ i):VT.le (slT L n φ) (slT L m ψ):=by
 subst hn;exact fL fun i hi=>by rw [H i hi]; exact VT.le_refl _
theorem fd {L:Lay} {n:Nat} {φ:Nat→VT} {v:Go.Value} {h:Hp} (H:(slT L n φ).p v h):n≤2^48:=by
 obtain ⟨_,_,_,h1,h2,_⟩:=H;omega
end Tor
end
