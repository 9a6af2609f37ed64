/-
  A proof layer over the kit's weakest preconditions: contexts of unary predicates on slots, a hidden heap, own blocks.
  No condition: general theorems over any program.
-/
import Derived.WalkKit
import Derived.Orders
import Derived.Scope
namespace Tor
open Go Go.RowKit

/-! ### Memory views -/
abbrev Blk := Array Value × TypeId × (Nat × Nat)
abbrev Hp := Nat → Option Blk
def Hp.le (h h' : Hp) : Prop := ∀ b x, h b = some x → h' b = some x
theorem Hp.le_refl (h : Hp) : Hp.le h h := fun _ _ e => e
theorem Hp.le_trans {a b c : Hp} (h : Hp.le a b) (k : Hp.le b c) : Hp.le a c := fun _ _ e => k _ _ (h _ _ e)
def view (w : World) : Hp := fun b => match w.heap[b]? with | some (.cells c T f) => some (c, T, f) | _ => none
def hid (O : List Nat) (h : Hp) : Hp := fun b => if b ∈ O then none else h b
theorem hid_le (O : List Nat) (h : Hp) : Hp.le (hid O h) h := by
  intro b x e; unfold hid at e; split at e
  · cases e
  · exact e
theorem hid_mono {O : List Nat} {h h' : Hp} (H : Hp.le h h') : Hp.le (hid O h) (hid O h') := by
  intro b x e; unfold hid at e ⊢; split at e
  · cases e
  · rename_i hn; rw [if_neg hn]; exact H _ _ e
theorem hid_sub {O O' : List Nat} {h : Hp} (H : ∀ b, b ∈ O' → b ∈ O) : Hp.le (hid O h) (hid O' h) := by
  intro b x e; unfold hid at e ⊢; split at e
  · cases e
  · rename_i hn; rw [if_neg (fun k => hn (H _ k))]; exact e
theorem hid_some {O : List Nat} {h : Hp} {b : Nat} {x : Blk} (e : hid O h b = some x) : b ∉ O ∧ h b = some x := by
  unfold hid at e; split at e
  · cases e
  · rename_i hn; exact ⟨hn, e⟩
theorem hid_of {O : List Nat} {h : Hp} {b : Nat} {x : Blk} (hn : b ∉ O) (e : h b = some x) : hid O h b = some x := by
  unfold hid; rw [if_neg hn]; exact e

theorem view_some {w : World} {b : Nat} {c : Array Value} {T : TypeId} {f : Nat × Nat} (e : view w b = some (c, T, f)) : w.heap[b]? = some (.cells c T f) := by
  unfold view at e; split at e
  · rename_i h; cases e; exact h
  · cases e
theorem view_of {w : World} {b : Nat} {c : Array Value} {T : TypeId} {f : Nat × Nat} (e : w.heap[b]? = some (.cells c T f)) : view w b = some (c, T, f) := by
  unfold view; rw [e]
theorem view_lt {w : World} {b : Nat} {x : Blk} (e : view w b = some x) : b < w.heap.size := by
  obtain ⟨c, T, f⟩ := x
  have := view_some e
  rcases Nat.lt_or_ge b w.heap.size with h | h
  · exact h
  · rw [Array.getElem?_eq_none h] at this; cases this
theorem view_cell {w : World} {b : Nat} {c : Array Value} {T : TypeId} {f : Nat × Nat} (e : view w b = some (c, T, f)) (o : Nat) : w.cell? ⟨b, o, none⟩ = c[o]? := by
  simp [World.cell?, view_some e]
theorem view_frozen {w : World} {b : Nat} {c : Array Value} {T : TypeId} (e : view w b = some (c, T, (0, 0))) (o : Nat) : w.frozen? ⟨b, o, none⟩ = false := by
  simp [World.frozen?, view_some e]

/-- Everything that existed is as it was. -/
abbrev Ext (w w' : World) : Prop := Below w.heap.size w w'
theorem Ext.view {w w' : World} (h : Ext w w') : Hp.le (view w) (view w') := by
  intro b x e
  have hb := view_lt e
  obtain ⟨c, T, f⟩ := x
  exact view_of ((h.block b hb).trans (view_some e))
theorem Ext.refl (w : World) : Ext w w := Below.refl _ _
theorem Ext.trans {a b c : World} (h : Ext a b) (k : Ext b c) : Ext a c := Below.trans h (Below.mono k h.size)
theorem Ext.alloc (w : World) (o : Obj) : Ext w (w.alloc o) := (Below.refl _ _).alloc (Nat.le_refl _) o
theorem view_alloc_self (w : World) (c : Array Value) (T : TypeId) (f : Nat × Nat) : Tor.view (w.alloc (.cells c T f)) w.heap.size = some (c, T, f) := by
  apply view_of; show (w.heap.push _)[_]? = _; simp

/-! ### Predicates on values -/
structure VT where
  p : Value → Hp → Prop
  mono : ∀ {v h h'}, Hp.le h h' → p v h → p v h'

def VT.le (φ ψ : VT) : Prop := ∀ v h, φ.p v h → ψ.p v h
theorem VT.le_refl (φ : VT) : VT.le φ φ := fun _ _ h => h
theorem VT.le_trans {a b c : VT} (h : VT.le a b) (k : VT.le b c) : VT.le a c := fun _ _ e => k _ _ (h _ _ e)

def one (v : Value) : VT := ⟨fun x _ => x = v, fun _ h => h⟩
theorem one_le {v v' : Value} (h : v = v') : VT.le (one v) (one v') := fun _ _ e => e.trans h
def anyT : VT := ⟨fun _ _ => True, fun _ h => h⟩
def exT {α : Sort _} (φ : α → VT) : VT := ⟨fun v h => ∃ x, (φ x).p v h, fun H ⟨x, h⟩ => ⟨x, (φ x).mono H h⟩⟩
def andT (F : Prop) (φ : VT) : VT := ⟨fun v h => F ∧ φ.p v h, fun H ⟨x, h⟩ => ⟨x, φ.mono H h⟩⟩
/-- What is known only under a condition. -/
def gT (g : Bool) (φ : VT) : VT := ⟨fun v h => g = true → φ.p v h, fun H h hg => φ.mono H (h hg)⟩

inductive Lay where
  | one
  | agg (n : Nat)
def Lay.sz : Lay → Nat
  | .one => 1
  | .agg n => n
def valAt : Lay → Array Value → Nat → Option Value
  | .one, c, o => c[o]?
  | .agg n, c, o => if o + n ≤ c.size then some (.agg (c.extract o (o + n))) else none

/-- A pointer to a place that is only read. -/
def ptrT (L : Lay) (φ : VT) : VT where
  p v h := ∃ b o c T f x, v = .pointer (some ⟨b, o, none⟩) ∧ h b = some (c, T, f) ∧ valAt L c o = some x ∧ φ.p x h
  mono := fun H ⟨b, o, c, T, f, x, hv, hb, hx, hp⟩ => ⟨b, o, c, T, f, x, hv, H _ _ hb, hx, φ.mono H hp⟩

/-- A slice that is only read. -/
def slT (L : Lay) (n : Nat) (φ : Nat → VT) : VT where
  p v h := ∃ a cap, v = .slice a n cap ∧ n ≤ cap ∧ n ≤ 2 ^ 48 ∧
    ∀ i, i < n → ∃ b o c T f x, a = some ⟨b, o, none⟩ ∧ h b = some (c, T, f) ∧ valAt L c (o + i * L.sz) = some x ∧ (φ i).p x h
  mono := fun H ⟨a, cap, hv, h1, h2, he⟩ => ⟨a, cap, hv, h1, h2, fun i hi =>
    let ⟨b, o, c, T, f, x, ha, hb, hx, hp⟩ := he i hi; ⟨b, o, c, T, f, x, ha, H _ _ hb, hx, (φ i).mono H hp⟩⟩

abbrev Comps := List (Nat × Lay × VT)
def compsP (cs : Comps) (c : Array Value) (h : Hp) : Prop := ∀ q ∈ cs, ∃ x, valAt q.2.1 c q.1 = some x ∧ q.2.2.p x h
theorem compsP_mono {cs : Comps} {c : Array Value} {h h' : Hp} (H : Hp.le h h') (k : compsP cs c h) : compsP cs c h' :=
  fun q hq => let ⟨x, hx, hp⟩ := k q hq; ⟨x, hx, q.2.2.mono H hp⟩
/-- A struct or array of m cells by its parts. -/
def aggT (m : Nat) (cs : Comps) : VT where
  p v h := ∃ c, v = .agg c ∧ c.size = m ∧ c.all (·.oneCell') = true ∧ compsP cs c h
  mono := fun H ⟨c, hv, hs, ha, hc⟩ => ⟨c, hv, hs, ha, compsP_mono H hc⟩

def tupP : List VT → List Value → Hp → Prop
  | [], [], _ => True
  | φ :: φs, v :: vs, h => φ.p v h ∧ tupP φs vs h
  | _, _, _ => False
theorem tupP_mono {h h' : Hp} (H : Hp.le h h') : ∀ {φs : List VT} {vs : List Value}, tupP φs vs h → tupP φs vs h'
  | [], [], _ => trivial
  | φ :: _, _ :: _, ⟨a, b⟩ => ⟨φ.mono H a, tupP_mono H b⟩
def tupT (φs : List VT) : VT where
  p v h := ∃ vs : List Value, v = .tuple vs.toArray ∧ tupP φs vs h
  mono := fun H ⟨vs, hv, hp⟩ => ⟨vs, hv, tupP_mono H hp⟩

/-! ### Own memory -/
structure Own where
  bl : List Nat
  p : Hp → Hp → Prop
  loc : ∀ {g g' h h' : Hp}, (∀ b ∈ bl, g b = g' b) → Hp.le h h' → p g h → p g' h'
abbrev Mem := List Own
def blks (M : Mem) : List Nat := M.flatMap (·.bl)
@[simp] theorem blks_nil : blks [] = [] := rfl
@[simp] theorem blks_cons (o : Own) (M : Mem) : blks (o :: M) = o.bl ++ blks M := rfl
def Own.le (o o' : Own) : Prop := o.bl = o'.bl ∧ ∀ g h, o.p g h → o'.p g h

/-- The value of a slice variable that owns its array. -/
def slV (sv : Option Nat) (n cap : Nat) : Value := .slice (sv.map fun b => ⟨b, 0, none⟩) n cap
/-- The array behind it: cap places, of which the first n hold elements. -/
def sliO (sv : Option Nat) (T : TypeId) (L : Lay) (cap n : Nat) (φ : Nat → VT) : Own where
  bl := sv.toList
  p g h := n ≤ cap ∧ n ≤ 2 ^ 48 ∧ (sv = none → cap = 0) ∧
    ∀ b, sv = some b → ∃ c, g b = some (c, T, (0, 0)) ∧ c.size = cap * L.sz ∧ ∀ i, i < n → ∃ x, valAt L c (i * L.sz) = some x ∧ (φ i).p x h
  loc := fun {g g' h h'} he H ⟨h1, h2, h3, h4⟩ => ⟨h1, h2, h3, fun b hb =>
    let ⟨c, hg, hs, hi⟩ := h4 b hb; ⟨c, (he b (by simp [hb])) ▸ hg, hs, fun i hn => let ⟨x, hx, hp⟩ := hi i hn; ⟨x, hx, (φ i).mono H hp⟩⟩⟩
def upd (φ : Nat → VT) (j : Nat) (ψ : VT) : Nat → VT := fun i => if i = j then ψ else φ i
/-- A variable of m cells by its parts. -/
def boxO (b : Nat) (T : TypeId) (m : Nat) (cs : Comps) : Own where
  bl := [b]
  p g h := ∃ c, g b = some (c, T, (0, 0)) ∧ c.size = m ∧ c.all (·.oneCell') = true ∧ compsP cs c h
  loc := fun {g g' h h'} he H ⟨c, hb, hs, ha, hc⟩ => ⟨c, (he b (by simp)) ▸ hb, hs, ha, compsP_mono H hc⟩

/-! ### Contexts -/
abbrev Ctx := List (Nat × VT)
def look : Ctx → Nat → Option VT
  | [], _ => none
  | (k, v) :: r, t => bif Nat.beq k t then some v else look r t
theorem look_cons {k : Nat} {v : VT} {r : Ctx} {t : Nat} : look ((k, v) :: r) t = if k = t then some v else look r t := by
  rw [look]
  by_cases h : k = t
  · subst h; simp
  · have : Nat.beq k t = false := by rw [← Bool.not_eq_true]; intro e; exact h (Nat.eq_of_beq_eq_true e)
    rw [this, if_neg h]; rfl
def evalT (Γ : Ctx) : Operand → Option VT
  | .tmp t => look Γ t
  | .const v => some (one v)
  | .global g => some (one (.pointer (some ⟨g, 0, none⟩)))
  | .func f => some (one (.func (.func f) #[] #[]))

structure Env where
  w0 : World
  O : List Nat
  I : List Nat
  N : Nat

/-- What the call may have changed of what was there before. -/
structure Fr (I : List Nat) (w w' : World) : Prop where
  os : w'.os = w.os
  tape : w'.tape = w.tape
  output : w'.output = w.output
  size : w.heap.size ≤ w'.heap.size
  block : ∀ k, k < w.heap.size → k ∉ I → w'.heap[k]? = w.heap[k]?
theorem Fr.refl (I : List Nat) (w : World) : Fr I w w := ⟨rfl, rfl, rfl, Nat.le_refl _, fun _ _ _ => rfl⟩
theorem Fr.ext {I : List Nat} {a b c : World} (h : Fr I a b) (k : Ext b c) : Fr I a c :=
  ⟨k.os.trans h.os, k.tape.trans h.tape, k.output.trans h.output, Nat.le_trans h.size k.size, fun i hi hn => (k.block i (Nat.lt_of_lt_of_le hi h.size)).trans (h.block i hi hn)⟩
theorem Fr.toExt {a b : World} (h : Fr [] a b) : Ext a b := ⟨h.os, h.tape, h.output, h.size, fun k hk => h.block k hk (by simp)⟩
theorem Fr.ofExt {a b : World} (h : Ext a b) : Fr [] a b := ⟨h.os, h.tape, h.output, h.size, fun k hk _ => h.block k hk⟩

/-- The part of a state that does not speak of slots. -/
structure Base (E : Env) (M : Mem) (w : World) : Prop where
  mem : ∀ o ∈ M, o.p (view w) (hid (E.O ++ blks M) (view w))
  nd : (blks M).Nodup
  dis : ∀ b ∈ blks M, b ∉ E.O
  lo : ∀ b ∈ blks M, E.w0.heap.size ≤ b ∨ b ∈ E.I
  ex : ∀ b ∈ E.O ++ blks M, b < w.heap.size
  fr : Fr E.I E.w0 w
abbrev hv (E : Env) (M : Mem) (w : World) : Hp := hid (E.O ++ blks M) (view w)

structure St (E : Env) (D : List Deferred) (Γ : Ctx) (M : Mem) (a : Act) (w : World) : Prop where
  base : Base E M w
  sz : a.tmps.size = E.N
  df : a.defers = D
  tm : ∀ t φ, look Γ t = some φ → φ.p (a.tmps.getD t undef) (hv E M w)

theorem Base.ext {E : Env} {M : Mem} {w w' : World} (h : Base E M w) (k : Ext w w') : Base E M w' where
  mem := fun o ho => o.loc (fun b hb => by
      have hlt : b < w.heap.size := h.ex b (List.mem_append.2 (.inr (List.mem_flatMap.2 ⟨o, ho, hb⟩)))
      unfold view; rw [k.block b hlt]) (hid_mono k.view) (h.mem o ho)
  nd := h.nd
  dis := h.dis
  lo := h.lo
  ex := fun b hb => Nat.lt_of_lt_of_le (h.ex b hb) k.size
  fr := h.fr.ext k
theorem Base.hv_ext {E : Env} {M : Mem} {w w' : World} (k : Ext w w') : Hp.le (hv E M w) (hv E M w') := hid_mono k.view

theorem evalT_p {E : Env} {D : List Deferred} {Γ : Ctx} {M : Mem} {a : Act} {w : World} (h : St E D Γ M a w) {x : Operand} {φ : VT} (e : evalT Γ x = some φ) : φ.p (a.eval x) (hv E M w) := by
  cases x with
  | tmp t => exact h.tm t φ e
  | const v => cases e; rfl
  | global g => cases e; rfl
  | func f => cases e; rfl

theorem getD_put_self {a : Act} {d : Nat} {v : Value} (h : d < a.tmps.size) : (a.put (some d) v).tmps.getD d undef = v := by
  simp [Act.put, Array.getD_eq_getD_getElem?, h]
theorem getD_put_ne {a : Act} {d t : Nat} {v : Value} (h : d ≠ t) : (a.put (some d) v).tmps.getD t undef = a.tmps.getD t undef := by
  simp [Act.put, Array.getD_eq_getD_getElem?, h]

theorem St.put {E : Env} {D : List Deferred} {Γ : Ctx} {M : Mem} {a : Act} {w w' : World} (h : St E D Γ M a w) (k : Ext w w') {d : Nat} (hd : d < E.N) {ψ : VT} {v : Value} (hv' : ψ.p v (hv E M w')) :
    St E D ((d, ψ) :: Γ) M (a.put (some d) v) w' where
  base := h.base.ext k
  sz := by simp [Act.put, h.sz]
  df := h.df
  tm := by
    intro t φ e
    rw [look_cons] at e
    split at e
    · rename_i hdt; cases e; rw [← hdt, getD_put_self (by rw [h.sz]; exact hd)]; exact hv'
    · rename_i hdt; rw [getD_put_ne hdt]; exact φ.mono (Base.hv_ext k) (h.tm t φ e)
theorem St.putNone {E : Env} {D : List Deferred} {Γ : Ctx} {M : Mem} {a : Act} {w w' : World} (h : St E D Γ M a w) (k : Ext w w') {v : Value} :
    St E D Γ M (a.put none v) w' where
  base := h.base.ext k
  sz := h.sz
  df := h.df
  tm := fun t φ e => φ.mono (Base.hv_ext k) (h.tm t φ e)

/-! ### Judgements -/
/-- Code c, begun in the state, ends as Q says. -/
def J (P : Program) (E : Env) (D : List Deferred) (Γ : Ctx) (M : Mem) (c : Code) (Q : Exit → Act → World → Prop) : Prop :=
  ∀ a w, St E D Γ M a w → c.wp P Q a w
/-- The state is one that Q takes at an exit. -/
def PJ (E : Env) (D : List Deferred) (Γ : Ctx) (M : Mem) (e : Exit) (Q : Exit → Act → World → Prop) : Prop := ∀ a w, St E D Γ M a w → Q e a w

/-- One operation, looked at by its operands' predicates alone: it makes no more than new memory, and its result has ψ. -/
def StepO (P : Program) (E : Env) (Γ : Ctx) (M : Mem) (o : Oper) (ψ : VT) : Prop :=
  ∀ (a : Act) (w : World), Base E M w → (∀ x φ, x ∈ o.op.operands → evalT Γ x = some φ → φ.p (a.eval x) (hv E M w)) →
    ∀ (next : Act → World → Prop) (Q : Exit → Act → World → Prop),
      (∀ v w', Ext w w' → ψ.p v (hv E M w') → next (a.put o.dst v) w') → o.wp P a w next Q

/-- The slot of a guard. -/
def guardT (ops : Array Oper) (o : Oper) : Option (Option Tmp × Bool) := o.guard.map fun (j, want) => ((ops[j]?).bind (·.dst), want)

/-- The same at a place of a region, with its guard. -/
inductive StepG (P : Program) (E : Env) (Γ : Ctx) (M : Mem) (ops : Array Oper) (o : Oper) : Ctx → Prop
  | plain {ψ : VT} {d : Nat} : StepO P E Γ M o ψ → o.guard = none → o.dst = some d → d < E.N → StepG P E Γ M ops o ((d, ψ) :: Γ)
  | guarded1 {ψ : VT} {d t : Nat} {want : Bool} : guardT ops o = some (some t, want) → look Γ t = some (one (.bool want)) →
      StepO P E Γ M o ψ → o.dst = some d → d < E.N → StepG P E Γ M ops o ((d, ψ) :: Γ)
  | guarded0 {d t : Nat} {want b : Bool} : guardT ops o = some (some t, want) → look Γ t = some (one (.bool b)) → (b == want) = false →
      o.dst = some d → d < E.N → StepG P E Γ M ops o ((d, anyT) :: Γ)

/-- Any single operation, as a change of states. -/
def ActG (P : Program) (E : Env) (ops : Array Oper) (i : Nat) (D : List Deferred) (Γ : Ctx) (M : Mem) (K : List Deferred → Ctx → Mem → Prop) : Prop :=
  ∀ a w, St E D Γ M a w → ∀ (next : Act → World → Prop) (Q : Exit → Act → World → Prop),
    (∀ D' Γ' M' a' w', K D' Γ' M' → St E D' Γ' M' a' w' → next a' w') → wpOp P ops Q i next a w

/-- A run of operations. dr: in any order. -/
inductive Run (P : Program) (E : Env) (ops : Array Oper) : Bool → Nat → List Deferred → Ctx → Mem → List Oper → (List Deferred → Ctx → Mem → Prop) → Prop
  | nil {dr i D Γ M K} : K D Γ M → Run P E ops dr i D Γ M [] K
  | step {dr i D Γ M o os K Γ'} : StepG P E Γ M ops o Γ' → Run P E ops dr (i + 1) D Γ' M os K → Run P E ops dr i D Γ M (o :: os) K
  | conv {i D Γ M Γ' M' os K} : (∀ a w, St E D Γ M a w → St E D Γ' M' a w) → Run P E ops false i D Γ' M' os K → Run P E ops false i D Γ M os K
  | act {i D Γ M o os K} {K' : List Deferred → Ctx → Mem → Prop} : ActG P E ops i D Γ M K' → (∀ D' Γ' M', K' D' Γ' M' → Run P E ops false (i + 1) D' Γ' M' os K) → Run P E ops false i D Γ M (o :: os) K

def namesO (ops : Array Oper) (o : Oper) : List Tmp :=
  (o.op.operands.toList.filterMap fun | .tmp t => some t | _ => none) ++ (match guardT ops o with | some (some t, _) => [t] | _ => [])

end Tor
