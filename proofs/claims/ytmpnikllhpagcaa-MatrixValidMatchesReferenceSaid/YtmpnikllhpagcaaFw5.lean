/-
  Rules for control, calls and returns over contexts.
  No condition: general theorems over any program.
-/
import Derived.Test.YtmpnikllhpagcaaFw4
set_option linter.unusedVariables false
set_option linter.unusedSimpArgs false
set_option linter.unusedSectionVars false
namespace Tor
open Go Go.RowKit

section
variable {P : Program} {E : Env} {D : List Deferred} {Γ : Ctx} {M : Mem} {Q : Exit → Act → World → Prop}

/-! ### Control -/
theorem pj_then {y : Code} (h : J P E D Γ M y Q) : PJ E D Γ M .normal (Exit.then (fun a w => y.wp P Q a w) Q) := h
theorem J_seq {x y : Code} (h : J P E D Γ M x (Exit.then (fun a w => y.wp P Q a w) Q)) : J P E D Γ M (.seq x y) Q := fun a w hS => wp_seq (h a w hS)
theorem J_skip (h : PJ E D Γ M .normal Q) : J P E D Γ M .skip Q := fun a w hS => wp_skip (h a w hS)
theorem J_label {l : Nat} (h : PJ E D Γ M .normal Q) : J P E D Γ M (.label l) Q := fun a w hS => wp_label (h a w hS)
theorem J_exit {id : Nat} (h : PJ E D Γ M (.exit id) Q) : J P E D Γ M (.exit id) Q := fun a w hS => wp_exit (h a w hS)
theorem J_ret (h : PJ E D Γ M .ret Q) : J P E D Γ M .ret Q := fun a w hS => wp_ret (h a w hS)
theorem J_scope {c : Code} (h : J P E D Γ M c (Exit.noGoto Q)) : J P E D Γ M (.scope c) Q := fun a w hS => wp_scope_straight (h a w hS)
theorem J_block {id : Nat} {c : Code} (h : J P E D Γ M c (Exit.inBlock id Q)) : J P E D Γ M (.block id c) Q := fun a w hS => wp_block (h a w hS)
theorem J_cond {c : Operand} {x y : Code} {b : Bool} (hc : evalT Γ c = some (one (.bool b))) (ht : b = true → J P E D Γ M x Q) (hf : b = false → J P E D Γ M y Q) : J P E D Γ M (.cond c x y) Q :=
  fun a w hS => wp_cond_split (evalT_p hS hc) (fun h => ht h a w hS) (fun h => hf h a w hS)
/-- How an exit passes. -/
theorem px_then {id : Nat} {n : Act → World → Prop} (h : PJ E D Γ M (.exit id) Q) : PJ E D Γ M (.exit id) (Exit.then n Q) := h
theorem px_block {id : Nat} (h : PJ E D Γ M .normal Q) : PJ E D Γ M (.exit id) (Exit.inBlock id Q) := by
  intro a w hS; show if id = id then _ else _; rw [if_pos rfl]; exact h a w hS
theorem px_block_ne {id id' : Nat} (hne' : Nat.beq id' id = false) (h : PJ E D Γ M (.exit id') Q) : PJ E D Γ M (.exit id') (Exit.inBlock id Q) := by
  intro a w hS; show if id' = id then _ else _; rw [if_neg (Nat.ne_of_beq_eq_false hne')]; exact h a w hS
theorem pn_block {id : Nat} (h : PJ E D Γ M .normal Q) : PJ E D Γ M .normal (Exit.inBlock id Q) := h
theorem pr_block {id : Nat} (h : PJ E D Γ M .ret Q) : PJ E D Γ M .ret (Exit.inBlock id Q) := h
theorem pn_scope (h : PJ E D Γ M .normal Q) : PJ E D Γ M .normal (Exit.noGoto Q) := h
theorem pr_scope (h : PJ E D Γ M .ret Q) : PJ E D Γ M .ret (Exit.noGoto Q) := h
theorem px_scope {id : Nat} (h : PJ E D Γ M (.exit id) Q) : PJ E D Γ M (.exit id) (Exit.noGoto Q) := h

/-! ### Weakening of states -/
def SubG (Γ Γ' : Ctx) : Prop := ∀ t φ', look Γ' t = some φ' → ∃ φ, look Γ t = some φ ∧ VT.le φ φ'
theorem SubG.nil : SubG Γ [] := fun t φ' h => by cases h
theorem SubG.cons {Γ' : Ctx} {t : Nat} {φ φ' : VT} (h : look Γ t = some φ) (hle : VT.le φ φ') (hr : SubG Γ Γ') : SubG Γ ((t, φ') :: Γ') := by
  intro s ψ hs
  rw [look_cons] at hs
  split at hs
  · rename_i e; subst e; cases hs; exact ⟨φ, h, hle⟩
  · exact hr s ψ hs
theorem SubG.refl (Γ : Ctx) : SubG Γ Γ := fun t φ h => ⟨φ, h, VT.le_refl _⟩
inductive SubM : Mem → Mem → Prop
  | nil : SubM [] []
  | drop {o M M'} : SubM M M' → SubM (o :: M) M'
  | keep {o o' M M'} : Own.le o o' → SubM M M' → SubM (o :: M) (o' :: M')
theorem Own.le_refl (o : Own) : Own.le o o := ⟨rfl, fun _ _ h => h⟩
theorem SubM.refl : ∀ M : Mem, SubM M M
  | [] => .nil
  | o :: M => .keep (Own.le_refl o) (SubM.refl M)
theorem SubM.nilR : ∀ M : Mem, SubM M []
  | [] => .nil
  | _ :: M => .drop (SubM.nilR M)
theorem SubM.sub {M M' : Mem} (h : SubM M M') : (blks M').Sublist (blks M) := by
  induction h with
  | nil => exact List.Sublist.refl _
  | drop _ ih => exact ih.trans (List.sublist_append_right _ _)
  | keep hle _ ih => simp only [blks_cons, ← hle.1]; exact List.Sublist.append_left ih _
theorem SubM.mem {M M' : Mem} (h : SubM M M') : ∀ o' ∈ M', ∃ o ∈ M, Own.le o o' := by
  induction h with
  | nil => intro o' h; cases h
  | drop _ ih => intro o' h; obtain ⟨o, h1, h2⟩ := ih o' h; exact ⟨o, List.mem_cons_of_mem _ h1, h2⟩
  | keep hle _ ih =>
    intro o' h
    rcases List.mem_cons.1 h with rfl | h
    · exact ⟨_, List.mem_cons_self, hle⟩
    · obtain ⟨o, h1, h2⟩ := ih o' h; exact ⟨o, List.mem_cons_of_mem _ h1, h2⟩
theorem hv_sub {M M' : Mem} {w : World} (h : ∀ b ∈ blks M', b ∈ blks M) : Hp.le (hv E M w) (hv E M' w) :=
  hid_sub fun b hb => by
    rcases List.mem_append.1 hb with h' | h'
    · exact List.mem_append.2 (.inl h')
    · exact List.mem_append.2 (.inr (h b h'))
theorem Base.sub {M' : Mem} {w : World} (hb : Base E M w) (h : SubM M M') : Base E M' w where
  mem := fun o' ho' => let ⟨o, ho, hle⟩ := h.mem o' ho'; o'.loc (fun _ _ => rfl) (hv_sub fun b hb' => h.sub.subset hb') (hle.2 _ _ (hb.mem o ho))
  nd := h.sub.nodup hb.nd
  dis := fun b hb' => hb.dis b (h.sub.subset hb')
  lo := fun b hb' => hb.lo b (h.sub.subset hb')
  ex := fun b hb' => hb.ex b (by
    rcases List.mem_append.1 hb' with h' | h'
    · exact List.mem_append.2 (.inl h')
    · exact List.mem_append.2 (.inr (h.sub.subset h')))
  fr := hb.fr
theorem St.sub {Γ' : Ctx} {M' : Mem} {a : Act} {w : World} (hS : St E D Γ M a w) (hg : SubG Γ Γ') (hm : SubM M M') : St E D Γ' M' a w where
  base := hS.base.sub hm
  sz := hS.sz
  df := hS.df
  tm := fun t φ' h => let ⟨φ, h1, h2⟩ := hg t φ' h; h2 _ _ (φ.mono (hv_sub fun b hb => hm.sub.subset hb) (hS.tm t φ h1))

theorem J_sub {Γ' : Ctx} {M' : Mem} {c : Code} (hg : SubG Γ Γ') (hm : SubM M M') (h : J P E D Γ' M' c Q) : J P E D Γ M c Q := fun a w hS => h a w (hS.sub hg hm)
theorem PJ_sub {Γ' : Ctx} {M' : Mem} {e : Exit} (hg : SubG Γ Γ') (hm : SubM M M') (h : PJ E D Γ' M' e Q) : PJ E D Γ M e Q := fun a w hS => h a w (hS.sub hg hm)
/-- A fact that a slot's predicate bears. -/
theorem J_fact {c : Code} {t : Nat} {φ : VT} {F : Prop} (ht : look Γ t = some φ) (hF : ∀ v h, φ.p v h → F) (h : F → J P E D Γ M c Q) : J P E D Γ M c Q :=
  fun a w hS => h (hF _ _ (hS.tm t φ ht)) a w hS
theorem J_factM {c : Code} {i : Nat} {o : Own} {F : Prop} (hM : M[i]? = some o) (hF : ∀ g h, o.p g h → F) (h : F → J P E D Γ M c Q) : J P E D Γ M c Q :=
  fun a w hS => h (hF _ _ (hS.base.mem o (List.mem_of_getElem? hM))) a w hS
/-- What a slot holds exists. -/
theorem J_ex {c : Code} {t : Nat} {α : Type} {φ : α → VT} (ht : look Γ t = some (exT φ)) (h : ∀ x, J P E D ((t, φ x) :: Γ) M c Q) : J P E D Γ M c Q := by
  intro a w hS
  obtain ⟨x, hx⟩ := hS.tm t _ ht
  refine h x a w ⟨hS.base, hS.sz, hS.df, fun s ψ hs => ?_⟩
  rw [look_cons] at hs
  split at hs
  · rename_i e; subst e; cases hs; exact hx
  · exact hS.tm s ψ hs
theorem J_retype {c : Code} {t : Nat} {φ ψ : VT} (ht : look Γ t = some φ) (hle : VT.le φ ψ) (h : J P E D ((t, ψ) :: Γ) M c Q) : J P E D Γ M c Q :=
  J_sub (fun s χ hs => by
    rw [look_cons] at hs
    split at hs
    · rename_i e; subst e; cases hs; exact ⟨φ, ht, hle⟩
    · exact ⟨χ, hs, VT.le_refl _⟩) (SubM.refl _) h
theorem J_name {c : Code} {t : Nat} {φ : VT} (ht : look Γ t = some φ) (h : ∀ v, J P E D ((t, one v) :: (t, φ) :: Γ) M c Q) : J P E D Γ M c Q := by
  intro a w hS
  refine h (a.tmps.getD t undef) a w ⟨hS.base, hS.sz, hS.df, fun s ψ hs => ?_⟩
  rw [look_cons] at hs
  split at hs
  · rename_i e; subst e; cases hs; rfl
  · rw [look_cons] at hs; split at hs
    · rename_i e1 e; exact absurd e e1
    · exact hS.tm s ψ hs

/-! ### Loops, joins -/
/-- A loop. s: what is known at a round's head. -/
theorem J_loop {σ : Type} {c : Code} (G : σ → Ctx) (Ms : σ → Mem) (ok : σ → Prop) (μ : σ → Nat) (s0 : σ) (h0 : ok s0) (hg : SubG Γ (G s0)) (hm : SubM M (Ms s0))
    (round : ∀ s, ok s → J P E D (G s) (Ms s) c (Exit.then (fun a w => ∃ s', ok s' ∧ μ s' < μ s ∧ St E D (G s') (Ms s') a w) Q)) : J P E D Γ M (.loop c) Q := by
  intro a w hS
  have key : ∀ n s, ok s → μ s = n → ∀ a w, St E D (G s) (Ms s) a w → ∀ (b : Frame) (k : List Item) (cs : List Frame),
      ∃ e a' w', Q e a' w' ∧ Arrives P (lone (b.at a (.code c :: .inLoop c :: k)) cs w) b k cs e a' w' := by
    intro n
    induction n using Nat.strongRecOn with
    | _ n ih =>
      intro s hs hn a w hS b k cs
      obtain ⟨e, a₁, w₁, hq, harr⟩ := round s hs a w hS b (.inLoop c :: k) cs
      cases e with
      | normal =>
        obtain ⟨s', hs', hlt, hS'⟩ := hq
        obtain ⟨e₂, a₂, w₂, hq₂, harr₂⟩ := ih (μ s') (hn ▸ hlt) s' hs' rfl a₁ w₁ hS' b k cs
        exact ⟨e₂, a₂, w₂, hq₂, .of_steps (Steps.trans harr (.one step_inLoop)) harr₂⟩
      | exit id => exact ⟨_, a₁, w₁, hq, .pass (x := .inLoop c) rfl (fun _ _ => .inl (by simp)) harr⟩
      | goto l => exact ⟨_, a₁, w₁, hq, .pass (x := .inLoop c) rfl (fun _ _ => .inl (by simp)) harr⟩
      | ret => exact ⟨_, a₁, w₁, hq, .pass (x := .inLoop c) rfl (fun _ _ => .inl (by simp)) harr⟩
      | panic ch => exact ⟨_, a₁, w₁, hq, .pass (x := .inLoop c) rfl (fun _ _ => .inl (by simp)) harr⟩
      | outgrown => exact ⟨_, a₁, w₁, hq, .pass (x := .inLoop c) rfl (fun _ _ => .inl (by simp)) harr⟩
  intro b k cs
  obtain ⟨e, a', w', hq, harr⟩ := key _ s0 h0 rfl a w (hS.sub hg hm) b k cs
  exact ⟨e, a', w', hq, .of_steps (.one step_loop) harr⟩
theorem pj_round {σ : Type} {G : σ → Ctx} {Ms : σ → Mem} {ok : σ → Prop} {μ : σ → Nat} {s : σ} (s' : σ) (h : ok s') (hμ : μ s' < μ s) (hg : SubG Γ (G s')) (hm : SubM M (Ms s')) :
    PJ E D Γ M .normal (Exit.then (fun a w => ∃ s', ok s' ∧ μ s' < μ s ∧ St E D (G s') (Ms s') a w) Q) :=
  fun a w hS => ⟨s', h, hμ, hS.sub hg hm⟩
/-- A piece whose ways meet again. -/
theorem J_cut {σ : Type} {x y : Code} (G : σ → Ctx) (Ms : σ → Mem) (ok : σ → Prop)
    (h : J P E D Γ M x (Exit.then (fun a w => ∃ s, ok s ∧ St E D (G s) (Ms s) a w) Q)) (hy : ∀ s, ok s → J P E D (G s) (Ms s) y Q) : J P E D Γ M (.seq x y) Q :=
  fun a w hS => wp_seq (wp_mono (h a w hS) fun e a w hq => by
    cases e <;> first | exact hq | (obtain ⟨s, hs, hS'⟩ := hq; exact hy s hs a w hS'))
theorem pj_cut {σ : Type} {G : σ → Ctx} {Ms : σ → Mem} {ok : σ → Prop} (s : σ) (h : ok s) (hg : SubG Γ (G s)) (hm : SubM M (Ms s)) :
    PJ E D Γ M .normal (Exit.then (fun a w => ∃ s, ok s ∧ St E D (G s) (Ms s) a w) Q) :=
  fun a w hS => ⟨s, h, hS.sub hg hm⟩

/-! ### Calls -/
def Ret (O : List Nat) (ψ : VT) (w : World) (e : Ending) (w' : World) : Prop := ∃ v, e = .returned v ∧ ψ.p v (hid O (view w')) ∧ Ext w w'
class Fn (P : Program) (f : FuncId) : Prop where
  run : ∀ args w, (callFunc f args).run P w = .ok (.enter f args) w

theorem Fn.of {f : FuncId} {fn : Func} (h : P.funcs[f]? = some fn) (h1 : fn.name ≠ "runtime.NumGoroutine") (h2 : fn.body.isSome = true) : Fn P f where
  run := by
    intro args w
    have h3 : fn.body.isNone = false := by cases hb : fn.body <;> simp_all
    have h4 : (fn.name == "runtime.NumGoroutine") = false := by simpa using h1
    unfold callFunc
    rw [Sem.run_bind]
    have h5 : (Go.program).run P w = .ok P w := rfl
    rw [h5]
    simp only [Result.andThen_ok, h, h4, h3, Bool.false_eq_true, if_false]; rfl

def evalL (Γ : Ctx) : List Operand → Option (List VT)
  | [] => some []
  | x :: xs => match evalT Γ x, evalL Γ xs with
    | some φ, some φs => some (φ :: φs)
    | _, _ => none
theorem evalL_p {a : Act} {h : Hp} : ∀ {xs : List Operand} {φs : List VT}, evalL Γ xs = some φs → (∀ x φ, x ∈ xs → evalT Γ x = some φ → φ.p (a.eval x) h) → tupP φs (xs.map a.eval) h
  | [], φs, e, _ => by cases e; trivial
  | x :: xs, φs, e, hf => by
    rw [evalL] at e
    cases h1 : evalT Γ x with
    | none => rw [h1] at e; cases e
    | some φ =>
      cases h2 : evalL Γ xs with
      | none => rw [h1, h2] at e; cases e
      | some ψs => rw [h1, h2] at e; cases e
                   exact ⟨hf x φ (by simp) h1, evalL_p h2 fun y ψ hy => hf y ψ (by simp [hy])⟩

variable {d : Option Tmp} {ty : TypeId} {pos : String} {af : Array Edge} {gd : Option (Nat × Bool)}
theorem s_call {f : FuncId} [hF : Fn P f] {xs : Array Operand} {ats : Array TypeId} {φs : List VT} {ψ : VT} (hx : evalL Γ xs.toList = some φs)
    (hc : ∀ (w : World) (vs : List Value), (∀ b ∈ E.O ++ blks M, b < w.heap.size) → tupP φs vs (hid (E.O ++ blks M) (view w)) → Calls P f vs.toArray w (Ret (E.O ++ blks M) ψ w)) :
    StepO P E Γ M ⟨d, .call ⟨.value (.func f), xs, ats⟩, ty, pos, af, gd⟩ ψ := by
  intro a w hb hf next Q hn
  have hp := evalL_p (a := a) (h := hv E M w) hx (fun x φ hx' he => hf x φ (by simp [Op.operands, Call.operands]; exact .inr (by simpa using hx')) he)
  have := hc w _ hb.ex hp
  unfold Oper.wp
  have hr : (execOp a.eval ⟨d, .call ⟨.value (.func f), xs, ats⟩, ty, pos, af, gd⟩).run P w = .ok (.enter f (xs.toList.map a.eval).toArray) w := by
    have h0 : a.eval (.func f) = .func (.func f) #[] #[] := rfl
    have h9 : (xs.map a.eval) = (xs.toList.map a.eval).toArray := by simp [← Array.toList_map]
    simp [execOp, resolve, Deferred.ofValue, invoke, h0, hF.run, h9]
  rw [hr]
  refine Calls.mono this ?_
  rintro e w' ⟨v, rfl, hv', hext⟩
  exact hn v w' hext hv'
/-- A call of a function value. -/
theorem s_callV {f : FuncId} [hF : Fn P f] {t : Operand} {fi ca : Array Value} {xs : Array Operand} {ats : Array TypeId} {φs : List VT} {ψ : VT} (ht : evalT Γ t = some (one (.func (.func f) fi ca))) (hx : evalL Γ xs.toList = some φs)
    (hc : ∀ (w : World) (vs : List Value), (∀ b ∈ E.O ++ blks M, b < w.heap.size) → tupP φs vs (hid (E.O ++ blks M) (view w)) → Calls P f (fi ++ vs.toArray ++ ca) w (Ret (E.O ++ blks M) ψ w)) :
    StepO P E Γ M ⟨d, .call ⟨.value t, xs, ats⟩, ty, pos, af, gd⟩ ψ := by
  intro a w hb hf next Q hn
  have hp := evalL_p (a := a) (h := hv E M w) hx (fun x φ hx' he => hf x φ (by simp [Op.operands, Call.operands]; exact .inr (by simpa using hx')) he)
  have h0 : a.eval t = .func (.func f) fi ca := hf t _ (by simp [Op.operands, Call.operands]) ht
  have := hc w _ hb.ex hp
  unfold Oper.wp
  have hr : (execOp a.eval ⟨d, .call ⟨.value t, xs, ats⟩, ty, pos, af, gd⟩).run P w = .ok (.enter f (fi ++ (xs.toList.map a.eval).toArray ++ ca)) w := by
    have h9 : (xs.map a.eval) = (xs.toList.map a.eval).toArray := by simp [← Array.toList_map]
    simp [execOp, resolve, Deferred.ofValue, invoke, h0, hF.run, h9]
  rw [hr]
  refine Calls.mono this ?_
  rintro e w' ⟨v, rfl, hv', hext⟩
  exact hn v w' hext hv'

/-! ### Entry and return -/
def argCtx : Nat → List VT → Ctx
  | _, [] => []
  | i, φ :: φs => (i, φ) :: argCtx (i + 1) φs
theorem look_argCtx {h : Hp} {φ : VT} : ∀ {i t : Nat} {φs : List VT} {vs : List Value}, look (argCtx i φs) t = some φ → tupP φs vs h → ∃ v, i ≤ t ∧ vs[t - i]? = some v ∧ φ.p v h
  | _, _, [], _, e, _ => by cases e
  | i, t, ψ :: φs, v :: vs, e, ⟨h1, h2⟩ => by
    rw [argCtx, look_cons] at e
    split at e
    · rename_i he; subst he; cases e; exact ⟨v, Nat.le_refl _, by simp, h1⟩
    · rename_i hne
      obtain ⟨u, hle, hu, hp⟩ := look_argCtx e h2
      refine ⟨u, by omega, ?_, hp⟩
      rw [show t - i = (t - (i + 1)) + 1 by omega]; simpa using hu
theorem tupP_len {h : Hp} : ∀ {φs : List VT} {vs : List Value}, tupP φs vs h → φs.length = vs.length
  | [], [], _ => rfl
  | _ :: _, _ :: _, ⟨_, h⟩ => by simp [tupP_len h]
  | [], _ :: _, h => h.elim
  | _ :: _, [], h => h.elim

theorem enter {f : FuncId} {fn : Func} {c : Code} {N : Nat} {w : World} {O : List Nat} {φs : List VT} {vs : List Value} {R : Ending → World → Prop}
    (hf : P.funcs[f]? = some fn) (hb : fn.body = some c) (hN : fn.ntmps = N) (hO : ∀ b ∈ O, b < w.heap.size) (hv' : tupP φs vs (hid O (view w))) (hle : φs.length ≤ N)
    (h : J P ⟨w, O, [], N⟩ [] (argCtx 0 φs) [] c (bodyPost P fn R)) : Calls P f vs.toArray w R := by
  have hl := tupP_len hv'
  refine calls_of_wp hf hb (h _ w ⟨⟨by simp, by simp, by simp, by simp, ?_, Fr.refl _ _⟩, ?_, rfl, ?_⟩)
  · intro b hb'; exact hO b (by simpa using hb')
  · simp [hN]; omega
  · intro t φ e
    obtain ⟨v, _, h2, h3⟩ := look_argCtx e hv'
    have h4 : hv ⟨w, O, [], N⟩ [] w = hid O (view w) := by simp [hv]
    rw [h4]
    rw [Nat.sub_zero] at h2
    have hlt := (List.getElem?_eq_some_iff.1 h2).1
    rw [Array.getD_eq_getD_getElem?, Array.getElem?_append_left (by simpa using hlt)]
    simpa [h2] using h3

theorem St.ret {a : Act} {w : World} {w0 : World} {O : List Nat} {N : Nat} (hS : St ⟨w0, O, [], N⟩ D Γ M a w) : Ext w0 w := hS.base.fr.toExt
theorem ret1 {w0 : World} {O : List Nat} {N : Nat} {fn : Func} {t : Nat} {φ ψ : VT} (hr : fn.results = #[.tmp t]) (ht : look Γ t = some φ) (hle : VT.le φ ψ) :
    PJ ⟨w0, O, [], N⟩ [] Γ M .ret (bodyPost P fn (Ret O ψ w0)) := by
  intro a w hS
  refine ⟨hS.df, a.tmps.getD t undef, ?_, _, rfl, ?_, hS.ret⟩
  · simp [results, hr]
  · exact ψ.mono (hid_sub fun b hb => List.mem_append.2 (.inl hb)) (hle _ _ (hS.tm t φ ht))
theorem ret2 {w0 : World} {O : List Nat} {N : Nat} {fn : Func} {t s : Nat} {φ φ' ψ ψ' : VT} (hr : fn.results = #[.tmp t, .tmp s]) (ht : look Γ t = some φ) (hs : look Γ s = some φ') (hle : VT.le φ ψ) (hle' : VT.le φ' ψ') :
    PJ ⟨w0, O, [], N⟩ [] Γ M .ret (bodyPost P fn (Ret O (tupT [ψ, ψ']) w0)) := by
  intro a w hS
  refine ⟨hS.df, .tuple #[a.tmps.getD t undef, a.tmps.getD s undef], ?_, _, rfl, ⟨[_, _], rfl, ?_, ?_, trivial⟩, hS.ret⟩
  · simp [results, hr]
  · exact ψ.mono (hid_sub fun b hb => List.mem_append.2 (.inl hb)) (hle _ _ (hS.tm t φ ht))
  · exact ψ'.mono (hid_sub fun b hb => List.mem_append.2 (.inl hb)) (hle' _ _ (hS.tm s φ' hs))
theorem ret3 {w0 : World} {O : List Nat} {N : Nat} {fn : Func} {t s u : Nat} {φ φ' φ'' ψ ψ' ψ'' : VT} (hr : fn.results = #[.tmp t, .tmp s, .tmp u]) (ht : look Γ t = some φ) (hs : look Γ s = some φ') (hu : look Γ u = some φ'') (hle : VT.le φ ψ) (hle' : VT.le φ' ψ') (hle'' : VT.le φ'' ψ'') :
    PJ ⟨w0, O, [], N⟩ [] Γ M .ret (bodyPost P fn (Ret O (tupT [ψ, ψ', ψ'']) w0)) := by
  intro a w hS
  refine ⟨hS.df, .tuple #[a.tmps.getD t undef, a.tmps.getD s undef, a.tmps.getD u undef], ?_, _, rfl, ⟨[_, _, _], rfl, ?_, ?_, ?_, trivial⟩, hS.ret⟩
  · simp [results, hr]
  · exact ψ.mono (hid_sub fun b hb => List.mem_append.2 (.inl hb)) (hle _ _ (hS.tm t φ ht))
  · exact ψ'.mono (hid_sub fun b hb => List.mem_append.2 (.inl hb)) (hle' _ _ (hS.tm s φ' hs))
  · exact ψ''.mono (hid_sub fun b hb => List.mem_append.2 (.inl hb)) (hle'' _ _ (hS.tm u φ'' hu))
theorem pr_then {n : Act → World → Prop} (h : PJ E D Γ M .ret Q) : PJ E D Γ M .ret (Exit.then n Q) := h
end
end Tor
