/-
  Deferred calls that only recover; function values; a slice compared with nil.
  No condition: general theorems over any program.
-/
import Derived.Test.YtmpnikllhpagcaaFwC
import Derived.Recover
set_option linter.unusedVariables false
set_option linter.unusedSimpArgs false
set_option linter.unusedSectionVars false
namespace Tor
open Go Go.RowKit

section
variable {P : Program} {E : Env} {D : List Deferred} {Γ : Ctx} {M : Mem} {Q : Exit → Act → World → Prop}
variable {ops : Array Oper} {i : Nat} {ty : TypeId} {pos : String} {af : Array Edge} {os : List Oper} {K : List Deferred → Ctx → Mem → Prop} {d : Option Tmp} {gd : Option (Nat × Bool)}

/-! ### defer -/
/-- The deferred call of a function without arguments. -/
abbrev idle (f : FuncId) : Deferred := { target := .fn (.func f) #[], args := #[] }
/-- A function that only recovers. -/
class Idle (P : Program) (f : FuncId) : Prop where
  h : ∀ w, CallsD P f #[] .returning w fun e u' w' => e = .returned (.tuple #[]) ∧ u' = .returning ∧ w' = w
theorem Idle.of {f : FuncId} {fn : Func} {id : Nat} {ty : TypeId} {pos : String} {af : Array Edge} (hf : P.funcs[f]? = some fn)
    (hb : fn.body = some (.region id #[⟨some 0, .call ⟨.builtin .recover, #[], #[]⟩, ty, pos, af, none⟩] false)) (hn : fn.ntmps = 1) (hr : fn.results = #[]) : Idle P f := by
  refine ⟨fun w => callsD_of_wpS hf hb fun c₀ cs hu => ?_⟩
  apply wpS_region
  have h1 : Region.wanted (⟨some 0, .call ⟨.builtin .recover, #[], #[]⟩, ty, pos, af, none⟩ : Oper) = fun _ => true := by funext y; simp [Region.wanted]
  have h2 : ∀ (ρ : Operand → Value) (w : World), (execOp ρ (⟨some 0, .call ⟨.builtin .recover, #[], #[]⟩, ty, pos, af, none⟩ : Oper)).run P w = .ok .recover w := fun ρ w => rfl
  have h3 : List.range 1 = [0] := rfl
  simp [wpOpsS, h1, h2, recoverD, hu, hn, h3, bodyPostS, results, hr]
  cases c₀; simp_all [Act.put]
theorem a_defer {f : FuncId} (hi : ops[i]? = some ⟨none, .defer ⟨.value (.func f), #[], #[]⟩, ty, pos, af, none⟩)
    (h : Run P E ops false (i + 1) (idle f :: D) Γ M os K) : Run P E ops false i D Γ M (⟨none, .defer ⟨.value (.func f), #[], #[]⟩, ty, pos, af, none⟩ :: os) K := by
  refine .act (K' := fun D' Γ' M' => D' = idle f :: D ∧ Γ' = Γ ∧ M' = M) (fun a w hS next Q hn => ?_) (fun D' Γ' M' ⟨h1, h2, h3⟩ => by subst h1 h2 h3; exact h)
  simp only [wpOp, hi, wanted_none (o := ⟨none, .defer ⟨.value (.func f), #[], #[]⟩, ty, pos, af, none⟩) rfl, if_true]
  refine .inl ?_
  unfold Oper.wp
  have hr : (execOp a.eval ⟨none, .defer ⟨.value (.func f), #[], #[]⟩, ty, pos, af, none⟩).run P w = .ok (.defer (idle f)) w := by
    have h0 : a.eval (.func f) = .func (.func f) #[] #[] := rfl
    simp [execOp, resolve, Deferred.ofValue, h0]
  rw [hr]
  exact hn _ _ _ _ _ ⟨rfl, rfl, rfl⟩ ⟨hS.base, hS.sz, by simp [Act.put, hS.df], hS.tm⟩
/-- Behind the deferred call the results are read as without it. -/
theorem pj_idle {f : FuncId} [hF : Fn P f] [hI : Idle P f] {fn : Func} {R : Ending → World → Prop} (h : PJ E [] Γ M .ret (bodyPost P fn R)) : PJ E [idle f] Γ M .ret (bodyPostD P fn R) := by
  intro a w hS
  obtain ⟨_, v, hr, hR⟩ := h { a with defers := [] } w ⟨hS.base, hS.sz, rfl, hS.tm⟩
  show Leaves P fn a.tmps R a.defers .returning w
  rw [hS.df]
  refine leaves_cons (f := f) (args := #[]) (by simp) (by simp [invoke, hF.run]) ((hI.h w).mono ?_)
  rintro e u' w' ⟨rfl, rfl, rfl⟩
  exact ⟨v, hr, hR⟩
theorem enterD {f : FuncId} {fn : Func} {c : Code} {N : Nat} {w : World} {O : List Nat} {φs : List VT} {vs : List Value} {R : Ending → World → Prop}
    (hf : P.funcs[f]? = some fn) (hb : fn.body = some c) (hN : fn.ntmps = N) (hO : ∀ b ∈ O, b < w.heap.size) (hv' : tupP φs vs (hid O (view w))) (hle : φs.length ≤ N)
    (h : J P ⟨w, O, [], N⟩ [] (argCtx 0 φs) [] c (bodyPostD P fn R)) : Calls P f vs.toArray w R := by
  have hl := tupP_len hv'
  refine calls_of_wp_defers hf hb (h _ w ⟨⟨by simp, by simp, by simp, by simp, ?_, Fr.refl _ _⟩, ?_, rfl, ?_⟩)
  · intro b hb'; exact hO b (by simpa using hb')
  · simp [hN]; omega
  · intro t φ e
    obtain ⟨v, _, h2, h3⟩ := look_argCtx e hv'
    have h4 : hv ⟨w, O, [], N⟩ [] w = hid O (view w) := by simp [hv]
    rw [h4]
    rw [Nat.sub_zero] at h2
    have hlt := (List.getElem?_eq_some_iff.1 h2).1
    rw [Array.getD_eq_getD_getElem?, Array.getElem?_append_left (by simpa using hlt)]
    simpa [h2] using h3
theorem Ok.enterD {f : FuncId} {fn : Func} {c : Code} {N : Nat} {φs : List VT} {ψ : VT} (hf : P.funcs[f]? = some fn) (hb : fn.body = some c) (hN : fn.ntmps = N) (hle : Nat.ble φs.length N = true)
    (h : ∀ (w : World) (O : List Nat), J P ⟨w, O, [], N⟩ [] (argCtx 0 φs) [] c (bodyPostD P fn (Ret O ψ w))) : Ok P f φs ψ :=
  fun w O vs hO hv => Tor.enterD hf hb hN hO hv (Nat.le_of_ble_eq_true hle) (h w O)
theorem OkM.enterD {σ : Type} {f : FuncId} {fn : Func} {c : Code} {N : Nat} {φs : List VT} {ψ : σ → VT} {Ms : σ → Mem} (hf : P.funcs[f]? = some fn) (hb : fn.body = some c) (hN : fn.ntmps = N) (hle : Nat.ble φs.length N = true)
    (h : ∀ (w : World) (O : List Nat), J P ⟨w, O, [], N⟩ [] (argCtx 0 φs) [] c (bodyPostD P fn (RetM O ψ Ms w))) : OkM P f φs ψ Ms :=
  fun w O vs hO hv => Tor.enterD hf hb hN hO hv (Nat.le_of_ble_eq_true hle) (h w O)

/-! ### Function values -/
/-- A function with what it has captured. -/
def cloT (f : FuncId) (cs : List VT) : VT where
  p v h := ∃ ca : List Value, v = .func (.func f) #[] ca.toArray ∧ tupP cs ca h
  mono := fun H ⟨ca, h1, h2⟩ => ⟨ca, h1, tupP_mono H h2⟩
instance {f : FuncId} {cs : List VT} : Flat (cloT f cs) .one := ⟨fun v h ⟨ca, e, _⟩ => by subst e; simp [Value.cells, Lay.sz, Value.oneCell', valAt]⟩
theorem fn_clo {f : FuncId} : VT.le (one (.func (.func f) #[] #[])) (cloT f []) := fun v h e => ⟨[], e, trivial⟩
/-- What a call of a function value gives. -/
def Callable (P : Program) (cl : VT) (φs : List VT) (ψ : VT) : Prop := ∀ v h, cl.p v h → ∃ (f : FuncId) (cs : List VT), Fn P f ∧ (cloT f cs).p v h ∧ Ok P f (φs ++ cs) ψ
theorem Callable.clo {f : FuncId} [hF : Fn P f] {cs φs : List VT} {ψ : VT} (h : Ok P f (φs ++ cs) ψ) : Callable P (cloT f cs) φs ψ := fun v g hv => ⟨f, cs, hF, hv, h⟩
theorem Callable.fn {f : FuncId} [hF : Fn P f] {φs : List VT} {ψ : VT} (h : Ok P f φs ψ) : Callable P (one (.func (.func f) #[] #[])) φs ψ := fun v g hv => ⟨f, [], hF, fn_clo v g hv, by simpa using h⟩
theorem tupP_app {h : Hp} : ∀ {φs ψs : List VT} {vs us : List Value}, tupP φs vs h → tupP ψs us h → tupP (φs ++ ψs) (vs ++ us) h
  | [], _, [], _, _, k => k
  | _ :: _, _, _ :: _, _, ⟨a, b⟩, k => ⟨a, tupP_app b k⟩
  | [], _, _ :: _, _, h, _ => h.elim
  | _ :: _, _, [], _, h, _ => h.elim
theorem s_callF {t : Operand} {cl : VT} {xs : Array Operand} {ats : Array TypeId} {φs φs' : List VT} {ψ : VT} (hC : Callable P cl φs' ψ) (ht : evalT Γ t = some cl) (hx : evalL Γ xs.toList = some φs) (hle : leAll φs φs') :
    StepO P E Γ M ⟨d, .call ⟨.value t, xs, ats⟩, ty, pos, af, gd⟩ ψ := by
  intro a w hb hf next Q hn
  have hp := evalL_p (a := a) (h := hv E M w) hx (fun x φ hx' he => hf x φ (by simp [Op.operands, Call.operands]; exact .inr (by simpa using hx')) he)
  obtain ⟨f, cs, hF, ⟨ca, h0, hca⟩, hok⟩ := hC _ _ (hf t _ (by simp [Op.operands, Call.operands]) ht)
  have := hok w (E.O ++ blks M) _ hb.ex (tupP_app (leAll_p hle hp) hca)
  unfold Oper.wp
  have hr : (execOp a.eval ⟨d, .call ⟨.value t, xs, ats⟩, ty, pos, af, gd⟩).run P w = .ok (.enter f ((xs.toList.map a.eval) ++ ca).toArray) w := by
    have h9 : (xs.map a.eval) = (xs.toList.map a.eval).toArray := by simp [← Array.toList_map]
    simp [execOp, resolve, Deferred.ofValue, invoke, h0, hF.run, h9]
  rw [hr]
  refine Calls.mono this ?_
  rintro e w' ⟨v, rfl, hv', hext⟩
  exact hn v w' hext hv'
theorem s_makeFunc {f : FuncId} {xs : Array Operand} {φs : List VT} (hx : evalL Γ xs.toList = some φs) : StepO P E Γ M ⟨d, .makeFunc (.func f) #[] xs, ty, pos, af, gd⟩ (cloT f φs) :=
  StepO.ofRun fun a w hb hf => by
    have hp := evalL_p (a := a) (h := hv E M w) hx (fun x φ hx' he => hf x φ (by simp [Op.operands]; simpa using hx') he)
    have h9 : (xs.map a.eval) = (xs.toList.map a.eval).toArray := by simp [← Array.toList_map]
    exact ⟨_, by simp [execOp, Instr.makeFunc, h9, Sem.run_bind], _, rfl, hp⟩
/-- What is captured is opened for reading. -/
theorem Ent.clo {Ms : Mem} {f : FuncId} {cs cs' : List VT} (h : ∀ g h0 h' vs, Opn Ms g h0 h' → tupP cs vs h0 → tupP cs' vs h') : Ent Ms (cloT f cs) (cloT f cs') := fun g h0 h' v ho ⟨ca, e, hc⟩ => ⟨ca, e, h g h0 h' ca ho hc⟩
theorem Ent.clo1 {Ms : Mem} {f : FuncId} {φ ψ : VT} (h : Ent Ms φ ψ) : Ent Ms (cloT f [φ]) (cloT f [ψ]) := Ent.clo fun g h0 h' vs ho hc => by
  cases vs with
  | nil => exact hc.elim
  | cons v vs => exact ⟨h g h0 h' v ho hc.1, by cases vs with | nil => trivial | cons _ _ => exact hc.2.elim⟩
theorem Ent.ptr {Ms : Mem} {b m : Nat} {T : TypeId} {L : Lay} {φ : VT} {cs : Comps} (hm : boxO b T m cs ∈ Ms) (hl : (0, L, φ) ∈ cs) : Ent Ms (one (.pointer (some ⟨b, 0, none⟩))) (ptrT L φ) := by
  intro g h h' v ho hv
  have hv : v = _ := hv
  subst hv
  obtain ⟨c, h1, h2, h3, h4⟩ := ho.mem _ hm
  obtain ⟨x, hx, hp⟩ := h4 _ hl
  exact ⟨b, 0, c, T, (0, 0), x, rfl, by rw [← ho.eq b (blks_mem hm (by simp [boxO]))]; exact h1, hx, φ.mono ho.le hp⟩

/-- An own variable is written whole, by a value that is not taken apart. -/
theorem a_storeV {T T' : TypeId} {x y : Operand} {b m : Nat} {cs : Comps} {ψ : VT} [hL : LayOf P T (.agg m)] [hF : Flat ψ (.agg m)] (j : Nat) (hx : evalT Γ x = some (one (.pointer (some ⟨b, 0, none⟩)))) (hy : evalT Γ y = some ψ)
    (hM : M[j]? = some (boxO b T' m cs)) (hi : ops[i]? = some ⟨none, .store T x y, ty, pos, af, none⟩)
    (h : Run P E ops false (i + 1) D Γ (M.set j (boxO b T' m [(0, .agg m, ψ)])) os K) : Run P E ops false i D Γ M (⟨none, .store T x y, ty, pos, af, none⟩ :: os) K := by
  refine Run.one (K' := fun D' Γ' M' => D' = D ∧ Γ' = Γ ∧ M' = M.set j (boxO b T' m [(0, .agg m, ψ)])) rfl (fun a w hS => ?_) (fun D' Γ' M' ⟨h1, h2, h3⟩ => by subst h1 h2 h3; exact h) hi
  have h1 : a.eval x = .pointer (some ⟨b, 0, none⟩) := evalT_p hS hx
  have h2 := evalT_p hS hy
  obtain ⟨f1, f2, f3⟩ := hF.ok _ _ h2
  have f1 : (a.eval y).cells.size = m := f1
  obtain ⟨c, hc, hs, hall, hcs⟩ := own_get hS.base hM
  have hst := run_storeVar' (P := P) (T := T) (L := .agg m) (v := a.eval y) (o := 0) hc f1 (by simp [Lay.sz, hs]) f2
  have hsp : splice c 0 (a.eval y).cells = (a.eval y).cells := by
    apply Array.ext_getElem?; intro k
    rw [splice_at (by omega)]
    by_cases hk : k < (a.eval y).cells.size
    · rw [if_pos (by omega)]; rfl
    · rw [if_neg (by omega), Array.getElem?_eq_none (by omega), Array.getElem?_eq_none (by omega)]
  refine ⟨.ok .skip (w.setRow b (a.eval y).cells), ?_, D, Γ, _, ⟨rfl, rfl, rfl⟩, ?_⟩
  · simp only [execOp, h1, Instr.storeAt, Instr.sureAddr, Sem.run_bind, Sem.run_pure, Result.andThen_ok, hst, hsp]
  · show St E D Γ _ a _
    refine hS.own hM rfl (fun k hk => setRow_other _ _ _ _ (by intro e; exact hk (by simp [boxO, e]))) (setRow_size _ _ _) rfl rfl rfl ?_
    refine ⟨_, view_setRow hc, f1, f2, fun q hq => ?_⟩
    have hq := List.mem_singleton.1 hq
    subst hq
    exact ⟨_, f3, h2⟩

/-- A result of which something is known, taken apart at the call. -/
theorem Ok.toM {α : Type} {f : FuncId} {φs : List VT} {F : α → Prop} {ψ : α → VT} (h : Ok P f φs (exT fun k => andT (F k) (ψ k))) : OkM (σ := {k : α // F k}) P f φs (fun k => ψ k.1) (fun _ => []) := by
  intro w O vs hO hp
  refine Calls.mono (h w O vs hO hp) ?_
  rintro e w' ⟨v, rfl, ⟨k, hF, hv'⟩, hext⟩
  exact ⟨⟨k, hF⟩, v, rfl, by simpa using hv', hext, by simp, by simp, by simp⟩

/-! ### A slice compared with nil -/
theorem run_eqNil {T e : TypeId} [hS : SliceOf P T e] (a : Option Addr) (n c : Nat) (w : World) : (Op.equal T (.slice a n c) (.slice none 0 0)).run P w = .ok a.isNone w := by
  show (Op.equalIn (9999 + 1) T _ _).run P w = _
  unfold Op.equalIn
  rw [Sem.run_bind, run_underlying' hS.und]
  cases a <;> rfl
theorem s_eqNil {T T' e : TypeId} [hS : SliceOf P T e] {x : Operand} {L : Lay} {n : Nat} {φ : Nat → VT} (hx : evalT Γ x = some (slT L n φ)) :
    StepO P E Γ M ⟨d, .binOp .eql T x (.const (.slice none 0 0)) T', ty, pos, af, gd⟩ (exT fun b : Bool => andT (b = true → n = 0) (one (.bool b))) :=
  StepO.ofRun fun ac w hb hf => by
    obtain ⟨a, cap, h1, h2, h3, h4⟩ := hf x _ (by simp [Op.operands]) hx
    have hc : ac.eval (.const (.slice none 0 0)) = .slice none 0 0 := rfl
    refine ⟨.bool a.isNone, ?_, a.isNone, fun hn => ?_, rfl⟩
    · simp only [execOp, h1, hc, eqGuard, binOp, Sem.run_bind, run_eqNil]; rfl
    · cases a with
      | some _ => cases hn
      | none =>
        rcases Nat.eq_zero_or_pos n with h | h
        · exact h
        · obtain ⟨b, o, c, T1, f, x, h5, _⟩ := h4 0 h; cases h5
end
end Tor
