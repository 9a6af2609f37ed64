/-
  Theorems that the proofs of laws of this seat rest on.
  No condition.
-/
import Derived.Test.YtelkiipjepcjmaaFB1
import Derived.Recover
import Derived.LoopN
import Derived.ProofKit
import Derived.Lib.SmallJoins
import Derived.Laws.IdiomArrays
import Derived.SizedLaws
set_option linter.unusedVariables false
set_option linter.unusedSimpArgs false
section
set_option linter.unusedSectionVars false
namespace Tor
open Go Go.RowKit
section
variable {P : Program} {E : Env} {D : List Deferred} {Γ : Ctx} {M : Mem} {Q : Exit → Act → World → Prop}
variable {ops : Array Oper} {i : Nat} {ty : TypeId} {pos : String} {af : Array Edge} {os : List Oper} {K : List Deferred → Ctx → Mem → Prop} {d : Option Tmp} {gd : Option (Nat × Bool)}
/-! ### The same memory in another form -/
structure ConvM (M M' : Mem) : Prop where
  pm : (blks M).Perm (blks M')
  mem : ∀ g h, (∀ o ∈ M, o.p g h) → ∀ o ∈ M', o.p g h
theorem St_conv {M' : Mem} {a : Act} {w : World} (h : ConvM M M') (hS : St E D Γ M a w) : St E D Γ M' a w := by
  have hmem : ∀ b, b ∈ E.O ++ blks M ↔ b ∈ E.O ++ blks M' := fun b => by simp only [List.mem_append, h.pm.mem_iff]
  have e : hv E M w = hv E M' w := by
    funext b; simp only [hv, hid, hmem b]
  refine ⟨⟨?_, h.pm.nodup_iff.1 hS.base.nd, fun b hb => hS.base.dis b (h.pm.mem_iff.2 hb), fun b hb => hS.base.lo b (h.pm.mem_iff.2 hb), fun b hb => hS.base.ex b ((hmem b).2 hb), hS.base.fr⟩, hS.sz, hS.df, fun t φ ht => e ▸ hS.tm t φ ht⟩
  have := h.mem (raw w) (hv E M w) hS.base.mem
  intro o ho
  have e' : hid (E.O ++ blks M') (view w) = hv E M w := e.symm
  rw [e']; exact this o ho
theorem J_conv {M' : Mem} {c : Code} (h : ConvM M M') (hj : J P E D Γ M' c Q) : J P E D Γ M c Q := fun a w hS => hj a w (St_conv h hS)
/-! ### Own memory is opened -/
structure Opn (Ms : Mem) (g : RH) (h h' : Hp) : Prop where
  le : Hp.le h h'
  eq : ∀ b ∈ blks Ms, vw g b = h' b
  mem : ∀ o ∈ Ms, o.p g h
def Ent (Ms : Mem) (φ ψ : VT) : Prop := ∀ g h h' v, Opn Ms g h h' → φ.p v h → ψ.p v h'
def EntO (Ms : Mem) (o o' : Own) : Prop := o.bl = o'.bl ∧ ∀ g h h', Opn Ms g h h' → o.p g h → o'.p g h'
inductive EntM (Ms : Mem) : Mem → Mem → Prop
  | nil : EntM Ms [] []
  | keep {o o' M M'} : EntO Ms o o' → EntM Ms M M' → EntM Ms (o :: M) (o' :: M')
theorem EntM.blks {Ms A B : Mem} (h : EntM Ms A B) : Tor.blks A = Tor.blks B := by
  induction h with
  | nil => rfl
  | keep h _ ih => rw [blks_cons, blks_cons, h.1, ih]
theorem EntM.mem {Ms A B : Mem} (h : EntM Ms A B) : ∀ o' ∈ B, ∃ o ∈ A, EntO Ms o o' := by
  induction h with
  | nil => intro o ho; cases ho
  | keep h _ ih =>
    intro o ho
    rcases List.mem_cons.1 ho with rfl | ho
    · exact ⟨_, List.mem_cons_self, h⟩
    · obtain ⟨x, hx, hx'⟩ := ih o ho; exact ⟨x, List.mem_cons_of_mem _ hx, hx'⟩
def EntG (Ms : Mem) (Γ Γ' : Ctx) : Prop := ∀ t ψ, look Γ' t = some ψ → ∃ φ, look Γ t = some φ ∧ Ent Ms φ ψ
theorem Ent.refl {Ms : Mem} (φ : VT) : Ent Ms φ φ := fun g h h' v ho hp => φ.mono ho.le hp
theorem EntO.refl {Ms : Mem} (o : Own) : EntO Ms o o := ⟨rfl, fun g h h' ho hp => o.loc (fun _ _ => rfl) ho.le hp⟩
theorem EntM.refl {Ms : Mem} : ∀ M : Mem, EntM Ms M M
  | [] => .nil
  | o :: M => .keep (EntO.refl o) (EntM.refl M)
theorem EntG.refl {Ms : Mem} (Γ : Ctx) : EntG Ms Γ Γ := fun t ψ h => ⟨ψ, h, Ent.refl _⟩
theorem EntG.set {Ms : Mem} {t : Nat} {φ ψ : VT} (h : look Γ t = some φ) (he : Ent Ms φ ψ) : EntG Ms Γ ((t, ψ) :: Γ) := fun s χ hs => by
  rw [look_cons] at hs
  split at hs
  · rename_i e; subst e; cases hs; exact ⟨φ, h, he⟩
  · exact ⟨χ, hs, Ent.refl _⟩
theorem St_open {Ms Kp Kp' : Mem} {Γ' : Ctx} {a : Act} {w : World} (hp : M.Perm (Ms ++ Kp)) (hk : EntM Ms Kp Kp') (hg : EntG Ms Γ Γ') (hS0 : St E D Γ M a w) : St E D Γ' Kp' a w := by
  have hS := St_perm hp hS0
  have eb := hk.blks
  have hopn : Opn Ms (raw w) (hv E (Ms ++ Kp) w) (hv E Kp' w) := by
    refine ⟨?_, ?_, fun o ho => hS.base.mem o (List.mem_append.2 (.inl ho))⟩
    · unfold hv
      refine hid_sub fun b hb => ?_
      rw [← eb] at hb
      rw [blks_app]
      rcases List.mem_append.1 hb with h | h
      · exact List.mem_append.2 (.inl h)
      · exact List.mem_append.2 (.inr (List.mem_append.2 (.inr h)))
    · intro b hb
      have hbM : b ∈ blks (Ms ++ Kp) := by rw [blks_app]; exact List.mem_append.2 (.inl hb)
      have hnd := hS.base.nd
      rw [blks_app, List.nodup_append] at hnd
      have h : b ∉ E.O ++ blks Kp' := by
        rw [← eb, List.mem_append, not_or]
        exact ⟨hS.base.dis b hbM, fun h => hnd.2.2 b hb b h rfl⟩
      simp only [hv, hid, if_neg h]; rfl
  have hsub : SubM (Ms ++ Kp) Kp := SubM.dropN Ms
  have hB := hS.base.sub hsub
  refine ⟨⟨fun o' ho' => ?_, eb ▸ hB.nd, fun b hb => hB.dis b (eb ▸ hb), fun b hb => hB.lo b (eb ▸ hb), fun b hb => hB.ex b (eb ▸ hb), hB.fr⟩, hS.sz, hS.df, fun t ψ ht => ?_⟩
  · obtain ⟨o, ho, he⟩ := hk.mem o' ho'
    exact he.2 _ _ _ hopn (hS.base.mem o (List.mem_append.2 (.inr ho)))
  · obtain ⟨φ, hφ, he⟩ := hg t ψ ht
    exact he _ _ _ _ hopn (hS.tm t φ hφ)
theorem PJ_open {e : Exit} (Ms : Mem) {Kp Kp' : Mem} {Γ' : Ctx} (hp : M.Perm (Ms ++ Kp)) (hk : EntM Ms Kp Kp') (hg : EntG Ms Γ Γ') (h : PJ E D Γ' Kp' e Q) : PJ E D Γ M e Q := fun a w hS => h a w (St_open hp hk hg hS)
theorem Ent.slE {Ms : Mem} {sv : Option Nat} {T : TypeId} {L : Lay} {cap n : Nat} {φ ψ : Nat → VT} (hm : sliO sv T L cap n φ ∈ Ms) (H : ∀ q, q < n → Ent Ms (φ q) (ψ q)) : Ent Ms (one (slV sv n cap)) (slT L n ψ) := by
  intro g h h' v ho hv
  have hv : v = slV sv n cap := hv
  subst hv
  obtain ⟨h1, h2, h3, h4⟩ := ho.mem _ hm
  cases sv with
  | none =>
    have hc := h3 rfl
    exact ⟨none, cap, rfl, h1, h2, fun i hi => by omega⟩
  | some b =>
    obtain ⟨c, hc, hs, he⟩ := h4 b rfl
    refine ⟨some ⟨b, 0, none⟩, cap, rfl, h1, h2, fun i hi => ?_⟩
    obtain ⟨x, hx, hp⟩ := he i hi
    exact ⟨b, 0, c, T, (0, 0), x, rfl, by rw [← ho.eq b (blks_mem hm (by simp [sliO]))]; exact hc, by rw [Nat.zero_add]; exact hx, H i hi g h h' x ho hp⟩
theorem Ent.sl {Ms : Mem} {sv : Option Nat} {T : TypeId} {L : Lay} {cap n : Nat} {φ : Nat → VT} (hm : sliO sv T L cap n φ ∈ Ms) : Ent Ms (one (slV sv n cap)) (slT L n φ) := Ent.slE hm fun q _ => Ent.refl _
def EntC (Ms : Mem) (cs cs' : Comps) : Prop := ∀ q ∈ cs', ∃ ψ, (q.1, q.2.1, ψ) ∈ cs ∧ Ent Ms ψ q.2.2
theorem EntC.ok {Ms : Mem} {cs cs' : Comps} (hE : EntC Ms cs cs') {g : RH} {h h' : Hp} (ho : Opn Ms g h h') {c : Array Value} (hc : compsP cs c h) : compsP cs' c h' := fun q hq => by
  obtain ⟨ψ, h1, h2⟩ := hE q hq
  obtain ⟨x, hx, hp⟩ := hc _ h1
  exact ⟨x, hx, h2 g h h' x ho hp⟩
theorem EntO.box {Ms : Mem} {b : Nat} {T : TypeId} {m : Nat} {cs cs' : Comps} (hE : EntC Ms cs cs') : EntO Ms (boxO b T m cs) (boxO b T m cs') :=
  ⟨rfl, fun g h h' ho ⟨c, h1, h2, h3, h4⟩ => ⟨c, h1, h2, h3, hE.ok ho h4⟩⟩
theorem EntC.cons {Ms : Mem} {cs : Comps} {k : Nat} {L : Lay} {φ ψ : VT} {cs' : Comps} (h : (k, L, φ) ∈ cs) (he : Ent Ms φ ψ) (hr : EntC Ms cs cs') : EntC Ms cs ((k, L, ψ) :: cs') := fun q hq => by
  rcases List.mem_cons.1 hq with rfl | hq
  · exact ⟨φ, h, he⟩
  · exact hr q hq
theorem OkM.ok {σ : Type} {f : FuncId} {φs : List VT} {ψ : σ → VT} {Ms : σ → Mem} {χ : VT} (h : OkM P f φs ψ Ms) (H : ∀ s, Ent (Ms s) (ψ s) χ) : Ok P f φs χ := by
  intro w O vs hO hp
  refine Calls.mono (h w O vs hO hp) ?_
  rintro e w' ⟨s, v, rfl, hv', hext, hmem, hnd, hb⟩
  refine ⟨v, rfl, ?_, hext⟩
  refine H s (raw w') _ _ v ⟨hid_sub fun b hb => List.mem_append.2 (.inl hb), fun b hb' => ?_, hmem⟩ hv'
  simp only [hid, if_neg (hb b hb').2.2]; rfl
theorem EntC.nil {Ms : Mem} {cs : Comps} : EntC Ms cs [] := fun q hq => by cases hq
end
end Tor
end
section
set_option linter.unusedSectionVars false
namespace Tor
open Go Go.RowKit
section
variable {P : Program} {E : Env} {D : List Deferred} {Γ : Ctx} {M : Mem} {Q : Exit → Act → World → Prop}
variable {ops : Array Oper} {i : Nat} {ty : TypeId} {pos : String} {af : Array Edge} {os : List Oper} {K : List Deferred → Ctx → Mem → Prop} {d : Option Tmp} {gd : Option (Nat × Bool)}
/-! ### defer -/
/-! ### Function values -/
def cloT (f : FuncId) (cs : List VT) : VT where
  p v h := ∃ ca : List Value, v = .func (.func f) #[] ca.toArray ∧ tupP cs ca h
  mono := fun H ⟨ca, h1, h2⟩ => ⟨ca, h1, tupP_mono H h2⟩
theorem fn_clo {f : FuncId} : VT.le (one (.func (.func f) #[] #[])) (cloT f []) := fun v h e => ⟨[], e, trivial⟩
def Callable (P : Program) (cl : VT) (φs : List VT) (ψ : VT) : Prop := ∀ v h, cl.p v h → ∃ (f : FuncId) (cs : List VT), Fn P f ∧ (cloT f cs).p v h ∧ Ok P f (φs ++ cs) ψ
theorem Callable.fn {f : FuncId} [hF : Fn P f] {φs : List VT} {ψ : VT} (h : Ok P f φs ψ) : Callable P (one (.func (.func f) #[] #[])) φs ψ := fun v g hv => ⟨f, [], hF, fn_clo v g hv, by simpa using h⟩
theorem tupP_app {h : Hp} : ∀ {φs ψs : List VT} {vs us : List Value}, tupP φs vs h → tupP ψs us h → tupP (φs ++ ψs) (vs ++ us) h
  | [], _, [], _, _, k => k
  | _ :: _, _, _ :: _, _, ⟨a, b⟩, k => ⟨a, tupP_app b k⟩
  | [], _, _ :: _, _, h, _ => h.elim
  | _ :: _, _, [], _, h, _ => h.elim
theorem s_callF {t : Operand} {cl : VT} {xs : Array Operand} {ats : Array TypeId} {φs φs' : List VT} {ψ : VT} (hC : Callable P cl φs' ψ) (ht : evalT Γ t = some cl) (hx : evalL Γ xs.toList = some φs) (hle : leAll φs φs') :
    StepO P E Γ M ⟨d, .call ⟨.value t, xs, ats⟩, ty, pos, af, gd⟩ ψ := by
  intro a w hb hf next Q hn
  have hp := evalL_p (a := a) (h := hv E M w) hx (fun x φ hx' he => hf x φ (by simp [Op.operands, Call.operands]; exact .inr (by simpa using hx')) he)
  obtain ⟨f, cs, hF, ⟨ca, h0, hca⟩, hok⟩ := hC _ _ (hf t _ (by simp [Op.operands, Call.operands]) ht)
  have := hok w (E.O ++ blks M) _ hb.ex (tupP_app (leAll_p hle hp) hca)
  unfold Oper.wp
  have hr : (execOp a.eval ⟨d, .call ⟨.value t, xs, ats⟩, ty, pos, af, gd⟩).run P w = .ok (.enter f ((xs.toList.map a.eval) ++ ca).toArray) w := by
    have h9 : (xs.map a.eval) = (xs.toList.map a.eval).toArray := by simp [← Array.toList_map]
    simp [execOp, resolve, Deferred.ofValue, invoke, h0, hF.run, h9]
  rw [hr]
  refine Calls.mono this ?_
  rintro e w' ⟨v, rfl, hv', hext⟩
  exact hn v w' hext hv'
theorem s_makeFunc {f : FuncId} {xs : Array Operand} {φs : List VT} (hx : evalL Γ xs.toList = some φs) : StepO P E Γ M ⟨d, .makeFunc (.func f) #[] xs, ty, pos, af, gd⟩ (cloT f φs) :=
  StepO.ofRun fun a w hb hf => by
    have hp := evalL_p (a := a) (h := hv E M w) hx (fun x φ hx' he => hf x φ (by simp [Op.operands]; simpa using hx') he)
    have h9 : (xs.map a.eval) = (xs.toList.map a.eval).toArray := by simp [← Array.toList_map]
    exact ⟨_, by simp [execOp, Instr.makeFunc, h9, Sem.run_bind], _, rfl, hp⟩
theorem Ent.clo {Ms : Mem} {f : FuncId} {cs cs' : List VT} (h : ∀ g h0 h' vs, Opn Ms g h0 h' → tupP cs vs h0 → tupP cs' vs h') : Ent Ms (cloT f cs) (cloT f cs') := fun g h0 h' v ho ⟨ca, e, hc⟩ => ⟨ca, e, h g h0 h' ca ho hc⟩
theorem Ent.clo1 {Ms : Mem} {f : FuncId} {φ ψ : VT} (h : Ent Ms φ ψ) : Ent Ms (cloT f [φ]) (cloT f [ψ]) := Ent.clo fun g h0 h' vs ho hc => by
  cases vs with
  | nil => exact hc.elim
  | cons v vs => exact ⟨h g h0 h' v ho hc.1, by cases vs with | nil => trivial | cons _ _ => exact hc.2.elim⟩
theorem Ent.ptr {Ms : Mem} {b m : Nat} {T : TypeId} {L : Lay} {φ : VT} {cs : Comps} (hm : boxO b T m cs ∈ Ms) (hl : (0, L, φ) ∈ cs) : Ent Ms (one (.pointer (some ⟨b, 0, none⟩))) (ptrT L φ) := by
  intro g h h' v ho hv
  have hv : v = _ := hv
  subst hv
  obtain ⟨c, h1, h2, h3, h4⟩ := ho.mem _ hm
  obtain ⟨x, hx, hp⟩ := h4 _ hl
  exact ⟨b, 0, c, T, (0, 0), x, rfl, by rw [← ho.eq b (blks_mem hm (by simp [boxO]))]; exact h1, hx, φ.mono ho.le hp⟩
/-! ### A slice compared with nil -/
theorem run_eqNil {T e : TypeId} [hS : SliceOf P T e] (a : Option Addr) (n c : Nat) (w : World) : (Op.equal T (.slice a n c) (.slice none 0 0)).run P w = .ok a.isNone w := by
  show (Op.equalIn (9999 + 1) T _ _).run P w = _
  unfold Op.equalIn
  rw [Sem.run_bind, run_underlying' hS.und]
  cases a <;> rfl
theorem s_eqNil {T T' e : TypeId} [hS : SliceOf P T e] {x : Operand} {L : Lay} {n : Nat} {φ : Nat → VT} (hx : evalT Γ x = some (slT L n φ)) :
    StepO P E Γ M ⟨d, .binOp .eql T x (.const (.slice none 0 0)) T', ty, pos, af, gd⟩ (exT fun b : Bool => andT (b = true → n = 0) (one (.bool b))) :=
  StepO.ofRun fun ac w hb hf => by
    obtain ⟨a, cap, h1, h2, h3, h4⟩ := hf x _ (by simp [Op.operands]) hx
    have hc : ac.eval (.const (.slice none 0 0)) = .slice none 0 0 := rfl
    refine ⟨.bool a.isNone, ?_, a.isNone, fun hn => ?_, rfl⟩
    · simp only [execOp, h1, hc, eqGuard, binOp, Sem.run_bind, run_eqNil]; rfl
    · cases a with
      | some _ => cases hn
      | none =>
        rcases Nat.eq_zero_or_pos n with h | h
        · exact h
        · obtain ⟨b, o, c, T1, f, x, h5, _⟩ := h4 0 h; cases h5
end
end Tor
end
section
namespace Tor
open Go Go.RowKit
section
variable {P : Program} {E : Env} {ops : Array Oper}
def predN : Nat → Array Oper → Nat → Nat → Bool
  | 0, _, _, _ => false
  | f + 1, ops, i, j => predB ops i j || (List.range ops.size).any fun k => predB ops k j && predN f ops i k
theorem clsT {l : Array Bool} (hl : Lst ops l) : ∀ (f j : Nat), l.getD j false = true → ∀ i, predN f ops i j = true → l.getD i false = true
  | 0, j, _, i, h => by cases h
  | f + 1, j, hj, i, h => by
    simp only [predN, Bool.or_eq_true, List.any_eq_true, Bool.and_eq_true] at h
    rcases h with h | ⟨k, _, h1, h2⟩
    · exact hl.closed j hj i h
    · exact clsT hl f k (hl.closed j hj k h1) i h2
theorem rdyT {l : Array Bool} (hl : Lst ops l) {f j i : Nat} (hj : j ∈ Region.ready .any ops l) (h : predN f ops i j = true) : l.getD i false = true := by
  cases f with
  | zero => cases h
  | succ f =>
    simp only [predN, Bool.or_eq_true, List.any_eq_true, Bool.and_eq_true] at h
    rcases h with h | ⟨k, _, h1, h2⟩
    · exact ready_pred hj h
    · exact clsT hl f k (ready_pred hj h1) i h2
end
end Tor
end
section
set_option linter.unusedSectionVars false
namespace Tor
open Go Go.RowKit
section
variable {P : Program} {E : Env} {ops : Array Oper}
structure Cell where
  ta : Tmp
  T : TypeId
  L : Lay
  ψ : VT
def Env.hide (E : Env) (B : List Nat) : Env := { E with O := E.O ++ B }
def allocO (o : Oper) : Option (Tmp × TypeId) := match o.op, o.dst with | .alloc T, some d => some (d, T) | _, _ => none
def storeO (o : Oper) : Option (Tmp × TypeId × Operand) := match o.op, o.dst with | .store T (.tmp t) y, none => some (t, T, y) | _, _ => none
def allocAt (ops : Array Oper) (j : Nat) : Option (Tmp × TypeId) := (ops[j]?).bind allocO
def storeAt (ops : Array Oper) (j : Nat) : Option (Tmp × TypeId × Operand) := (ops[j]?).bind storeO
inductive OpU (P : Program) (E : Env) (M : Mem) (ops : Array Oper) (Γ : Ctx) (o : Oper) (C : List Cell) : Ctx → List Cell → Prop
  | pure {Γ' : Ctx} : allocO o = none → (∀ B, StepG P (E.hide B) Γ M ops o Γ') → OpU P E M ops Γ o C Γ' C
  | alloc {d : Nat} {T : TypeId} {L : Lay} {z : Value} {by' : Nat} {ty : TypeId} {pos : String} {af : Array Edge} (hL : LayOf P T L) (hZ : ZeroOf P T z by') (hF : Flat (one z) L) : o = ⟨some d, .alloc T, ty, pos, af, none⟩ → d < E.N → OpU P E M ops Γ o C Γ C
  | store {ta : Tmp} {T : TypeId} {L : Lay} {ψ : VT} {y : Operand} {ty : TypeId} {pos : String} {af : Array Edge} (hL : LayOf P T L) (hF : Flat ψ L) : o = ⟨none, .store T (.tmp ta) y, ty, pos, af, none⟩ → evalT Γ y = some ψ → OpU P E M ops Γ o C Γ (⟨ta, T, L, ψ⟩ :: C)
inductive RunU (P : Program) (E : Env) (M : Mem) (ops : Array Oper) : Nat → Ctx → List Cell → List Oper → (Ctx → List Cell → Prop) → Prop
  | nil {i Γ C K} : K Γ C → RunU P E M ops i Γ C [] K
  | step {i Γ C o os K Γ' C'} : OpU P E M ops Γ o C Γ' C' → RunU P E M ops (i + 1) Γ' C' os K → RunU P E M ops i Γ C (o :: os) K
theorem RunU.chain {M : Mem} {i : Nat} {Γ : Ctx} {C : List Cell} {os : List Oper} {K : Ctx → List Cell → Prop} (h : RunU P E M ops i Γ C os K) :
    ∃ (G : Nat → Ctx) (CC : Nat → List Cell), G i = Γ ∧ CC i = C ∧ K (G (i + os.length)) (CC (i + os.length)) ∧ ∀ j o, os[j]? = some o → OpU P E M ops (G (i + j)) o (CC (i + j)) (G (i + j + 1)) (CC (i + j + 1)) := by
  induction h with
  | @nil i Γ C K hK => exact ⟨fun _ => Γ, fun _ => C, rfl, rfl, hK, fun j o h => by simp at h⟩
  | @step i Γ C o os K Γ' C' hs _ ih =>
    obtain ⟨G, CC, h0, h1, hK, hG⟩ := ih
    refine ⟨fun j => if j = i then Γ else G j, fun j => if j = i then C else CC j, by simp, by simp, ?_, fun j o' hj => ?_⟩
    · have e1 : i + (o :: os).length = i + 1 + os.length := by simp only [List.length_cons]; omega
      have e2 : ¬ (i + (o :: os).length = i) := by simp only [List.length_cons]; omega
      simp only [if_neg e2, e1]; rw [e1] at e2; simp only [if_neg e2]; exact hK
    · cases j with
      | zero =>
        simp only [List.getElem?_cons_zero, Option.some.injEq] at hj; subst hj
        have e : ¬ (i + 0 + 1 = i) := by omega
        simp only [Nat.add_zero, if_true] at e ⊢; rw [if_neg e, if_neg e, h0, h1]; exact hs
      | succ j =>
        simp only [List.getElem?_cons_succ] at hj
        have := hG j o' hj
        have e1 : ¬ (i + (j + 1) = i) := by omega
        have e2 : ¬ (i + (j + 1) + 1 = i) := by omega
        simp only [if_neg e1, if_neg e2]
        rw [show i + (j + 1) = i + 1 + j by omega]; exact this
def okU (ops : Array Oper) : Bool :=
  okAny ops.size ops &&
  ((List.range ops.size).all fun j => match allocAt ops j with
    | some (d, T) => ((List.range ops.size).all fun i => i == j || dstOf ops i != some d) &&
        ((List.range ops.size).any fun s => match storeAt ops s with | some (t, T', _) => t == d && T' == T | none => false)
    | none => true) &&
  ((List.range ops.size).all fun s => match storeAt ops s with
    | some (t, T, _) => ((List.range ops.size).any fun j => match allocAt ops j with | some (d, T') => d == t && T' == T && predB ops j s | none => false) &&
        ((List.range s).all fun s' => match storeAt ops s' with | some (t', _, _) => t' != t | none => true)
    | none => true)
theorem lt_of_allocAt {j : Nat} {x : Tmp × TypeId} (h : allocAt ops j = some x) : j < ops.size := by
  unfold allocAt at h
  rcases Nat.lt_or_ge j ops.size with h' | h'
  · exact h'
  · rw [Array.getElem?_eq_none h'] at h; cases h
theorem lt_of_storeAt {j : Nat} {x : Tmp × TypeId × Operand} (h : storeAt ops j = some x) : j < ops.size := by
  unfold storeAt at h
  rcases Nat.lt_or_ge j ops.size with h' | h'
  · exact h'
  · rw [Array.getElem?_eq_none h'] at h; cases h
theorem lt_of_dst {j : Nat} {x : Tmp} (h : dstOf ops j = some x) : j < ops.size := by
  unfold dstOf at h
  rcases Nat.lt_or_ge j ops.size with h' | h'
  · exact h'
  · rw [Array.getElem?_eq_none h'] at h; cases h
structure OkU (ops : Array Oper) : Prop where
  any : okAny ops.size ops = true
  al : ∀ j d T, allocAt ops j = some (d, T) → (∀ i, i ≠ j → dstOf ops i ≠ some d) ∧ ∃ s y, storeAt ops s = some (d, T, y)
  st : ∀ s t T y, storeAt ops s = some (t, T, y) → (∃ j, allocAt ops j = some (t, T) ∧ predB ops j s = true) ∧ ∀ s' T' y', s' < s → storeAt ops s' ≠ some (t, T', y')
theorem okU_ok (h : okU ops = true) : OkU ops := by
  simp only [okU, Bool.and_eq_true, List.all_eq_true, List.mem_range] at h
  obtain ⟨⟨h1, h2⟩, h3⟩ := h
  refine ⟨h1, fun j d T hj => ?_, fun s t T y hs => ?_⟩
  · have := h2 j (lt_of_allocAt hj)
    rw [hj] at this
    simp only [Bool.and_eq_true, List.all_eq_true, List.mem_range, List.any_eq_true, Bool.or_eq_true, beq_iff_eq, bne_iff_ne] at this
    refine ⟨fun i hi hd => ?_, ?_⟩
    · rcases this.1 i (lt_of_dst hd) with h | h
      · exact hi h
      · exact h hd
    · obtain ⟨s, _, hs⟩ := this.2
      cases hst : storeAt ops s with
      | none => rw [hst] at hs; cases hs
      | some x =>
        obtain ⟨t, T', y⟩ := x
        rw [hst] at hs
        simp only [Bool.and_eq_true, beq_iff_eq] at hs
        exact ⟨s, y, by rw [hst, hs.1, hs.2]⟩
  · have := h3 s (lt_of_storeAt hs)
    rw [hs] at this
    simp only [Bool.and_eq_true, List.all_eq_true, List.mem_range, List.any_eq_true] at this
    refine ⟨?_, fun s' T' y' hlt hs' => ?_⟩
    · obtain ⟨j, _, hj⟩ := this.1
      cases hst : allocAt ops j with
      | none => rw [hst] at hj; cases hj
      | some x =>
        obtain ⟨d, T'⟩ := x
        rw [hst] at hj
        simp only [Bool.and_eq_true, beq_iff_eq] at hj
        exact ⟨j, by rw [hst, hj.1.1, hj.1.2], hj.2⟩
    · have := this.2 s' hlt
      rw [hs'] at this
      simp at this
theorem wpAny_inv {n : Nat} (hok : okAny n ops = true) {Q : Exit → Act → World → Prop} (Iv : Array Bool → Act → World → Prop)
    (hend : ∀ l a w, Iv l a w → (∀ j, j < ops.size → l.getD j false = true) → Q .normal a w)
    (hstep : ∀ l a w i, Iv l a w → Lst ops l → i < ops.size → l.getD i false = false → i ∈ Region.ready .any ops l → wpOp P ops Q i (fun a' w' => Iv (l.setIfInBounds i true) a' w') a w) :
    ∀ (fuel : Nat) (l : Array Bool) (a : Act) (w : World), Lst ops l → left ops l ≤ fuel → Iv l a w → wpAny P .any ops Q fuel l a w := by
  have hall : ∀ l : Array Bool, Region.ready .any ops l = [] → Lst ops l → ∀ j, j < ops.size → l.getD j false = true := by
    intro l hr hl j hj
    rw [← Bool.not_eq_false]; intro h
    obtain ⟨i, hi⟩ := ready_ne hok hl.size hj h
    rw [hr] at hi; cases hi
  intro fuel
  induction fuel with
  | zero =>
    intro l a w hl hleft hI
    have hr : Region.ready .any ops l = [] := by
      rw [List.eq_nil_iff_forall_not_mem]
      intro i hi
      have h1 := ready_lt hi
      have h2 := (mem_ready.1 hi).1
      rw [getD_tf (by have := hl.size; omega) true false] at h2
      have := left_set (ops := ops) hl.size h1 h2
      omega
    exact ⟨hr, hend l a w hI (hall l hr hl)⟩
  | succ f ih =>
    intro l a w hl hleft hI
    refine ⟨fun hr => hend l a w hI (hall l hr hl), fun i hi => ?_⟩
    have h1 := ready_lt hi
    have h2 := (mem_ready.1 hi).1
    rw [getD_tf (by have := hl.size; omega) true false] at h2
    have hls := hl.size
    refine wpOp_mono (fun a' w' h' => ?_) (hstep l a w i hI hl h1 h2 hi)
    refine ih _ a' w' ⟨by simpa using hls, fun j hj i' hp => ?_⟩ (by have := left_set (ops := ops) hls h1 h2; omega) h'
    rw [getD_set (by omega)] at hj ⊢
    split
    · rfl
    · split at hj
      · rename_i h3; subst h3; exact ready_pred hi hp
      · exact hl.closed j hj i' hp
theorem hid_congr {O O' : List Nat} (h : ∀ b, b ∈ O ↔ b ∈ O') (k : Hp) : hid O k = hid O' k := by
  funext b; simp only [hid, h b]
def hb (ops : Array Oper) (l : Array Bool) (β : Nat → Nat) : List Nat := ((List.range ops.size).filter fun j => (allocAt ops j).isSome && l.getD j false).map β
theorem mem_hb {l : Array Bool} {β : Nat → Nat} {b : Nat} : b ∈ hb ops l β ↔ ∃ j x, allocAt ops j = some x ∧ l.getD j false = true ∧ β j = b := by
  simp only [hb, List.mem_map, List.mem_filter, List.mem_range, Bool.and_eq_true, Option.isSome_iff_exists]
  constructor
  · rintro ⟨j, ⟨_, ⟨x, hx⟩, hl⟩, rfl⟩; exact ⟨j, x, hx, hl, rfl⟩
  · rintro ⟨j, x, hx, hl, rfl⟩; exact ⟨j, ⟨lt_of_allocAt hx, ⟨x, hx⟩, hl⟩, rfl⟩
theorem hb_set {l : Array Bool} (hs : l.size = ops.size) {β : Nat → Nat} {i : Nat} (hi : i < ops.size) (h : allocAt ops i = none) : hb ops (l.setIfInBounds i true) β = hb ops l β := by
  unfold hb
  congr 1
  refine List.filter_congr fun j _ => ?_
  rw [getD_set (by omega)]
  by_cases e : i = j
  · subst e; rw [h]; rfl
  · rw [if_neg e]
theorem LayOf.unique {T : TypeId} {L L' : Lay} (h : LayOf P T L) (h' : LayOf P T L') : L = L' := by
  obtain ⟨i, h1, h2⟩ := h.info
  obtain ⟨i', h1', h2'⟩ := h'.info
  obtain ⟨d, h3, h4⟩ := h.und
  obtain ⟨d', h3', h4'⟩ := h'.und
  rw [h1] at h1'; cases h1'
  rw [h3] at h3'; cases h3'
  have e1 : L.sz = L'.sz := by rw [← h2, ← h2']
  have e2 : L.isAgg = L'.isAgg := by rw [← h4, ← h4']
  cases L <;> cases L' <;> simp [Lay.isAgg, Lay.sz] at e1 e2 ⊢
  exact e1
structure InvU (P : Program) (E : Env) (D : List Deferred) (M : Mem) (ops : Array Oper) (G : Nat → Ctx) (w1 : World) (a1 : Act) (β : Nat → Nat) (l : Array Bool) (a : Act) (w : World) : Prop where
  base : Base (E.hide (hb ops l β)) M w
  sz : a.tmps.size = E.N
  df : a.defers = D
  inv : Inv (E.hide (hb ops l β)) ops ops.size G M l a w
  inj : ∀ j j' x x', allocAt ops j = some x → allocAt ops j' = some x' → l.getD j false = true → l.getD j' false = true → β j = β j' → j = j'
  ap : ∀ j x, allocAt ops j = some x → l.getD j false = true → β j ∉ E.O ++ blks M ∧ w1.heap.size ≤ β j ∧ β j < w.heap.size
  cell : ∀ j d T, allocAt ops j = some (d, T) → l.getD j false = true → a.tmps.getD d undef = .pointer (some ⟨β j, 0, none⟩) ∧
    ∃ c L, LayOf P T L ∧ view w (β j) = some (c, T, (0, 0)) ∧ c.size = L.sz ∧ c.all (·.oneCell') = true ∧
      ∀ s y ψ, storeAt ops s = some (d, T, y) → l.getD s false = true → evalT (G s) y = some ψ → ∃ v, valAt L c 0 = some v ∧ ψ.p v (hv (E.hide (hb ops l β)) M w)
  keepW : Ext w1 w
  keepS : ∀ t, (∀ j, dstOf ops j ≠ some t) → a.tmps.getD t undef = a1.tmps.getD t undef
theorem look_stepU {M : Mem} {G : Nat → Ctx} {CC : Nat → List Cell} (hG : ∀ j o, ops[j]? = some o → OpU P E M ops (G j) o (CC j) (G (j + 1)) (CC (j + 1))) {t : Nat} {j : Nat} {o : Oper} (ho : ops[j]? = some o) (hno : dstOf ops j ≠ some t) :
    look (G (j + 1)) t = look (G j) t := by
  generalize hX : G (j + 1) = X
  generalize hY : CC (j + 1) = Y
  have h := hG j o ho
  rw [hX, hY] at h
  cases h with
  | pure _ hs =>
    obtain ⟨d, ψ, hd, _, hΓ, _⟩ := (hs []).run ho
    rw [hΓ, look_cons, if_neg]
    intro e; subst e; exact hno (by simp [dstOf, ho, hd])
  | alloc hL hZ hF he hd => rfl
  | store hL hF he hy => rfl
theorem look_betweenU {M : Mem} {G : Nat → Ctx} {CC : Nat → List Cell} (hG : ∀ j o, ops[j]? = some o → OpU P E M ops (G j) o (CC j) (G (j + 1)) (CC (j + 1))) {t : Nat} {i k : Nat} (hik : i ≤ k) (hk : k ≤ ops.size)
    (hno : ∀ j, i ≤ j → j < k → dstOf ops j ≠ some t) : look (G k) t = look (G i) t := by
  induction k with
  | zero => have : i = 0 := by omega
            subst this; rfl
  | succ k ih =>
    by_cases e : i = k + 1
    · subst e; rfl
    · have hk' : k < ops.size := by omega
      have ho : ops[k]? = some ops[k] := by simp [hk']
      rw [look_stepU hG ho (hno k (by omega) (by omega))]
      exact ih (by omega) (by omega) (fun j h1 h2 => hno j h1 (by omega))
theorem InvU.names {D : List Deferred} {M : Mem} {G : Nat → Ctx} {w1 : World} {a1 : Act} {β : Nat → Nat} {l : Array Bool} {a : Act} {w : World} (hI : InvU P E D M ops G w1 a1 β l a w) (hok : okAny ops.size ops = true) (hl : Lst ops l)
    {i : Nat} {o : Oper} (ho : ops[i]? = some o) (hi2 : l.getD i false = false) (hi : i ∈ Region.ready .any ops l) :
    ∀ t φ, t ∈ namesO ops o → look (G i) t = some φ → φ.p (a.tmps.getD t undef) (hv (E.hide (hb ops l β)) M w) := by
  have hi1 := ready_lt hi
  intro t φ ht hlk
  refine hI.inv i (by omega) t φ hlk (fun j hj hdj => ?_) (fun j hj hjs hdj => ?_)
  · rcases okAny_pre hok hj hi1 with hp | ⟨_, hp⟩
    · exact ready_pred hi hp
    · rw [clash_name hdj (by simpa [namesOf, ho] using ht)] at hp; cases hp
  · rcases Nat.lt_or_ge i j with h' | h'
    · rw [← Bool.not_eq_true]; intro hlj
      rcases okAny_pre hok h' hjs with hp | ⟨_, hp⟩
      · have := hl.closed j hlj i hp; rw [this] at hi2; cases hi2
      · rw [clash_name' hdj (by simpa [namesOf, ho] using ht)] at hp; cases hp
    · have : j = i := by omega
      subst this; exact hi2
theorem stepU {D : List Deferred} {M : Mem} {G : Nat → Ctx} {CC : Nat → List Cell} {Q : Exit → Act → World → Prop} (hU : OkU ops) (hG : ∀ j o, ops[j]? = some o → OpU P E M ops (G j) o (CC j) (G (j + 1)) (CC (j + 1)))
    (hfree : ∀ k j d T, k ≤ ops.size → allocAt ops j = some (d, T) → look (G k) d = none) {w1 : World} (hw1 : E.w0.heap.size ≤ w1.heap.size) {a1 : Act} {β : Nat → Nat} {l : Array Bool} {a : Act} {w : World} {i : Nat}
    (hI : InvU P E D M ops G w1 a1 β l a w) (hl : Lst ops l) (hi1 : i < ops.size) (hi2 : l.getD i false = false) (hi : i ∈ Region.ready .any ops l) :
    wpOp P ops Q i (fun a' w' => ∃ β', InvU P E D M ops G w1 a1 β' (l.setIfInBounds i true) a' w') a w := by
  have hok := hU.any
  have hls := hl.size
  have ho : ops[i]? = some ops[i] := by simp [hi1]
  have hnames := hI.names hok hl ho hi2 hi
  have hsame : ∀ j, j ≠ i → (l.setIfInBounds i true).getD j false = l.getD j false := fun j hj => by rw [getD_set (by omega), if_neg (fun e => hj e.symm)]
  have hself : (l.setIfInBounds i true).getD i false = true := by rw [getD_set (by omega), if_pos rfl]
  generalize hX : G (i + 1) = X
  generalize hY : CC (i + 1) = Y
  have hop := hG i _ ho
  rw [hX, hY] at hop
  cases hop with
  | pure hal hs =>
    have hali : allocAt ops i = none := by simp [allocAt, ho, hal]
    obtain ⟨d, ψ, hd, hN, hΓ, hrun⟩ := (hs (hb ops l β)).run ho
    have hdi : dstOf ops i = some d := by simp [dstOf, ho, hd]
    refine hrun a w hI.base hnames _ Q fun v w' k hv' => ⟨β, ?_⟩
    have ehb := hb_set (β := β) hls hi1 hali
    have hali' : ∀ j x, allocAt ops j = some x → j ≠ i := fun j x hj e => by subst e; rw [hali] at hj; cases hj
    have hle := Base.hv_ext (E := E.hide (hb ops l β)) (M := M) k
    refine ⟨by rw [ehb]; exact hI.base.ext k, by simp [Act.put, hI.sz], hI.df, ?_, ?_, ?_, ?_, hI.keepW.trans k, ?_⟩
    · rw [ehb]
      intro k' hk' t φ hlk hlo hhi
      by_cases htd : d = t
      · subst htd
        have hik : i < k' := by
          rcases Nat.lt_or_ge i k' with h' | h'
          · exact h'
          · have := hhi i h' hi1 hdi; rw [hself] at this; cases this
        have hno : ∀ j, i + 1 ≤ j → j < k' → dstOf ops j ≠ some d := by
          intro j h1 h2 hdj
          have h3 := hlo j h2 hdj
          rw [hsame j (by omega)] at h3
          rcases okAny_pre hok (i := i) (j := j) (by omega) (by omega) with hp | ⟨_, hp⟩
          · have := hl.closed j h3 i hp; rw [this] at hi2; cases hi2
          · rw [clash_dst hdi hdj] at hp; cases hp
        rw [look_betweenU hG (i := i + 1) (by omega) hk' hno, hX, hΓ, look_cons, if_pos rfl] at hlk
        cases hlk
        rw [getD_put_self (by rw [hI.sz]; exact hN)]; exact hv'
      · rw [getD_put_ne htd]
        refine φ.mono hle (hI.inv k' hk' t φ hlk (fun j hj hdj => ?_) (fun j hj hjs hdj => ?_))
        · have hji : j ≠ i := fun e => by subst e; rw [hdi] at hdj; cases hdj; exact htd rfl
          have := hlo j hj hdj; rwa [hsame j hji] at this
        · have hji : j ≠ i := fun e => by subst e; rw [hdi] at hdj; cases hdj; exact htd rfl
          have := hhi j hj hjs hdj; rwa [hsame j hji] at this
    · intro j j' x x' h1 h2 h3 h4
      rw [hsame j (hali' _ _ h1)] at h3; rw [hsame j' (hali' _ _ h2)] at h4
      exact hI.inj j j' x x' h1 h2 h3 h4
    · intro j x h1 h2
      rw [hsame j (hali' _ _ h1)] at h2
      have := hI.ap j x h1 h2
      exact ⟨this.1, this.2.1, Nat.lt_of_lt_of_le this.2.2 k.size⟩
    · intro j d' T h1 h2
      rw [hsame j (hali' _ _ h1)] at h2
      obtain ⟨h3, c, L, h4, h5, h6, h7, h8⟩ := hI.cell j d' T h1 h2
      have hne : d ≠ d' := fun e => (hU.al j d' T h1).1 i (fun e' => hali' _ _ h1 e'.symm) (by rw [hdi, e])
      refine ⟨by rw [getD_put_ne hne]; exact h3, c, L, h4, k.view _ _ h5, h6, h7, fun s y ψ' hs1 hs2 hs3 => ?_⟩
      have hsi : s ≠ i := fun e => by
        subst e
        simp only [storeAt, ho, Option.bind_some, storeO, hd] at hs1
        split at hs1
        · rename_i heq; cases heq
        · cases hs1
      rw [hsame s hsi] at hs2
      obtain ⟨v', h9, h10⟩ := h8 s y ψ' hs1 hs2 hs3
      rw [ehb]; exact ⟨v', h9, ψ'.mono hle h10⟩
    · intro t ht
      have htd : d ≠ t := fun e => ht i (by rw [hdi, e])
      rw [getD_put_ne htd]; exact hI.keepS t ht
  | @alloc d T L z by' ty pos af hL hZ hF he hd =>
    have hal : allocAt ops i = some (d, T) := by simp [allocAt, ho, he, allocO]
    have hdi : dstOf ops i = some d := by simp [dstOf, ho, he]
    have hst : storeAt ops i = none := by simp [storeAt, ho, he, storeO]
    obtain ⟨z1, z2, z3⟩ := hF.ok z (fun _ => none) rfl
    have hz := ZeroOf.run (P := P) (T := T) (h := hZ) w
    have hr : (execOp a.eval ops[i]).run P w = .ok (.value (.pointer (some ⟨w.heap.size, 0, none⟩))) (w.alloc (.cells z.cells T)) := by
      rw [he]; simp [execOp, Instr.alloc, Sem.run_bind, hz, newVar, newRow, newObj, Sem.run]
    have hgd : ops[i].guard = none := by rw [he]
    have hdst : ops[i].dst = some d := by rw [he]
    simp only [wpOp, ho, wanted_none hgd, if_true]
    refine .inl ?_
    unfold Oper.wp; rw [hr]
    show ∃ β', InvU P E D M ops G w1 a1 β' (l.setIfInBounds i true) (a.put ops[i].dst (.pointer (some ⟨w.heap.size, 0, none⟩))) (w.alloc (.cells z.cells T))
    rw [hdst]
    have k : Ext w (w.alloc (.cells z.cells T)) := Ext.alloc w _
    have hsz1 : (w.alloc (.cells z.cells T)).heap.size = w.heap.size + 1 := by simp
    refine ⟨fun j => if j = i then w.heap.size else β j, ?_⟩
    have hmem : ∀ b, b ∈ hb ops (l.setIfInBounds i true) (fun j => if j = i then w.heap.size else β j) ↔ b = w.heap.size ∨ b ∈ hb ops l β := by
      intro b
      rw [mem_hb, mem_hb]
      constructor
      · rintro ⟨j, x, h1, h2, h3⟩
        by_cases e : j = i
        · subst e; rw [if_pos rfl] at h3; exact .inl h3.symm
        · rw [if_neg e] at h3; rw [hsame j e] at h2; exact .inr ⟨j, x, h1, h2, h3⟩
      · rintro (rfl | ⟨j, x, h1, h2, h3⟩)
        · exact ⟨i, _, hal, hself, by rw [if_pos rfl]⟩
        · have e : j ≠ i := fun e => by subst e; rw [hi2] at h2; cases h2
          exact ⟨j, x, h1, by rw [hsame j e]; exact h2, by rw [if_neg e]; exact h3⟩
    generalize hO2 : hb ops (l.setIfInBounds i true) (fun j => if j = i then w.heap.size else β j) = O2 at hmem
    have hex := hI.base.ex
    have hle : Hp.le (hv (E.hide (hb ops l β)) M w) (hv (E.hide O2) M (w.alloc (.cells z.cells T))) := by
      intro b x e
      obtain ⟨h1, h2⟩ := hid_some e
      refine hid_of ?_ (k.view _ _ h2)
      have hlt := view_lt h2
      intro hb
      apply h1
      simp only [Env.hide, List.mem_append] at hb ⊢
      rcases hb with (h | h) | h
      · exact .inl (.inl h)
      · rcases (hmem b).1 h with rfl | h
        · omega
        · exact .inl (.inr h)
      · exact .inr h
    have hb1 := hI.base.ext k
    have hali' : ∀ j x, allocAt ops j = some x → j ≠ i → (if j = i then w.heap.size else β j) = β j := fun j x _ e => if_neg e
    refine ⟨?_, by simp [Act.put, hI.sz], hI.df, ?_, ?_, ?_, ?_, hI.keepW.trans k, ?_⟩
    · rw [hO2]
      refine ⟨fun o hoM => o.loc (fun b hb => (raw_eq (k.block b (hex b (List.mem_append.2 (.inr (blks_mem hoM hb)))))).symm) hle (hI.base.mem o hoM), hI.base.nd, fun b hb hO => ?_, hI.base.lo, fun b hb => ?_, hb1.fr⟩
      · have hlt := hex b (List.mem_append.2 (.inr hb))
        simp only [Env.hide, List.mem_append] at hO
        rcases hO with h | h
        · exact hI.base.dis b hb (List.mem_append.2 (.inl h))
        · rcases (hmem b).1 h with rfl | h
          · omega
          · exact hI.base.dis b hb (List.mem_append.2 (.inr h))
      · rw [hsz1]
        simp only [Env.hide, List.mem_append] at hb
        rcases hb with (h | h) | h
        · have := hex b (by simp only [Env.hide, List.mem_append]; exact .inl (.inl h)); omega
        · rcases (hmem b).1 h with rfl | h
          · omega
          · have := hex b (by simp only [Env.hide, List.mem_append]; exact .inl (.inr h)); omega
        · have := hex b (by simp only [Env.hide, List.mem_append]; exact .inr h); omega
    · rw [hO2]
      intro k' hk' t φ hlk hlo hhi
      have htd : d ≠ t := fun e => by rw [← e, hfree k' i d T hk' hal] at hlk; cases hlk
      rw [getD_put_ne htd]
      refine φ.mono hle (hI.inv k' hk' t φ hlk (fun j hj hdj => ?_) (fun j hj hjs hdj => ?_))
      · have hji : j ≠ i := fun e => by subst e; rw [hdi] at hdj; cases hdj; exact htd rfl
        have := hlo j hj hdj; rwa [hsame j hji] at this
      · have hji : j ≠ i := fun e => by subst e; rw [hdi] at hdj; cases hdj; exact htd rfl
        have := hhi j hj hjs hdj; rwa [hsame j hji] at this
    · intro j j' x x' h1 h2 h3 h4 h5
      by_cases e : j = i
      · by_cases e' : j' = i
        · rw [e, e']
        · rw [hsame j' e'] at h4
          have := (hI.ap j' x' h2 h4).2.2
          simp only [e, if_true, if_neg e'] at h5; omega
      · rw [hsame j e] at h3
        by_cases e' : j' = i
        · have := (hI.ap j x h1 h3).2.2
          simp only [e', if_true, if_neg e] at h5; omega
        · rw [hsame j' e'] at h4
          simp only [if_neg e, if_neg e'] at h5
          exact hI.inj j j' x x' h1 h2 h3 h4 h5
    · intro j x h1 h2
      by_cases e : j = i
      · simp only [e, if_true]
        refine ⟨fun h => ?_, hI.keepW.size, by omega⟩
        have := hex w.heap.size (by
          simp only [Env.hide, List.mem_append] at h ⊢
          rcases h with h | h
          · exact .inl (.inl h)
          · exact .inr h)
        omega
      · rw [hsame j e] at h2
        have := hI.ap j x h1 h2
        simp only [if_neg e]; exact ⟨this.1, this.2.1, by omega⟩
    · intro j d' T' h1 h2
      by_cases e : j = i
      · subst e
        rw [hal] at h1; cases h1
        refine ⟨by rw [getD_put_self (by rw [hI.sz]; exact hd)]; simp, z.cells, L, hL, by simp only [if_true]; exact view_alloc_self w _ _ _, z1, z2, fun s y ψ' hs1 hs2 hs3 => ?_⟩
        exfalso
        have hsi : s ≠ j := fun e => by subst e; rw [hst] at hs1; cases hs1
        rw [hsame s hsi] at hs2
        obtain ⟨j0, hj0, hp⟩ := (hU.st s _ _ y hs1).1
        have : j0 = j := by
          rcases Nat.decEq j0 j with h | h
          · exact absurd (by simp [dstOf]; exact hdi) ((hU.al j0 _ _ hj0).1 j (fun e => h e.symm))
          · exact h
        subst this
        have := hl.closed s hs2 j0 hp
        rw [this] at hi2; cases hi2
      · rw [hsame j e] at h2
        obtain ⟨h3, c, L', h4, h5, h6, h7, h8⟩ := hI.cell j d' T' h1 h2
        have hne : d ≠ d' := fun e' => (hU.al j d' T' h1).1 i (fun e'' => e e''.symm) (by rw [hdi, e'])
        refine ⟨by rw [getD_put_ne hne, if_neg e]; exact h3, c, L', h4, by rw [if_neg e]; exact k.view _ _ h5, h6, h7, fun s y ψ' hs1 hs2 hs3 => ?_⟩
        have hsi : s ≠ i := fun e => by subst e; rw [hst] at hs1; cases hs1
        rw [hsame s hsi] at hs2
        obtain ⟨v', h9, h10⟩ := h8 s y ψ' hs1 hs2 hs3
        rw [hO2]; exact ⟨v', h9, ψ'.mono hle h10⟩
    · intro t ht
      have htd : d ≠ t := fun e => ht i (by rw [hdi, e])
      rw [getD_put_ne htd]; exact hI.keepS t ht
  | @store ta T L ψ y ty pos af hL hF he hy =>
    have hst : storeAt ops i = some (ta, T, y) := by simp [storeAt, ho, he, storeO]
    have hali : allocAt ops i = none := by simp [allocAt, ho, he, allocO]
    have hdi : dstOf ops i = none := by simp [dstOf, ho, he]
    have ehb := hb_set (β := β) hls hi1 hali
    obtain ⟨j0, hj0, hp0⟩ := (hU.st i ta T y hst).1
    have hlj0 := ready_pred hi hp0
    obtain ⟨h3, c, L', h4, h5, h6, h7, h8⟩ := hI.cell j0 ta T hj0 hlj0
    have := LayOf.unique h4 hL; subst this
    obtain ⟨g1, g2, g3⟩ := hI.ap j0 _ hj0 hlj0
    have hyp : ψ.p (a.eval y) (hv (E.hide (hb ops l β)) M w) := by
      cases y with
      | tmp t => exact hnames t ψ (List.mem_append.2 (.inl (List.mem_filterMap.2 ⟨.tmp t, by rw [he]; simp [Op.operands], rfl⟩))) hy
      | const v => cases hy; rfl
      | global g => cases hy; rfl
      | func f => cases hy; rfl
    obtain ⟨f1, f2, f3⟩ := hF.ok _ _ hyp
    have hgd : ops[i].guard = none := by rw [he]
    have hdst : ops[i].dst = none := by rw [he]
    have hrs := run_storeVar' (P := P) (T := T) (L := L') (h := hL) (o := 0) (v := a.eval y) h5 f1 (by omega) f2
    have hx : a.eval (.tmp ta) = .pointer (some ⟨β j0, 0, none⟩) := h3
    have hr : (execOp a.eval ops[i]).run P w = .ok .skip (w.setRow (β j0) (splice c 0 (a.eval y).cells)) := by
      rw [he]
      simp only [execOp, hx, Instr.storeAt, Instr.sureAddr, Sem.run_bind, Sem.run_pure, Result.andThen_ok, hrs]
    simp only [wpOp, ho, wanted_none hgd, if_true]
    refine .inl ?_
    unfold Oper.wp; rw [hr]
    show ∃ β', InvU P E D M ops G w1 a1 β' (l.setIfInBounds i true) (a.put ops[i].dst undef) (w.setRow (β j0) (splice c 0 (a.eval y).cells))
    rw [hdst]
    show ∃ β', InvU P E D M ops G w1 a1 β' (l.setIfInBounds i true) a (w.setRow (β j0) (splice c 0 (a.eval y).cells))
    generalize hw' : w.setRow (β j0) (splice c 0 (a.eval y).cells) = w'
    have hoth : ∀ b, b ≠ β j0 → w'.heap[b]? = w.heap[b]? := fun b hb => by rw [← hw']; exact setRow_other _ _ _ _ hb
    have hsz1 : w'.heap.size = w.heap.size := by rw [← hw']; exact setRow_size _ _ _
    have hview : view w' (β j0) = some (splice c 0 (a.eval y).cells, T, (0, 0)) := by rw [← hw']; exact view_setRow h5
    have hos : w'.os = w.os ∧ w'.tape = w.tape ∧ w'.output = w.output := by rw [← hw']; exact ⟨rfl, rfl, rfl⟩
    have hhb : β j0 ∈ hb ops l β := mem_hb.2 ⟨j0, _, hj0, hlj0, rfl⟩
    have ehv : hv (E.hide (hb ops l β)) M w' = hv (E.hide (hb ops l β)) M w := by
      funext b
      simp only [hv, hid]
      split
      · rfl
      · rename_i hn
        refine view_eq (hoth b fun e => hn ?_)
        rw [e]; simp only [Env.hide, List.mem_append]; exact .inl (.inr hhb)
    have hali' : ∀ j x, allocAt ops j = some x → j ≠ i := fun j x hj e => by subst e; rw [hali] at hj; cases hj
    refine ⟨β, ?_, hI.sz, hI.df, ?_, ?_, ?_, ?_, ?_, fun t ht => hI.keepS t ht⟩
    · rw [ehb]
      refine ⟨fun o hoM => ?_, hI.base.nd, hI.base.dis, hI.base.lo, fun b hb => by rw [hsz1]; exact hI.base.ex b hb, ?_⟩
      · have e' : hid ((E.hide (hb ops l β)).O ++ blks M) (view w') = hv (E.hide (hb ops l β)) M w := ehv
        rw [e']
        refine o.loc (fun b hb => (raw_eq (hoth b fun e => ?_)).symm) (Hp.le_refl _) (hI.base.mem o hoM)
        exact g1 (List.mem_append.2 (.inr (e ▸ blks_mem hoM hb)))
      · have hf := hI.base.fr
        refine ⟨hos.1.trans hf.os, hos.2.1.trans hf.tape, hos.2.2.trans hf.output, by rw [hsz1]; exact hf.size, fun b hb hn => ?_⟩
        rw [hoth b (fun e => by have hb : b < E.w0.heap.size := hb; omega)]; exact hf.block b hb hn
    · rw [ehb]
      intro k' hk' t φ hlk hlo hhi
      rw [ehv]
      refine hI.inv k' hk' t φ hlk (fun j hj hdj => ?_) (fun j hj hjs hdj => ?_)
      · have hji : j ≠ i := fun e => by subst e; rw [hdi] at hdj; cases hdj
        have := hlo j hj hdj; rwa [hsame j hji] at this
      · have hji : j ≠ i := fun e => by subst e; rw [hdi] at hdj; cases hdj
        have := hhi j hj hjs hdj; rwa [hsame j hji] at this
    · intro j j' x x' h1 h2 h3 h4
      rw [hsame j (hali' _ _ h1)] at h3; rw [hsame j' (hali' _ _ h2)] at h4
      exact hI.inj j j' x x' h1 h2 h3 h4
    · intro j x h1 h2
      rw [hsame j (hali' _ _ h1)] at h2
      have := hI.ap j x h1 h2
      exact ⟨this.1, this.2.1, by omega⟩
    · intro j d' T' h1 h2
      rw [hsame j (hali' _ _ h1)] at h2
      rw [ehb]
      by_cases e : j = j0
      · subst e
        rw [hj0] at h1; cases h1
        refine ⟨h3, splice c 0 (a.eval y).cells, L', h4, hview, by rw [splice_size (by omega)]; exact h6, splice_all h7 f2, fun s y' ψ' hs1 hs2 hs3 => ?_⟩
        by_cases e : s = i
        · subst e
          rw [hst] at hs1; cases hs1
          rw [hy] at hs3; cases hs3
          rw [ehv]
          exact ⟨a.eval y, valAt_splice (by omega) f1 f3, hyp⟩
        · exfalso
          rcases Nat.lt_or_gt_of_ne e with h | h
          · exact (hU.st i ta T y hst).2 s T y' h hs1
          · exact (hU.st s ta T y' hs1).2 i T y h hst
      · obtain ⟨k3, c', L'', k4, k5, k6, k7, k8⟩ := hI.cell j d' T' h1 h2
        have hne : β j ≠ β j0 := fun e' => e (hI.inj j j0 _ _ h1 hj0 h2 hlj0 e')
        refine ⟨k3, c', L'', k4, by rw [view_eq (hoth _ hne)]; exact k5, k6, k7, fun s y' ψ' hs1 hs2 hs3 => ?_⟩
        have hsi : s ≠ i := fun e' => by
          subst e'
          rw [hst] at hs1; cases hs1
          exact e (by
            rcases Nat.decEq j j0 with h | h
            · have hdj : dstOf ops j0 = some ta := by
                unfold allocAt at hj0; unfold dstOf
                cases hx : ops[j0]? with
                | none => rw [hx] at hj0; cases hj0
                | some o0 =>
                  rw [hx] at hj0
                  simp only [Option.bind_some, allocO] at hj0 ⊢
                  split at hj0
                  · rename_i h9 h10; cases hj0; exact h10
                  · cases hj0
              exact absurd hdj ((hU.al j _ _ h1).1 j0 (fun e => h e.symm))
            · exact h)
        rw [hsame s hsi] at hs2
        obtain ⟨v', h9, h10⟩ := k8 s y' ψ' hs1 hs2 hs3
        rw [ehv]; exact ⟨v', h9, h10⟩
    · have hk := hI.keepW
      exact ⟨hos.1.trans hk.os, hos.2.1.trans hk.tape, hos.2.2.trans hk.output, by rw [hsz1]; exact hk.size, fun b hb => by rw [hoth b (by omega)]; exact hk.block b hb⟩
theorem hide_nil (E : Env) : E.hide [] = E := by cases E; simp [Env.hide]
theorem alloc_dst {j : Nat} {d : Tmp} {T : TypeId} (h : allocAt ops j = some (d, T)) : dstOf ops j = some d := by
  unfold allocAt at h; unfold dstOf
  cases hx : ops[j]? with
  | none => rw [hx] at h; cases h
  | some o0 =>
    rw [hx] at h
    simp only [Option.bind_some, allocO] at h ⊢
    split at h
    · rename_i h9 h10; cases h; exact h10
    · cases h
theorem alloc_uniq (hU : OkU ops) {j j' : Nat} {d : Tmp} {T T' : TypeId} (h : allocAt ops j = some (d, T)) (h' : allocAt ops j' = some (d, T')) : j = j' := by
  rcases Nat.decEq j j' with e | e
  · exact absurd (alloc_dst h') ((hU.al j _ _ h).1 j' (fun e' => e e'.symm))
  · exact e
theorem cells_of (hU : OkU ops) {M : Mem} {G : Nat → Ctx} {CC : Nat → List Cell} (hG : ∀ j o, ops[j]? = some o → OpU P E M ops (G j) o (CC j) (G (j + 1)) (CC (j + 1))) (h0 : CC 0 = []) : ∀ k, k ≤ ops.size →
    (∀ c ∈ CC k, ∃ s y, s < k ∧ storeAt ops s = some (c.ta, c.T, y) ∧ evalT (G s) y = some c.ψ ∧ LayOf P c.T c.L) ∧
    (∀ s t T y, s < k → storeAt ops s = some (t, T, y) → ∃ c ∈ CC k, c.ta = t) ∧ ((CC k).map (·.ta)).Nodup := by
  intro k
  induction k with
  | zero => intro _; rw [h0]; exact ⟨fun c hc => (by cases hc), fun s t T y h => absurd h (Nat.not_lt_zero _), by simp⟩
  | succ k ih =>
    intro hk
    obtain ⟨i1, i2, i3⟩ := ih (by omega)
    have ho : ops[k]? = some ops[k] := by simp [show k < ops.size by omega]
    generalize hX : G (k + 1) = X
    generalize hY : CC (k + 1) = Y
    have hop := hG k _ ho
    rw [hX, hY] at hop
    have keep : storeAt ops k = none → Y = CC k → (∀ c ∈ Y, ∃ s y, s < k + 1 ∧ storeAt ops s = some (c.ta, c.T, y) ∧ evalT (G s) y = some c.ψ ∧ LayOf P c.T c.L) ∧
        (∀ s t T y, s < k + 1 → storeAt ops s = some (t, T, y) → ∃ c ∈ Y, c.ta = t) ∧ (Y.map (·.ta)).Nodup := by
      intro hn e
      rw [e]
      refine ⟨fun c hc => let ⟨s, y, h1, h2⟩ := i1 c hc; ⟨s, y, by omega, h2⟩, fun s t T y hs hst => i2 s t T y ?_ hst, i3⟩
      rcases Nat.lt_or_ge s k with h | h
      · exact h
      · have : s = k := by omega
        subst this; rw [hn] at hst; cases hst
    cases hop with
    | pure hal hs =>
      obtain ⟨d, ψ, hd, _, _, _⟩ := (hs []).run ho
      refine keep ?_ rfl
      simp only [storeAt, ho, Option.bind_some, storeO, hd]
      split
      · rename_i heq; cases heq
      · rfl
    | alloc hL hZ hF he hd => exact keep (by simp [storeAt, ho, he, storeO]) rfl
    | @store ta T L ψ y ty pos af hL hF he hy =>
      have hst : storeAt ops k = some (ta, T, y) := by simp [storeAt, ho, he, storeO]
      refine ⟨fun c hc => ?_, fun s t T' y' hs hst' => ?_, ?_⟩
      · rcases List.mem_cons.1 hc with rfl | hc
        · exact ⟨k, y, by omega, hst, hy, hL⟩
        · obtain ⟨s, y', h1, h2⟩ := i1 c hc; exact ⟨s, y', by omega, h2⟩
      · rcases Nat.lt_or_ge s k with h | h
        · obtain ⟨c, h1, h2⟩ := i2 s t T' y' h hst'; exact ⟨c, List.mem_cons_of_mem _ h1, h2⟩
        · have : s = k := by omega
          subst this; rw [hst] at hst'; cases hst'; exact ⟨_, List.mem_cons_self, rfl⟩
      · rw [List.map_cons, List.nodup_cons]
        refine ⟨fun hm => ?_, i3⟩
        obtain ⟨c, hc, hct⟩ := List.mem_map.1 hm
        obtain ⟨s, y', h1, h2, _⟩ := i1 c hc
        rw [hct] at h2
        by_cases eT : c.T = T
        · rw [eT] at h2; exact (hU.st k ta T y hst).2 s T y' h1 h2
        · exact (hU.st k ta T y hst).2 s c.T y' h1 h2
theorem look_app (A B : Ctx) (t : Nat) : look (A ++ B) t = (look A t).or (look B t) := by
  induction A with
  | nil => rfl
  | cons p A ih =>
    obtain ⟨k, v⟩ := p
    rw [List.cons_append, look_cons, look_cons, ih]
    split <;> rfl
def ptrG (γ : Nat → Nat) (C : List Cell) : Ctx := C.map fun c => (c.ta, one (.pointer (some ⟨γ c.ta, 0, none⟩)))
def boxM (γ : Nat → Nat) (C : List Cell) : Mem := C.map fun c => boxO (γ c.ta) c.T c.L.sz [(0, c.L, c.ψ)]
theorem blks_boxM (γ : Nat → Nat) (C : List Cell) : blks (boxM γ C) = C.map fun c => γ c.ta := by
  induction C with
  | nil => rfl
  | cons c C ih => show (γ c.ta) :: _ = _; rw [List.map_cons]; congr 1
theorem look_ptrG {γ : Nat → Nat} {C : List Cell} {t : Nat} {φ : VT} (h : look (ptrG γ C) t = some φ) : ∃ c ∈ C, c.ta = t ∧ φ = one (.pointer (some ⟨γ t, 0, none⟩)) := by
  induction C with
  | nil => cases h
  | cons c C ih =>
    rw [ptrG, List.map_cons, look_cons] at h
    split at h
    · rename_i e; cases h; exact ⟨c, List.mem_cons_self, e, by rw [e]⟩
    · obtain ⟨c', h1, h2⟩ := ih h; exact ⟨c', List.mem_cons_of_mem _ h1, h2⟩
theorem InvU.fin {D : List Deferred} {M : Mem} {G : Nat → Ctx} {CC : Nat → List Cell} (hU : OkU ops) (hG : ∀ j o, ops[j]? = some o → OpU P E M ops (G j) o (CC j) (G (j + 1)) (CC (j + 1))) (h0 : CC 0 = [])
    {w1 : World} (hw1 : E.w0.heap.size ≤ w1.heap.size) {a1 : Act} {β : Nat → Nat} {l : Array Bool} {a : Act} {w : World} (hI : InvU P E D M ops G w1 a1 β l a w) (hall : ∀ j, j < ops.size → l.getD j false = true) :
    ∃ γ : Nat → Nat, St E D (ptrG γ (CC ops.size) ++ G ops.size) (boxM γ (CC ops.size) ++ M) a w := by
  obtain ⟨c1, c2, c3⟩ := cells_of hU hG h0 ops.size (Nat.le_refl _)
  obtain ⟨γ, hγ⟩ : ∃ γ : Nat → Nat, ∀ j d T, allocAt ops j = some (d, T) → γ d = β j := by
    classical
    refine ⟨fun t => if h : ∃ j T, allocAt ops j = some (t, T) then β h.choose else 0, fun j d T hj => ?_⟩
    have h : ∃ j T, allocAt ops j = some (d, T) := ⟨j, T, hj⟩
    simp only [dif_pos h]
    obtain ⟨T', h'⟩ := h.choose_spec
    rw [alloc_uniq hU h' hj]
  generalize CC ops.size = C at c1 c2 c3
  have cell : ∀ c ∈ C, ∃ j, allocAt ops j = some (c.ta, c.T) ∧ γ c.ta = β j ∧ l.getD j false = true := fun c hc => by
    obtain ⟨s, y, h1, h2, _⟩ := c1 c hc
    obtain ⟨j, hj, _⟩ := (hU.st s _ _ _ h2).1
    exact ⟨j, hj, hγ j _ _ hj, hall j (lt_of_allocAt hj)⟩
  have hmem : ∀ b, b ∈ hb ops l β ↔ b ∈ blks (boxM γ C) := by
    intro b
    rw [mem_hb, blks_boxM, List.mem_map]
    constructor
    · rintro ⟨j, ⟨d, T⟩, h1, h2, h3⟩
      obtain ⟨s, y, hs⟩ := (hU.al j d T h1).2
      obtain ⟨c, h4, h5⟩ := c2 s d T y (lt_of_storeAt hs) hs
      exact ⟨c, h4, by rw [h5, hγ j d T h1, h3]⟩
    · rintro ⟨c, hc, rfl⟩
      obtain ⟨j, h1, h2, h3⟩ := cell c hc
      exact ⟨j, _, h1, h3, h2.symm⟩
  have hset : ∀ b, b ∈ (E.hide (hb ops l β)).O ++ blks M ↔ b ∈ E.O ++ blks (boxM γ C ++ M) := by
    intro b
    simp only [Env.hide, blks_app, List.mem_append, hmem b]
    constructor
    · rintro ((h | h) | h)
      · exact .inl h
      · exact .inr (.inl h)
      · exact .inr (.inr h)
    · rintro (h | h | h)
      · exact .inl (.inl h)
      · exact .inl (.inr h)
      · exact .inr h
  have ehv : hv (E.hide (hb ops l β)) M w = hv E (boxM γ C ++ M) w := hid_congr hset _
  have hB := hI.base
  refine ⟨γ, ⟨⟨?_, ?_, ?_, ?_, fun b hb => hB.ex b ((hset b).2 hb), hB.fr⟩, hI.sz, hI.df, ?_⟩⟩
  · intro o ho
    show o.p (raw w) (hv E (boxM γ C ++ M) w)
    rw [← ehv]
    rcases List.mem_append.1 ho with ho | ho
    · obtain ⟨c, hc, rfl⟩ := List.mem_map.1 ho
      obtain ⟨s, y, h1, h2, h3, hL⟩ := c1 c hc
      obtain ⟨j, hj1, hj2, hj3⟩ := cell c hc
      obtain ⟨_, cc, L', k1, k2, k3, k4, k5⟩ := hI.cell j _ _ hj1 hj3
      have := LayOf.unique k1 hL; subst this
      obtain ⟨v, k6, k7⟩ := k5 s y _ h2 (hall s (lt_of_storeAt h2)) h3
      refine ⟨cc, by rw [hj2]; exact k2, k3, k4, fun q hq => ?_⟩
      have hq := List.mem_singleton.1 hq
      subst hq
      exact ⟨v, k6, k7⟩
    · exact hB.mem o ho
  · rw [blks_app, blks_boxM, List.nodup_append]
    refine ⟨?_, hB.nd, fun x hx y hy e => ?_⟩
    · have hinj : ∀ c ∈ C, ∀ c' ∈ C, γ c.ta = γ c'.ta → c.ta = c'.ta := fun c hc c' hc' e => by
        obtain ⟨j, h1, h2, h3⟩ := cell c hc
        obtain ⟨j', h1', h2', h3'⟩ := cell c' hc'
        have := hI.inj j j' _ _ h1 h1' h3 h3' (by rw [← h2, ← h2', e])
        subst this
        exact congrArg Prod.fst (Option.some.inj (h1.symm.trans h1'))
      clear c1 c2 hmem hset ehv cell
      induction C with
      | nil => simp
      | cons c C ih =>
        rw [List.map_cons, List.nodup_cons] at c3 ⊢
        refine ⟨fun hm => ?_, ih c3.2 (fun a ha b hb => hinj a (List.mem_cons_of_mem _ ha) b (List.mem_cons_of_mem _ hb))⟩
        obtain ⟨c', hc', e⟩ := List.mem_map.1 hm
        have := hinj c' (List.mem_cons_of_mem _ hc') c List.mem_cons_self e
        exact c3.1 (List.mem_map.2 ⟨c', hc', this⟩)
    · obtain ⟨c, hc, rfl⟩ := List.mem_map.1 hx
      obtain ⟨j, h1, h2, h3⟩ := cell c hc
      have := (hI.ap j _ h1 h3).1
      rw [← h2, e] at this
      exact this (List.mem_append.2 (.inr hy))
  · intro b hb
    rw [blks_app] at hb
    rcases List.mem_append.1 hb with h | h
    · obtain ⟨j, x, h1, h2, h3⟩ := mem_hb.1 ((hmem b).2 h)
      have := (hI.ap j x h1 h2).1
      rw [h3] at this
      exact fun hO => this (List.mem_append.2 (.inl hO))
    · exact fun hO => hB.dis b h (List.mem_append.2 (.inl hO))
  · intro b hb
    rw [blks_app] at hb
    rcases List.mem_append.1 hb with h | h
    · obtain ⟨j, x, h1, h2, h3⟩ := mem_hb.1 ((hmem b).2 h)
      have := (hI.ap j x h1 h2).2.1
      rw [h3] at this
      exact .inl (by omega)
    · exact hB.lo b h
  · intro t φ ht
    rw [look_app] at ht
    cases hl : look (ptrG γ C) t with
    | some φ' =>
      rw [hl] at ht
      simp only [Option.or] at ht
      cases ht
      obtain ⟨c, hc, hct, rfl⟩ := look_ptrG hl
      obtain ⟨j, h1, h2, h3⟩ := cell c hc
      have h4 := (hI.cell j _ _ h1 h3).1
      show a.tmps.getD t undef = _
      rw [← hct, h4, h2]
    | none =>
      rw [hl] at ht
      simp only [Option.or] at ht
      show φ.p _ (hv E (boxM γ C ++ M) w)
      rw [← ehv]
      exact hI.inv ops.size (Nat.le_refl _) t φ ht (fun j hj _ => hall j hj) (fun j h1 h2 => by omega)
theorem J_regU {D : List Deferred} {Γ : Ctx} {M : Mem} {id : Nat} {Q : Exit → Act → World → Prop} (hm : P.follows .mixedOrders = true) (hok : okU ops = true)
    (hfree : ((List.range ops.size).all fun j => match allocAt ops j with | some (d, _) => (look Γ d).isNone | none => true) = true)
    (h : RunU P E M ops 0 Γ [] ops.toList (fun Γ' C => ∀ γ : Nat → Nat, PJ E D (ptrG γ C ++ Γ') (boxM γ C ++ M) .normal Q)) : J P E D Γ M (.region id ops true) Q := by
  intro a w hS
  have hU := okU_ok hok
  refine reg_any_in hm ?_
  have k : Ext w { w with drawn := w.drawn + 1 } := ⟨rfl, rfl, rfl, Nat.le_refl _, fun _ _ => rfl⟩
  obtain ⟨G, CC, hG0, hC0, hK, hG'⟩ := h.chain
  have hG : ∀ j o, ops[j]? = some o → OpU P E M ops (G j) o (CC j) (G (j + 1)) (CC (j + 1)) := fun j o ho => by
    have := hG' j o (by simpa using ho)
    simpa using this
  have hlen : ops.toList.length = ops.size := by simp
  rw [hlen, Nat.zero_add] at hK
  have hfr : ∀ kk j d T, kk ≤ ops.size → allocAt ops j = some (d, T) → look (G kk) d = none := by
    intro kk j d T
    induction kk with
    | zero =>
      intro _ hj
      rw [hG0]
      have := List.all_eq_true.1 hfree j (List.mem_range.2 (lt_of_allocAt hj))
      rw [hj] at this
      simpa using this
    | succ kk ih =>
      intro hk hj
      have ho : ops[kk]? = some ops[kk] := by simp [show kk < ops.size by omega]
      have hprev := ih (by omega) hj
      by_cases e : kk = j
      · subst e
        generalize hX : G (kk + 1) = X
        generalize hY : CC (kk + 1) = Y
        have hop := hG kk _ ho
        rw [hX, hY] at hop
        cases hop with
        | pure hal _ => simp [allocAt, ho, hal] at hj
        | alloc hL hZ hF he hd => exact hprev
        | store hL hF he hy => exact hprev
      · rw [look_stepU hG ho ((hU.al j d T hj).1 kk e)]; exact hprev
  have hl0 : ∀ j, (Array.replicate ops.size false).getD j false = false := fun j => by
    simp [Array.getD_eq_getD_getElem?, Array.getElem?_replicate]; split <;> rfl
  have hhb : hb ops (Array.replicate ops.size false) (fun _ => 0) = [] := by
    rw [List.eq_nil_iff_forall_not_mem]
    intro b hb'
    obtain ⟨j, x, _, h2, _⟩ := mem_hb.1 hb'
    rw [hl0] at h2; cases h2
  refine wpAny_inv (n := ops.size) hU.any (fun l a' w' => ∃ β, InvU P E D M ops G { w with drawn := w.drawn + 1 } a β l a' w') ?_ ?_ ops.size _ a _ ⟨by simp, fun j hj => ?_⟩ ?_ ⟨fun _ => 0, ?_⟩
  · rintro l a' w' ⟨β, hI⟩ hall
    obtain ⟨γ, hS'⟩ := hI.fin hU hG hC0 (by exact hS.base.fr.size) hall
    exact hK γ a' w' hS'
  · rintro l a' w' i ⟨β, hI⟩ hl hi1 hi2 hi
    exact stepU hU hG hfr (by exact hS.base.fr.size) hI hl hi1 hi2 hi
  · rw [hl0] at hj; cases hj
  · unfold left; refine Nat.le_trans (List.length_filter_le _ _) (by simp)
  · refine ⟨by rw [hhb, hide_nil]; exact hS.base.ext k, hS.sz, hS.df, ?_, ?_, ?_, ?_, Ext.refl _, fun t _ => rfl⟩
    · rw [hhb, hide_nil]
      intro k' hk' t φ hlk hlo _
      have hno : ∀ j, 0 ≤ j → j < k' → dstOf ops j ≠ some t := by
        intro j _ hj hd
        have := hlo j hj hd
        rw [hl0] at this; cases this
      rw [look_betweenU hG (Nat.zero_le _) hk' hno, hG0] at hlk
      exact φ.mono (Base.hv_ext k) (hS.tm t φ hlk)
    · intro j j' x x' _ _ h3 _; rw [hl0] at h3; cases h3
    · intro j x _ h3; rw [hl0] at h3; cases h3
    · intro j d T _ h3; rw [hl0] at h3; cases h3
end
end Tor
end
section
set_option linter.unusedSectionVars false
namespace Tor
open Go Go.RowKit
section
variable {P : Program} {E : Env} {D : List Deferred} {Γ : Ctx} {M : Mem} {ops : Array Oper} {i : Nat} {C : List Cell} {os : List Oper} {K : Ctx → List Cell → Prop} {op : Op} {ty : TypeId} {pos : String} {af : Array Edge} {gd : Option (Nat × Bool)} {d : Option Tmp}
theorem ux {d : Nat} {ψ : VT} (h : ∀ B, StepO P (E.hide B) Γ M ⟨some d, op, ty, pos, af, none⟩ ψ) (ha : allocO ⟨some d, op, ty, pos, af, none⟩ = none) (hd : Nat.ble (d + 1) E.N = true) (hr : RunU P E M ops (i + 1) ((d, ψ) :: Γ) C os K) :
    RunU P E M ops i Γ C (⟨some d, op, ty, pos, af, none⟩ :: os) K := .step (.pure ha (fun B => .plain (h B) rfl rfl (ltN hd))) hr
theorem ua {d : Nat} {T : TypeId} {L : Lay} {z : Value} {by' : Nat} [hL : LayOf P T L] [hZ : ZeroOf P T z by'] [hF : Flat (one z) L] (hd : Nat.ble (d + 1) E.N = true) (hr : RunU P E M ops (i + 1) Γ C os K) :
    RunU P E M ops i Γ C (⟨some d, .alloc T, ty, pos, af, none⟩ :: os) K := .step (.alloc hL hZ hF rfl (ltN hd)) hr
theorem us {ta : Tmp} {T : TypeId} {L : Lay} {ψ : VT} {y : Operand} [hL : LayOf P T L] [hF : Flat ψ L] (hy : evalT Γ y = some ψ) (hr : RunU P E M ops (i + 1) Γ (⟨ta, T, L, ψ⟩ :: C) os K) :
    RunU P E M ops i Γ C (⟨none, .store T (.tmp ta) y, ty, pos, af, none⟩ :: os) K := .step (.store hL hF rfl hy) hr
theorem stSg {dr : Bool} {K' : List Deferred → Ctx → Mem → Prop} {j : Nat} {want : Bool} {t : Nat} {T e : TypeId} {L : Lay} {z : Value} {by' n d : Nat} [hS : SliceOf P T e] [hL : LayOf P e L] [hZ : ZeroOf P e z by'] [hFz : Flat (one z) L] {parts : Array (Nat × Operand)}
    (hg : guardT ops ⟨some d, .buildSlice T n parts, ty, pos, af, some (j, want)⟩ = some (some t, want)) (hb : look Γ t = some (one (.bool want)))
    (hn : parts.size = n) (hsm : Nat.ble (n * L.sz) 16777216 = true) (hsz : Nat.ble 1 L.sz = true) (hd : Nat.ble (d + 1) E.N = true)
    (h : PartsK Γ L (fun φs => Run P E ops dr (i + 1) D ((d, slT L n (fun q => φs.getD q anyT)) :: Γ) M os K') 0 [] parts.toList) : Run P E ops dr i D Γ M (⟨some d, .buildSlice T n parts, ty, pos, af, some (j, want)⟩ :: os) K' :=
  let ⟨_, h1, h2⟩ := h.ok; sg1 hg hb (s_buildSlice h1 hn (Nat.le_of_ble_eq_true hsm) (Nat.le_of_ble_eq_true hsz)) hd h2
/-! ### Memory that a region makes -/
end
end Tor
end
section
set_option linter.unusedSectionVars false
namespace Tor
open Go Go.RowKit
section
variable {P : Program} {E : Env} {D : List Deferred} {Γ : Ctx} {M : Mem} {ty : TypeId} {pos : String} {af : Array Edge} {gd : Option (Nat × Bool)} {d : Option Tmp}
theorem s_indexA {T e : TypeId} {n m : Nat} {L : Lay} [hA : ArrayOf P T n e] [hL : LayOf P e L] {x y : Operand} {cs : Comps} {φ : VT} {k : IntKind} {j : Nat} (hx : evalT Γ x = some (aggT m cs)) (hy : evalT Γ y = some (one (.int k (j : Int)))) (hj : j < n) (hl : lookC cs (j * L.sz) = some (L, φ)) :
    StepO P E Γ M ⟨d, .index T x y, ty, pos, af, gd⟩ φ :=
  StepO.ofRun fun a w hb hf => by
    obtain ⟨c, hv', hs, ha, hcs⟩ := hf x _ (by simp [Op.operands]) hx
    have hy' : a.eval y = .int k j := hf y _ (by simp [Op.operands]) hy
    obtain ⟨v, h1, h2⟩ := hcs _ (lookC_mem hl)
    refine ⟨v, ?_, h2⟩
    have hi : 0 ≤ (j : Int) ∧ (j : Int) < (n : Int) := ⟨by omega, by omega⟩
    have h6 : (part e c (j * L.sz)).run P w = .ok v w := run_part (P := P) (T := e) h1 w
    simp [execOp, hv', hy', Instr.index, asIntOf, run_underlying' hA.und, hj, run_sizeOf' (L := L), Sem.run_bind, h6]
end
end Tor
end
section
set_option linter.unusedSectionVars false
namespace Tor
open Go Go.RowKit
section
variable {P : Program} {E : Env} {D : List Deferred} {Γ : Ctx} {M : Mem} {Q : Exit → Act → World → Prop}
theorem J_cond1 {c : Operand} {x y : Code} (hc : evalT Γ c = some (one (.bool true))) (h : J P E D Γ M x Q) : J P E D Γ M (.cond c x y) Q := J_cond hc (fun _ => h) (fun h => nomatch h)
theorem J_cond0 {c : Operand} {x y : Code} (hc : evalT Γ c = some (one (.bool false))) (h : J P E D Γ M y Q) : J P E D Γ M (.cond c x y) Q := J_cond hc (fun h => nomatch h) (fun _ => h)
theorem J_condT {c : Operand} {x y : Code} {p : Prop} {dp : Decidable p} (hc : evalT Γ c = some (one (.bool (@decide p dp)))) (hp : p) (h : J P E D Γ M x Q) : J P E D Γ M (.cond c x y) Q :=
  J_cond1 (by rw [hc, decide_eq_true hp]) h
theorem J_condF {c : Operand} {x y : Code} {p : Prop} {dp : Decidable p} (hc : evalT Γ c = some (one (.bool (@decide p dp)))) (hp : ¬ p) (h : J P E D Γ M y Q) : J P E D Γ M (.cond c x y) Q :=
  J_cond0 (by rw [hc, decide_eq_false hp]) h
theorem J_if {c : Operand} {x y : Code} {p : Prop} {dp : Decidable p} (hc : evalT Γ c = some (one (.bool (@decide p dp)))) (ht : p → J P E D Γ M x Q) (hf : ¬ p → J P E D Γ M y Q) : J P E D Γ M (.cond c x y) Q := by
  by_cases h : p
  · exact J_condT hc h (ht h)
  · exact J_condF hc h (hf h)
theorem SubG.app : ∀ {A Γ Γk : Ctx}, SubG Γ A → SubG Γ Γk → SubG Γ (A ++ Γk)
  | [], _, _, _, h => h
  | (k, v) :: A, Γ, Γk, h1, h2 => by
    intro t φ hl
    rw [List.cons_append, look_cons] at hl
    split at hl
    · rename_i e; subst e; exact h1 _ φ (by rw [look_cons, if_pos rfl]; exact hl)
    · rename_i e
      rw [look_app] at hl
      cases hA : look A t with
      | some ψ =>
        rw [hA] at hl; cases hl
        exact h1 t _ (by rw [look_cons, if_neg e]; exact hA)
      | none =>
        rw [hA] at hl
        exact h2 t φ hl
theorem J_loopA {σ : Type} {c : Code} {Γk : Ctx} (hk : SubG Γ Γk) (Gv : σ → Ctx) (Mf : σ → Mem → Mem) (ok : σ → Prop) (μ : σ → Nat) (s0 : σ) (h0 : ok s0) (hg : SubG Γ (Gv s0)) (hm : SubM M (Mf s0 M))
    (round : ∀ s, ok s → J P E D (Gv s ++ Γk) (Mf s M) c (Exit.then (fun a w => ∃ s', ok s' ∧ μ s' < μ s ∧ St E D (Gv s' ++ Γk) (Mf s' M) a w) Q)) : J P E D Γ M (.loop c) Q :=
  J_loop (fun s => Gv s ++ Γk) (fun s => Mf s M) ok μ s0 h0 (SubG.app hg hk) hm round
theorem J_norm {c : Code} {Γ' : Ctx} {M' : Mem} (hg : Γ = Γ') (hm : M = M') (h : J P E D Γ' M' c Q) : J P E D Γ M c Q := hg ▸ hm ▸ h
def roundsW (P : Program) (E : Env) (c : Code) (Q : Exit → Act → World → Prop) : Nat → Act → World → Prop
  | 0, _, _ => False
  | m + 1, a, w => JW P E c (Exit.then (roundsW P E c Q m) Q) a w
theorem J_rounds {c : Code} (n : Nat) (h : J P E D Γ M c (Exit.then (roundsW P E c Q n) Q)) : J P E D Γ M (.loop c) Q := fun a w hS hd => wpIn_loop_rounds (n + 1) (by
  have key : ∀ m a w, roundsW P E c Q m a w → Code.roundsIn (fen E.R) 9 P c Q m a w := by
    intro m
    induction m with
    | zero => exact fun _ _ h => h
    | succ m ih => exact fun a w h => wpIn_mono (h hd) fun e a w hq => by cases e <;> first | exact hq | exact ih _ _ hq
  exact key (n + 1) a w (h a w hS))
theorem pj_roundM {σ : Type} {G : σ → Ctx} {Ms : σ → Mem} {ok : σ → Prop} {μ : σ → Nat} {m : Nat} (s' : σ) (h : ok s') (hμ : μ s' < m) (hg : SubG Γ (G s')) (hm : SubM M (Ms s')) :
    PJ E D Γ M .normal (Exit.then (fun a w => ∃ s', ok s' ∧ μ s' < m ∧ St E D (G s') (Ms s') a w) Q) :=
  fun a w hS => ⟨s', h, hμ, hS.sub hg hm⟩
end
end Tor
end
section
set_option linter.unusedSectionVars false
namespace Tor
open Go Go.RowKit
section
variable {P : Program} {E : Env} {ops : Array Oper}
theorem PJ_normM {D : List Deferred} {Γ : Ctx} {M M' : Mem} {e : Exit} {Q : Exit → Act → World → Prop} (hm : M = M') (h : PJ E D Γ M' e Q) : PJ E D Γ M e Q := hm ▸ h
theorem s_remN {Γ : Ctx} {M : Mem} {dd : Option Tmp} {ty : TypeId} {pos : String} {af : Array Edge} {gd : Option (Nat × Bool)} {T T' : TypeId} {x y : Operand} {k : IntKind} {a : Nat} {bi : Int} (b : Nat) (hx : evalT Γ x = some (one (.int k (a : Int)))) (hy : evalT Γ y = some (one (.int k bi))) (hb : bi = (b : Int)) (h0 : b ≠ 0) :
    StepO P E Γ M ⟨dd, .binOp .rem T x y T', ty, pos, af, gd⟩ (one (.int k ((a % b : Nat) : Int))) := by
  subst hb
  exact s_rem hx hy (by omega) (by rw [Int.tmod_eq_emod_of_nonneg (by omega)]; exact (Int.natCast_emod a b).symm)
theorem s_quoN {Γ : Ctx} {M : Mem} {dd : Option Tmp} {ty : TypeId} {pos : String} {af : Array Edge} {gd : Option (Nat × Bool)} {T T' : TypeId} {x y : Operand} {a : Nat} {bi : Int} (b : Nat) (hx : evalT Γ x = some (one (.int .i64 (a : Int)))) (hy : evalT Γ y = some (one (.int .i64 bi))) (hb : bi = (b : Int)) (h0 : b ≠ 0) (ha : a ≤ 9223372036854775807) :
    StepO P E Γ M ⟨dd, .binOp .quo T x y T', ty, pos, af, gd⟩ (one (.int .i64 ((a / b : Nat) : Int))) := by
  subst hb
  refine s_quo hx hy (by omega) ?_
  have e : (a : Int).tdiv b = ((a / b : Nat) : Int) := by rw [Int.tdiv_eq_ediv_of_nonneg (by omega)]; exact (Int.natCast_ediv a b).symm
  have := Nat.div_le_self a b
  rw [e]; generalize a / b = q at *; exact wrap_i64 (by omega) (by omega)
theorem uxk {M : Mem} {i : Nat} {Γ : Ctx} {C : List Cell} {os : List Oper} {K : Ctx → List Cell → Prop} {f : FuncId} [hF : Fn P f] {xs : Array Operand} {ats : Array TypeId} {φs φs' : List VT} {ψ : VT} {d : Nat} {ty : TypeId} {pos : String} {af : Array Edge}
    (h : Ok P f φs' ψ) (hx : evalL Γ xs.toList = some φs) (hle : leAll φs φs') (hd : Nat.ble (d + 1) E.N = true) (hr : RunU P E M ops (i + 1) ((d, ψ) :: Γ) C os K) :
    RunU P E M ops i Γ C (⟨some d, .call ⟨.value (.func f), xs, ats⟩, ty, pos, af, none⟩ :: os) K := ux (fun B => s_callk h hx hle) rfl hd hr
theorem sT {M : Mem} {Γ : Ctx} {o : Oper} {p : Prop} {dp : Decidable p} (hp : p) (h : StepO P E Γ M o (one (.bool (@decide p dp)))) : StepO P E Γ M o (one (.bool true)) := h.le (one_le (by rw [decide_eq_true hp]))
theorem sF {M : Mem} {Γ : Ctx} {o : Oper} {p : Prop} {dp : Decidable p} (hp : ¬ p) (h : StepO P E Γ M o (one (.bool (@decide p dp)))) : StepO P E Γ M o (one (.bool false)) := h.le (one_le (by rw [decide_eq_false hp]))
def boxM2 (γ : Nat → Nat) : List Cell → Mem
  | [] => []
  | ⟨ta, T, L, ψ⟩ :: C => boxO (γ ta) T L.sz [(0, L, ψ)] :: boxM2 γ C
theorem boxM2_eq (γ : Nat → Nat) : ∀ C, boxM2 γ C = boxM γ C
  | [] => rfl
  | ⟨ta, T, L, ψ⟩ :: C => by rw [boxM2, boxM2_eq γ C]; rfl
def ptrG2 (γ : Nat → Nat) : List Cell → Ctx
  | [] => []
  | ⟨ta, _, _, _⟩ :: C => (ta, one (.pointer (some ⟨γ ta, 0, none⟩))) :: ptrG2 γ C
theorem ptrG2_eq (γ : Nat → Nat) : ∀ C, ptrG2 γ C = ptrG γ C
  | [] => rfl
  | ⟨ta, T, L, ψ⟩ :: C => by rw [ptrG2, ptrG2_eq γ C]; rfl
theorem RunU.mono {M : Mem} {i : Nat} {Γ : Ctx} {C : List Cell} {os : List Oper} {K K' : Ctx → List Cell → Prop} (hK : ∀ Γ C, K Γ C → K' Γ C) (h : RunU P E M ops i Γ C os K) : RunU P E M ops i Γ C os K' := by
  induction h with
  | nil h => exact .nil (hK _ _ h)
  | step h _ ih => exact .step h (ih hK)
theorem J_regU2 {D : List Deferred} {Γ : Ctx} {M : Mem} {id : Nat} {Q : Exit → Act → World → Prop} (hm : P.follows .mixedOrders = true) (hok : okU ops = true)
    (hfree : ((List.range ops.size).all fun j => match allocAt ops j with | some (d, _) => (look Γ d).isNone | none => true) = true)
    (h : RunU P E M ops 0 Γ [] ops.toList (fun Γ' C => ∀ γ : Nat → Nat, PJ E D (ptrG2 γ C ++ Γ') (boxM2 γ C ++ M) .normal Q)) : J P E D Γ M (.region id ops true) Q :=
  J_regU hm hok hfree (h.mono fun Γ' C hK γ => by have := hK γ; rwa [ptrG2_eq, boxM2_eq] at this)
theorem s_toU8K {Γ : Ctx} {M : Mem} {dd : Option Tmp} {ty : TypeId} {pos : String} {af : Array Edge} {gd : Option (Nat × Bool)} {T T' : TypeId} {k : IntKind} [IntOf P T k] [IntOf P T' .u8] {x : Operand} {k0 : IntKind} {a : Int} (hx : evalT Γ x = some (one (.int k0 a))) (h0 : 0 ≤ a) (h1 : a ≤ 255) :
    StepO P E Γ M ⟨dd, .convert T T' x, ty, pos, af, gd⟩ (one (.int .u8 a)) := s_conv hx (by rw [wrap_u8]; omega)
theorem s_addN {Γ : Ctx} {M : Mem} {dd : Option Tmp} {ty : TypeId} {pos : String} {af : Array Edge} {gd : Option (Nat × Bool)} {T T' : TypeId} {x y : Operand} (a b : Nat) (hx : evalT Γ x = some (one (.int .i64 (a : Int)))) (hy : evalT Γ y = some (one (.int .i64 (b : Int)))) (h : a + b ≤ 9223372036854775807) :
    StepO P E Γ M ⟨dd, .binOp .add T x y T', ty, pos, af, gd⟩ (one (.int .i64 ((a + b : Nat) : Int))) := s_add hx hy (by rw [wrap_i64 (by omega) (by omega)]; omega)
theorem s_subN {Γ : Ctx} {M : Mem} {dd : Option Tmp} {ty : TypeId} {pos : String} {af : Array Edge} {gd : Option (Nat × Bool)} {T T' : TypeId} {x y : Operand} (a b : Nat) (hx : evalT Γ x = some (one (.int .i64 (a : Int)))) (hy : evalT Γ y = some (one (.int .i64 (b : Int)))) (h : b ≤ a) (h2 : a ≤ 9223372036854775807) :
    StepO P E Γ M ⟨dd, .binOp .sub T x y T', ty, pos, af, gd⟩ (one (.int .i64 ((a - b : Nat) : Int))) := s_sub hx hy (by rw [wrap_i64 (by omega) (by omega)]; omega)
theorem s_mulN {Γ : Ctx} {M : Mem} {dd : Option Tmp} {ty : TypeId} {pos : String} {af : Array Edge} {gd : Option (Nat × Bool)} {T T' : TypeId} {x y : Operand} (a b : Nat) (hx : evalT Γ x = some (one (.int .i64 (a : Int)))) (hy : evalT Γ y = some (one (.int .i64 (b : Int)))) (h : a * b ≤ 9223372036854775807) :
    StepO P E Γ M ⟨dd, .binOp .mul T x y T', ty, pos, af, gd⟩ (one (.int .i64 ((a * b : Nat) : Int))) := s_mul hx hy (by rw [← Int.natCast_mul, wrap_i64 (by omega) (by omega)])
end
end Tor
end
section
set_option linter.unusedSectionVars false
namespace Tor
open Go Go.RowKit Go.ChangeShapes Go.WideShapes Go.ChangeAt Go.Joins
section
variable {H : Type} {enc : TypeId × Value → H} {P : Program} {W : World} {base : Nat} {held : Bool}
theorem cell_view {w : World} {a : Addr} {x : Value} (h : w.cell? a = some x) : a.spot = none ∧ ∃ c T f, view w a.block = some (c, T, f) ∧ c[a.off]? = some x := by
  unfold World.cell? at h
  split at h
  · rename_i c T f hb
    split at h
    · cases h
    · rename_i hs
      exact ⟨by simpa using hs, c, T, f, view_of hb, h⟩
  · cases h
theorem addr_eq {a : Addr} (h : a.spot = none) : a = ⟨a.block, a.off, none⟩ := by cases a; simp_all
def all2 {α β : Type} (R : α → β → Prop) : List α → List β → Prop
  | [], l => l = []
  | a :: ls, l => ∃ b bs, l = b :: bs ∧ R a b ∧ all2 R ls bs
theorem all2_app {α β : Type} {R : α → β → Prop} : ∀ {ls ls' : List α} {bs bs' : List β}, all2 R ls bs → all2 R ls' bs' → all2 R (ls ++ ls') (bs ++ bs')
  | [], _, _, _, h, h' => by cases h; exact h'
  | a :: ls, _, _, _, ⟨b, bs, e, hr, h⟩, h' => by subst e; exact ⟨b, _, rfl, hr, all2_app h h'⟩
def RL (enc : TypeId × Value → H) (P : Program) (W : World) (base : Nat) (held : Bool) (t : TypeId) (c : Value) : Prop :=
  ∃ (fuel : Nat) (y : DataW H × List MemPlace), DataW.trod enc P W base (fun _ => true) held fuel t [c] = some y ∧ ∀ x ∈ DataW.weights P t y.1, x ≤ reachBytes
def goF (P : Program) (r : TypeId → Option (List TypeId)) : List Field → List TypeId → Option (List TypeId)
  | [], acc => some acc
  | f :: fs, acc => match r f.type with
    | some l => if f.offset = acc.length ∧ P.cellsOf f.type = l.length then goF P r fs (acc ++ l) else none
    | none => none
def leavesF (P : Program) : Nat → TypeId → Option (List TypeId)
  | 0, _ => none
  | n + 1, t => match P.underlying t with
    | some (.struct fs) => (goF P (leavesF P n) fs.toList []).bind fun l => if l.length = P.cellsOf t then some l else none
    | some (.array k e) => match leavesF P n e with
      | some l => if P.cellsOf e = l.length ∧ P.cellsOf t = k * l.length then some (List.replicate k l).flatten else none
      | none => none
    | some (.int _) => some [t]
    | some .bool => some [t]
    | some (.slice _) => some [t]
    | _ => none
theorem weightsAll_mem {e : TypeId} : ∀ {ds : List (DataW H)} {d : DataW H}, d ∈ ds → ∀ x ∈ DataW.weights P e d, x ∈ DataW.weightsAll P e ds
  | d0 :: ds, d, h, x, hx => by
    rw [DataW.weightsAll, List.mem_append]
    rcases List.mem_cons.1 h with rfl | h
    · exact .inl hx
    · exact .inr (weightsAll_mem h x hx)
theorem goF_ok {n m : Nat} (ih : ∀ t cs y ts, leavesF P n t = some ts → DataW.trod enc P W base (fun _ => true) held m t cs = some y → (∀ x ∈ DataW.weights P t y.1, x ≤ reachBytes) → all2 (RL enc P W base held) ts cs) {cs : List Value} :
    ∀ (fs : List Field) (acc : List TypeId) (ts : List TypeId), goF P (leavesF P n) fs acc = some ts → (∀ f ∈ fs, ∃ y, DataW.trod enc P W base (fun _ => true) held m f.type ((cs.drop f.offset).take (P.cellsOf f.type)) = some y ∧ ∀ x ∈ DataW.weights P f.type y.1, x ≤ reachBytes) →
      all2 (RL enc P W base held) acc (cs.take acc.length) → all2 (RL enc P W base held) ts (cs.take ts.length)
  | [], acc, ts, h, _, ha => by cases h; exact ha
  | f :: fs, acc, ts, h, hf, ha => by
    rw [goF] at h
    cases hl : leavesF P n f.type with
    | none => rw [hl] at h; cases h
    | some l =>
      rw [hl] at h
      simp only at h
      split at h
      · rename_i hc
        obtain ⟨y, hy, hw⟩ := hf f List.mem_cons_self
        have h2 := ih _ _ _ _ hl hy hw
        rw [hc.1, hc.2] at h2
        refine goF_ok ih fs (acc ++ l) ts h (fun g hg => hf g (List.mem_cons_of_mem _ hg)) ?_
        have e : cs.take (acc ++ l).length = cs.take acc.length ++ (cs.drop acc.length).take l.length := by
          rw [List.length_append, List.take_add]
        rw [e]; exact all2_app ha h2
      · cases h
theorem repl_ok {m e : Nat} {cs : List Value} {l : List TypeId} : ∀ (k : Nat), (∀ i, i < k → all2 (RL enc P W base held) l ((cs.drop (i * l.length)).take l.length)) → all2 (RL enc P W base held) (List.replicate k l).flatten (cs.take (k * l.length))
  | 0, _ => by show cs.take (0 * l.length) = []; rw [Nat.zero_mul]; exact List.take_zero
  | k + 1, h => by
    have e1 : (List.replicate (k + 1) l).flatten = (List.replicate k l).flatten ++ l := by
      rw [List.replicate_succ', List.flatten_append]; simp
    have e2 : cs.take ((k + 1) * l.length) = cs.take (k * l.length) ++ (cs.drop (k * l.length)).take l.length := by
      rw [Nat.succ_mul, List.take_add]
    rw [e1, e2]
    exact all2_app (repl_ok (m := m) (e := e) k fun i hi => h i (by omega)) (h k (by omega))
theorem trod_one_leaf {t : TypeId} {fuel : Nat} {cs : List Value} {y : DataW H × List MemPlace} (ht : (∃ k, P.underlying t = some (.int k)) ∨ P.underlying t = some .bool ∨ ∃ e, P.underlying t = some (.slice e)) (h : DataW.trod enc P W base (fun _ => true) held fuel t cs = some y) : ∃ c, cs = [c] := by
  rcases ht with ⟨k, ht⟩ | ht | ⟨e, ht⟩
  · obtain ⟨n, h1, _⟩ := DataW.trod_int ht h; exact ⟨_, h1⟩
  · obtain ⟨b, h1, _⟩ := DataW.trod_bool ht h; exact ⟨_, h1⟩
  · rcases DataW.trod_slice ht h with ⟨h1, _⟩ | ⟨a, len, cap, elems, rest, n, _, h1, _⟩
    · exact ⟨_, h1⟩
    · exact ⟨_, h1⟩
theorem flat_trod : ∀ (n : Nat) (m : Nat) (t : TypeId) (cs : List Value) (y : DataW H × List MemPlace) (ts : List TypeId), leavesF P n t = some ts → DataW.trod enc P W base (fun _ => true) held m t cs = some y → (∀ x ∈ DataW.weights P t y.1, x ≤ reachBytes) → all2 (RL enc P W base held) ts cs
  | 0, _, _, _, _, _, h, _, _ => by cases h
  | n + 1, m, t, cs, y, ts, h, hy, hw => by
    rw [leavesF] at h
    cases hu : P.underlying t with
    | none => rw [hu] at h; cases h
    | some d =>
      rw [hu] at h
      have leaf : (∃ k, P.underlying t = some (.int k)) ∨ P.underlying t = some .bool ∨ (∃ e, P.underlying t = some (.slice e)) → ts = [t] → all2 (RL enc P W base held) ts cs := fun h1 h2 => by
        obtain ⟨c, rfl⟩ := trod_one_leaf h1 hy
        subst h2
        exact ⟨c, [], rfl, ⟨m, y, hy, hw⟩, rfl⟩
      cases d with
      | int k => simp only [Option.some.injEq] at h; exact leaf (.inl ⟨k, hu⟩) h.symm
      | bool => simp only [Option.some.injEq] at h; exact leaf (.inr (.inl hu)) h.symm
      | slice e => simp only [Option.some.injEq] at h; exact leaf (.inr (.inr ⟨e, hu⟩)) h.symm
      | struct fs =>
        simp only [Option.bind_eq_some_iff] at h
        obtain ⟨l, hl, h⟩ := h
        split at h
        · rename_i hlen
          cases h
          obtain ⟨xs, m', rfl, rfl, hcl, hxl, hf⟩ := DataW.trod_struct hu hy
          have := goF_ok (n := n) (m := m') (fun t cs y ts a b c => flat_trod n m' t cs y ts a b c) (cs := cs) fs.toList [] ts hl (fun f hf' => by
            obtain ⟨i, hi⟩ := List.mem_iff_getElem?.1 hf'
            have hi' : fs[i]? = some f := by simpa using hi
            have hlt : i < fs.size := (Array.getElem?_eq_some_iff.1 hi').1
            have h1 := hf i f hi'
            have h2 : xs[i]? = some (xs[i]'(by omega)) := by simp
            rw [h2] at h1
            refine ⟨_, h1, fun x hx => hw x ?_⟩
            simp only [DataW.weights, hu]
            refine DataW.weights_mem_each (j := i) (t := f.type) (d := (xs[i]'(by omega)).1) ?_ ?_ x hx
            · rw [List.getElem?_map, hi]; rfl
            · rw [List.getElem?_map, h2]; rfl) (by show cs.take 0 = []; exact List.take_zero)
          rw [hlen, ← hcl, List.take_length] at this
          exact this
        · cases h
      | array k e =>
        simp only at h
        cases hl : leavesF P n e with
        | none => rw [hl] at h; cases h
        | some l =>
          rw [hl] at h
          simp only at h
          split at h
          · rename_i hc
            cases h
            obtain ⟨xs, m', rfl, rfl, hcl, hxl, hf⟩ := DataW.trod_array hu hy
            have := repl_ok (enc := enc) (P := P) (W := W) (base := base) (held := held) (m := 0) (e := 0) (cs := cs) (l := l) k (fun i hi => by
              have h1 := hf i hi
              have h2 : xs[i]? = some (xs[i]'(by omega)) := by simp
              rw [h2, hc.1] at h1
              refine flat_trod n m' e _ _ l hl h1 (fun x hx => hw x ?_)
              simp only [DataW.weights, hu]
              exact weightsAll_mem (d := (xs[i]'(by omega)).1) (List.mem_map.2 ⟨_, List.getElem_mem _, rfl⟩) x hx)
            rw [← hc.2, ← hcl, List.take_length] at this
            exact this
          · cases h
      | _ => simp at h
theorem leaf_int {t : TypeId} {k : IntKind} {c : Value} (ht : P.underlying t = some (.int k)) (h : RL enc P W base held t c) : ∃ n : Int, c = .int k n ∧ k.min ≤ n ∧ n ≤ k.max := by
  obtain ⟨fuel, y, h, _⟩ := h
  obtain ⟨n, h1, _, h3⟩ := DataW.trod_int ht h
  simp only [List.cons.injEq, and_true] at h1
  simp only [Lit.wf, Bool.and_eq_true, decide_eq_true_eq] at h3
  exact ⟨n, h1, h3.1, h3.2⟩
theorem leaf_nat {t : TypeId} {k : IntKind} {c : Value} (ht : P.underlying t = some (.int k)) (hk : k.min = 0) (h : RL enc P W base held t c) : ∃ n : Nat, c = .int k n ∧ (n : Int) ≤ k.max := by
  obtain ⟨n, h1, h2, h3⟩ := leaf_int ht h
  rw [hk] at h2
  exact ⟨n.toNat, by rw [h1]; congr 1; omega, by omega⟩
theorem leaf_rows {t e : TypeId} {c : Value} {es : List TypeId} (n : Nat) (ht : P.underlying t = some (.slice e)) (he : leavesF P n e = some es) (hc : P.cellsOf e = es.length) (hby : 1 ≤ P.bytesOf e) (hm : 0 < es.length) (h : RL enc P W base held t c) :
    ∃ (len : Nat) (g : Nat → List Value), (∀ i, i < len → all2 (RL enc P W base held) es (g i)) ∧ (∀ L : Lay, (L = .one ∧ es.length = 1 → (slT L len (fun i => one ((g i).getD 0 undef))).p c (view W)) ∧ (L = .agg es.length → (slT L len (fun i => one (.agg (g i).toArray))).p c (view W))) := by
  obtain ⟨fuel, y, h, hw⟩ := h
  rcases DataW.trod_slice ht h with ⟨h1, _⟩ | ⟨a, len, cap, elems, rest, m, _, h1, rfl, h2, h3, h4, h5, h6, h7, _⟩
  · simp only [List.cons.injEq, and_true] at h1
    subst h1
    exact ⟨0, fun _ => [], fun i hi => absurd hi (Nat.not_lt_zero _), fun L => ⟨fun _ => nil_slT _ _ rfl, fun _ => nil_slT _ _ rfl⟩⟩
  · simp only [List.cons.injEq, and_true] at h1
    subst h1
    obtain ⟨h8, _⟩ := h7 rfl
    have hcap : cap ≤ 2 ^ 48 := by
      have hw' := hw ((elems.length + rest.length) * P.bytesOf e) (by simp [DataW.weights, ht])
      have e1 : elems.length + rest.length = cap := by omega
      rw [e1] at hw'
      have : cap ≤ cap * P.bytesOf e := Nat.le_mul_of_pos_right _ hby
      have := reachBytes_lt
      omega
    have key : ∀ i, i < len → ∃ gs y, W.cells? base (a.add (i * es.length)) es.length = some gs ∧ elems[i]? = some y ∧ DataW.trod enc P W base (fun _ => true) held m e gs = some y := fun i hi => by
      have h9 := h6 i hi
      have h10 : elems[i]? = some (elems[i]'(by omega)) := by simp
      rw [h10, Option.bind_eq_some_iff, hc] at h9
      obtain ⟨gs, h11, h12⟩ := h9
      exact ⟨gs, _, h11, h10, h12⟩
    refine ⟨len, fun i => (W.cells? base (a.add (i * es.length)) es.length).getD [], fun i hi => ?_, ?_⟩
    · obtain ⟨gs, y, h9, h10, h11⟩ := key i hi
      simp only [h9, Option.getD_some]
      refine flat_trod n m e gs y es he h11 (fun x hx => hw x ?_)
      simp only [DataW.weights, ht]
      refine List.mem_cons_of_mem _ (List.mem_append.2 (.inl (weightsAll_mem (d := y.1) (List.mem_map.2 ⟨y, List.mem_of_getElem? h10, rfl⟩) x hx)))
    · have hsp0 : 0 < len → a.spot = none := fun h0 => by
        obtain ⟨gs, y, h9, _, _⟩ := key 0 h0
        obtain ⟨_, h12, h13⟩ := World.cells?_some h9
        have h14 := h13 0 hm
        have h15 : gs[0]? = some (gs[0]'(by omega)) := by simp
        rw [h15] at h14
        have e0 : (a.add (0 * es.length)).add 0 = a := by simp [Addr.add]
        rw [e0] at h14
        exact (cell_view h14).1
      have base0 : ∀ i, i < len → ∃ c T f, a = ⟨a.block, a.off, none⟩ ∧ view W a.block = some (c, T, f) ∧ ∀ gs, W.cells? base (a.add (i * es.length)) es.length = some gs → gs.length = es.length ∧ ∀ j, j < es.length → c[a.off + i * es.length + j]? = gs[j]? := fun i hi => by
        obtain ⟨gs, y, h9, h10, h11⟩ := key i hi
        obtain ⟨_, h12, h13⟩ := World.cells?_some h9
        have h14 := h13 0 hm
        have h15 : gs[0]? = some (gs[0]'(by omega)) := by simp
        rw [h15] at h14
        obtain ⟨h16, c, T, f, h17, h18⟩ := cell_view h14
        have hsp : a.spot = none := hsp0 (by omega)
        have hbl : (a.add (i * es.length)).add 0 = ⟨a.block, a.off + i * es.length, none⟩ := by rw [addr_eq hsp, addr_add, addr_add]; simp
        rw [hbl] at h17
        refine ⟨c, T, f, addr_eq hsp, h17, fun gs' hgs' => ?_⟩
        rw [hgs'] at h9; cases h9
        refine ⟨h12, fun j hj => ?_⟩
        have h19 := h13 j hj
        have h20 : gs[j]? = some (gs[j]'(by omega)) := by simp
        rw [h20] at h19 ⊢
        have hbl2 : (a.add (i * es.length)).add j = ⟨a.block, a.off + i * es.length + j, none⟩ := by rw [addr_eq hsp, addr_add, addr_add]
        rw [hbl2] at h19
        obtain ⟨_, c', T', f', h21, h22⟩ := cell_view h19
        rw [h17] at h21; cases h21
        exact h22
      intro L
      refine ⟨fun ⟨hL, hone⟩ => ?_, fun hL => ?_⟩
      · subst hL
        refine ⟨some a, cap, rfl, h3, by omega, fun i hi => ?_⟩
        obtain ⟨c, T, f, ha, hv, hj⟩ := base0 i hi
        obtain ⟨gs, y, h9, _, _⟩ := key i hi
        obtain ⟨h12, h13⟩ := hj gs h9
        refine ⟨a.block, a.off, c, T, f, gs.getD 0 undef, by rw [← ha], hv, ?_, by show gs.getD 0 undef = _; simp only [h9, Option.getD_some]⟩
        have := h13 0 hm
        show c[a.off + i * 1]? = _
        rw [hone] at this
        rw [show a.off + i * 1 + 0 = a.off + i * 1 from rfl] at this
        rw [this]
        have : 0 < gs.length := by omega
        simp [List.getD, this]
      · subst hL
        refine ⟨some a, cap, rfl, h3, by omega, fun i hi => ?_⟩
        obtain ⟨c, T, f, ha, hv, hj⟩ := base0 i hi
        obtain ⟨gs, y, h9, _, _⟩ := key i hi
        obtain ⟨h12, h13⟩ := hj gs h9
        refine ⟨a.block, a.off, c, T, f, .agg gs.toArray, by rw [← ha], hv, ?_, by show Value.agg gs.toArray = _; simp only [h9, Option.getD_some]⟩
        show (if a.off + i * es.length + es.length ≤ c.size then some (Value.agg (c.extract (a.off + i * es.length) (a.off + i * es.length + es.length))) else none) = _
        have hlast := h13 (es.length - 1) (by omega)
        have h20 : gs[es.length - 1]? = some (gs[es.length - 1]'(by omega)) := by simp
        rw [h20] at hlast
        have hlt := (Array.getElem?_eq_some_iff.1 hlast).1
        rw [if_pos (by omega)]
        congr 2
        apply Array.ext_getElem?
        intro j
        rw [extract_at]
        split
        · rename_i hj'; rw [h13 j hj']; simp
        · rename_i hj'; rw [List.getElem?_toArray, List.getElem?_eq_none (by omega)]
theorem leaf_nums {t e : TypeId} {k : IntKind} {c : Value} (ht : P.underlying t = some (.slice e)) (he : P.underlying e = some (.int k)) (hc : P.cellsOf e = 1) (hby : 1 ≤ P.bytesOf e) (h : RL enc P W base held t c) :
    ∃ l : List Int, (slT .one l.length (fun i => one (.int k (l.getD i 0)))).p c (view W) ∧ ∀ x ∈ l, k.min ≤ x ∧ x ≤ k.max := by
  obtain ⟨len, g, h1, h2⟩ := leaf_rows 1 ht (es := [e]) (by rw [leavesF, he]) hc hby (by simp) h
  have key : ∀ i, i < len → ∃ n : Int, g i = [.int k n] ∧ k.min ≤ n ∧ n ≤ k.max := fun i hi => by
    obtain ⟨b, bs, h3, h4, h5⟩ := h1 i hi
    cases h5
    obtain ⟨n, h6, h7⟩ := leaf_int he h4
    exact ⟨n, by rw [h3, h6], h7⟩
  let f : Nat → Int := fun i => match g i with | [.int _ n] => n | _ => 0
  have hf : ∀ i, i < len → g i = [.int k (f i)] ∧ k.min ≤ f i ∧ f i ≤ k.max := fun i hi => by
    obtain ⟨n, h3, h4⟩ := key i hi
    have : f i = n := by show (match g i with | [.int _ n] => n | _ => 0) = n; rw [h3]
    rw [this]; exact ⟨h3, h4⟩
  refine ⟨(List.range len).map f, ?_, fun x hx => ?_⟩
  · refine slT_le' (by simp) (fun i hi => ?_) _ _ ((h2 .one).1 ⟨rfl, rfl⟩)
    rw [(hf i hi).1]
    simp [List.getD, hi]
  · obtain ⟨i, hi, rfl⟩ := List.mem_map.1 hx
    exact (hf i (List.mem_range.1 hi)).2
theorem slT_one {L : Lay} {n : Nat} {φ : Nat → VT} {v : Value} {h : Hp} (H : (slT L n φ).p v h) : v.oneCell' = true := by
  obtain ⟨a, cap, e, _⟩ := H; subst e; rfl
def cellsP : Nat → List VT → List Value → Hp → Prop
  | _, [], [], _ => True
  | i, φ :: φs, v :: vs, h => φ.p v h ∧ v.oneCell' = true ∧ cellsP (i + 1) φs vs h
  | _, _, _, _ => False
def compsOf : Nat → List VT → Comps
  | _, [] => []
  | i, φ :: φs => (i, .one, φ) :: compsOf (i + 1) φs
theorem cellsP_ok {h : Hp} : ∀ {φs : List VT} {vs pre : List Value}, cellsP pre.length φs vs h → φs.length = vs.length ∧ vs.all (·.oneCell') = true ∧ ∀ q ∈ compsOf pre.length φs, ∃ x, valAt q.2.1 (pre ++ vs).toArray q.1 = some x ∧ q.2.2.p x h
  | [], [], _, _ => ⟨rfl, rfl, fun q hq => by cases hq⟩
  | φ :: φs, v :: vs, pre, ⟨h1, h2, h3⟩ => by
    have h3' : cellsP (pre ++ [v]).length φs vs h := by simpa using h3
    obtain ⟨i1, i2, i3⟩ := cellsP_ok h3'
    refine ⟨by simp [i1], by simp [h2]; simpa using i2, fun q hq => ?_⟩
    rcases List.mem_cons.1 hq with rfl | hq
    · refine ⟨v, ?_, h1⟩
      show (pre ++ v :: vs).toArray[pre.length]? = some v
      simp
    · have := i3 q (by simpa using hq)
      simpa using this
  | [], _ :: _, _, h => h.elim
  | _ :: _, [], _, h => h.elim
theorem agg_p {φs : List VT} {vs : List Value} {h : Hp} (hc : cellsP 0 φs vs h) : (aggT φs.length (compsOf 0 φs)).p (.agg vs.toArray) h := by
  obtain ⟨h1, h2, h3⟩ := cellsP_ok (pre := []) hc
  exact ⟨vs.toArray, rfl, by simp [h1], by simpa using h2, fun q hq => by simpa using h3 q hq⟩
theorem arg_agg {t : TypeId} {v : Value} {d : DataW H} {ps : List MemPlace} {ts : List TypeId} (n : Nat) (hl : leavesF P n t = some ts) (ht : (∃ fs, P.underlying t = some (.struct fs)) ∨ ∃ k e, P.underlying t = some (.array k e)) (hval : Value.okWide P W .any base t v)
    (h : DataW.Trod enc P W 0 (fun _ => true) true t v d ps) (hw : ∀ x ∈ DataW.weights P t d, x ≤ reachBytes) : ∃ cs : List Value, v = .agg cs.toArray ∧ all2 (RL enc P W 0 true) ts cs := by
  obtain ⟨fuel, h⟩ := h
  have : ∃ cs : Array Value, v = .agg cs := by
    rcases ht with ⟨fs, ht⟩ | ⟨k, e, ht⟩
    · simp only [Value.okWide, ht] at hval; obtain ⟨cs, h1, _⟩ := hval; exact ⟨cs, h1⟩
    · simp only [Value.okWide, ht] at hval; obtain ⟨cs, h1, _⟩ := hval; exact ⟨cs, h1⟩
  obtain ⟨cs, rfl⟩ := this
  exact ⟨cs.toList, by simp, flat_trod n fuel t _ (d, ps) ts hl h hw⟩
theorem arg_leaf {t : TypeId} {v : Value} {d : DataW H} {ps : List MemPlace} (ht : (∃ k, P.underlying t = some (.int k)) ∨ P.underlying t = some .bool ∨ ∃ e, P.underlying t = some (.slice e)) (hval : Value.okWide P W .any base t v)
    (h : DataW.Trod enc P W 0 (fun _ => true) true t v d ps) (hw : ∀ x ∈ DataW.weights P t d, x ≤ reachBytes) : RL enc P W 0 true t v := by
  obtain ⟨fuel, h⟩ := h
  refine ⟨fuel, (d, ps), ?_, hw⟩
  have e : v.cells.toList = [v] := by
    rcases ht with ⟨k, ht⟩ | ht | ⟨e, ht⟩
    · obtain ⟨n, rfl⟩ := okWide_int ht hval; rfl
    · obtain ⟨n, rfl⟩ := okWide_bool ht hval; rfl
    · obtain ⟨a, l, c, rfl⟩ := okWide_slice ht hval; rfl
  rw [← e]; exact h
theorem arg_weights {ts : List TypeId} {ds : List (DataW H)} (h : (DataW.weightsEach P ts ds).all (· ≤ reachBytes) = true) (j : Nat) {t : TypeId} {d : DataW H} (ht : ts[j]? = some t) (hd : ds[j]? = some d) : ∀ x ∈ DataW.weights P t d, x ≤ reachBytes := fun x hx => by
  have := List.all_eq_true.1 h x (DataW.weights_mem_each ht hd x hx)
  simpa using this
theorem Ok.outside {f : FuncId} {φs : List VT} {ψ : VT} (h : Ok P f φs ψ) {args : Array Value} (hp : tupP φs args.toList (view W)) : Calls P f args W (fun e W' => ∃ v, e = .returned v ∧ ψ.p v (view W') ∧ Below W.heap.size W W') := by
  have h0 := h W [] args.toList (fun b hb => by cases hb) (by
    have e : hid [] (view W) = view W := by funext b; simp [hid]
    rw [e]; exact hp)
  have e : args.toList.toArray = args := by simp
  rw [e] at h0
  refine Calls.mono h0 ?_
  rintro e w' ⟨v, rfl, hv', hext⟩
  have e : hid [] (view w') = view w' := by funext b; simp [hid]
  exact ⟨v, rfl, e ▸ hv', hext⟩
end
end Tor
end
section
set_option linter.unusedSectionVars false
namespace Tor
open Go Go.RowKit
section
variable {P : Program} {E : Env} {D : List Deferred} {Γ : Ctx} {M : Mem} {ops : Array Oper} {i : Nat} {ty : TypeId} {pos : String} {af : Array Edge} {os : List Oper} {K : List Deferred → Ctx → Mem → Prop}
theorem ConvM.nilSl0 {T : TypeId} {L : Lay} {φ : Nat → VT} (M : Mem) : ConvM M (sliO none T L 0 0 φ :: M) :=
  ⟨List.Perm.refl _, fun g h H o ho => by
    rcases List.mem_cons.1 ho with rfl | ho
    · exact ⟨Nat.le_refl _, by decide, fun _ => rfl, fun b hb => by cases hb⟩
    · exact H o ho⟩
theorem sBt {o : Oper} {b : Bool} (hb : b = true) (h : StepO P E Γ M o (one (.bool b))) : StepO P E Γ M o (one (.bool true)) := hb ▸ h
theorem sBf {o : Oper} {b : Bool} (hb : b = false) (h : StepO P E Γ M o (one (.bool b))) : StepO P E Γ M o (one (.bool false)) := hb ▸ h
end
end Tor
end
section
set_option linter.unusedSectionVars false
namespace Tor
open Go Go.RowKit
section
variable {P : Program} {E : Env} {D : List Deferred} {Γ : Ctx} {M : Mem}
def RetI {σ : Type} (O I : List Nat) (ψ : σ → VT) (Ms : σ → Mem) (w : World) (e : Ending) (w' : World) : Prop :=
  ∃ s v, e = .returned v ∧ (ψ s).p v (hid (O ++ blks (Ms s)) (view w')) ∧ Fr I w w' ∧ (∀ o ∈ Ms s, o.p (raw w') (hid (O ++ blks (Ms s)) (view w'))) ∧ (blks (Ms s)).Nodup ∧ ∀ b ∈ blks (Ms s), (w.heap.size ≤ b ∨ b ∈ I) ∧ b < w'.heap.size ∧ b ∉ O
def OkI {σ : Type} (P : Program) (f : FuncId) (φs : List VT) (Min : Mem) (ψ : σ → VT) (Ms : σ → Mem) : Prop :=
  ∀ (w : World) (O : List Nat) (vs : List Value), (∀ b ∈ O, b < w.heap.size) → (∀ b ∈ blks Min, b < w.heap.size ∧ b ∉ O) → (blks Min).Nodup → (∀ o ∈ Min, o.p (raw w) (hid (O ++ blks Min) (view w))) →
    tupP φs vs (hid (O ++ blks Min) (view w)) → Calls P f vs.toArray w (RetI O (blks Min) ψ Ms w)
theorem OkI.enter {σ : Type} {f : FuncId} {fn : Func} {c : Code} {N : Nat} {φs : List VT} {Min : Mem} {ψ : σ → VT} {Ms : σ → Mem} (hf : P.funcs[f]? = some fn) (hb : fn.body = some c) (hN : fn.ntmps = N) (hle : Nat.ble φs.length N = true)
    (h : ∀ (w : World) (O : List Nat), J P ⟨w, O, blks Min, N, none⟩ [] (argCtx 0 φs) Min c (bodyPost P fn (RetI O (blks Min) ψ Ms w))) : OkI P f φs Min ψ Ms := by
  intro w O vs hO hI hnd hmem hv'
  have hle := Nat.le_of_ble_eq_true hle
  have hl := tupP_len hv'
  refine calls_of_wp hf hb ((h w O _ w ⟨⟨hmem, hnd, fun b hb => (hI b hb).2, fun b hb => .inr hb, ?_, Fr.refl _ _⟩, ?_, rfl, ?_⟩).wp rfl)
  · intro b hb'
    rcases List.mem_append.1 hb' with h | h
    · exact hO b h
    · exact (hI b h).1
  · simp [hN]; omega
  · intro t φ e
    obtain ⟨v, _, h2, h3⟩ := look_argCtx e hv'
    rw [Nat.sub_zero] at h2
    have hlt := (List.getElem?_eq_some_iff.1 h2).1
    rw [Array.getD_eq_getD_getElem?, Array.getElem?_append_left (by simpa using hlt)]
    simpa [h2] using h3
theorem retI_of {σ : Type} {w0 : World} {O I : List Nat} {N : Nat} {fn : Func} {ψ : σ → VT} {Ms : σ → Mem} (s : σ) (hm : SubM M (Ms s)) (h : ∀ a w, St ⟨w0, O, I, N, none⟩ [] Γ M a w → ∃ v, (results fn a.tmps).run P w = .ok v w ∧ (ψ s).p v (hv ⟨w0, O, I, N, none⟩ M w)) :
    PJ ⟨w0, O, I, N, none⟩ [] Γ M .ret (bodyPost P fn (RetI O I ψ Ms w0)) := by
  intro a w hS
  obtain ⟨v, h1, h2⟩ := h a w hS
  have hB := hS.base.sub hm
  exact ⟨hS.df, v, h1, s, v, rfl, (ψ s).mono (hv_sub fun b hb => hm.sub.subset hb) h2, hS.base.fr, hB.mem, hB.nd, fun b hb => ⟨hB.lo b hb, hB.ex b (List.mem_append.2 (.inr hb)), hB.dis b hb⟩⟩
theorem retI1 {σ : Type} {w0 : World} {O I : List Nat} {N : Nat} {fn : Func} {r : ResultVar} {ψ : σ → VT} {Ms : σ → Mem} (s : σ) (hr : fn.results = #[r]) (h : ResOk P Γ M r (ψ s)) (hm : SubM M (Ms s)) :
    PJ ⟨w0, O, I, N, none⟩ [] Γ M .ret (bodyPost P fn (RetI O I ψ Ms w0)) := retI_of s hm fun a w hS => by
  obtain ⟨v, h1, h2⟩ := h.run hS
  refine ⟨v, ?_, h2⟩
  have hm : (fn.results.mapM (resS a.tmps)).run P w = .ok #[v] w := by rw [hr]; simp [h1]
  rw [results_eq, Sem.run_bind, hm]; rfl
theorem retI0 {σ : Type} {w0 : World} {O I : List Nat} {N : Nat} {fn : Func} {ψ : σ → VT} {Ms : σ → Mem} (s : σ) (hr : fn.results = #[]) (hψ : VT.le (tupT []) (ψ s)) (hm : SubM M (Ms s)) :
    PJ ⟨w0, O, I, N, none⟩ [] Γ M .ret (bodyPost P fn (RetI O I ψ Ms w0)) := retI_of s hm fun a w hS => by
  refine ⟨.tuple #[], ?_, hψ _ _ ⟨[], rfl, trivial⟩⟩
  have hm : (fn.results.mapM (resS a.tmps)).run P w = .ok #[] w := by rw [hr]; simp
  rw [results_eq, Sem.run_bind, hm]; rfl
theorem Fr.trans' {I I' : List Nat} {a b c : World} (h : Fr I a b) (k : Fr I' b c) (hI : ∀ x ∈ I', a.heap.size ≤ x ∨ x ∈ I) : Fr I a c :=
  ⟨k.os.trans h.os, k.tape.trans h.tape, k.output.trans h.output, Nat.le_trans h.size k.size, fun i hi hn => (k.block i (Nat.lt_of_lt_of_le hi h.size) (fun hx => by
    rcases hI i hx with h1 | h1
    · omega
    · exact hn h1)).trans (h.block i hi hn)⟩
theorem St.lent {a : Act} {w w' : World} {Min K N : Mem} (hS : St E D Γ (Min ++ K) a w) (hf : Fr (blks Min) w w') (hmem : ∀ o ∈ N, o.p (raw w') (hid ((E.O ++ blks K) ++ blks N) (view w'))) (hnd : (blks N).Nodup)
    (hb : ∀ b ∈ blks N, (w.heap.size ≤ b ∨ b ∈ blks Min) ∧ b < w'.heap.size ∧ b ∉ E.O ++ blks K) {d : Nat} (hd : d < E.N) {v : Value} {ψ : VT} (hv' : ψ.p v (hid ((E.O ++ blks K) ++ blks N) (view w'))) :
    St E D ((d, ψ) :: Γ) (N ++ K) (a.put (some d) v) w' ∧ St E D Γ (N ++ K) (a.put none v) w' := by
  have hex := hS.base.ex
  have hndA := hS.base.nd
  rw [blks_app, List.nodup_append] at hndA
  have hKM : ∀ b ∈ blks K, b ∈ blks (Min ++ K) := fun b h => by rw [blks_app]; exact List.mem_append.2 (.inr h)
  have hMM : ∀ b ∈ blks Min, b ∈ blks (Min ++ K) := fun b h => by rw [blks_app]; exact List.mem_append.2 (.inl h)
  have ehv : hid (E.O ++ blks (N ++ K)) (view w') = hid ((E.O ++ blks K) ++ blks N) (view w') := hid_congr (fun b => by
    simp only [blks_app, List.mem_append]
    constructor
    · rintro (h | h | h)
      · exact .inl (.inl h)
      · exact .inr h
      · exact .inl (.inr h)
    · rintro ((h | h) | h)
      · exact .inl h
      · exact .inr (.inr h)
      · exact .inr (.inl h)) _
  have hle : Hp.le (hv E (Min ++ K) w) (hid (E.O ++ blks (N ++ K)) (view w')) := by
    intro b x e
    obtain ⟨h1, h2⟩ := hid_some e
    have hlt := view_lt h2
    have hnM : b ∉ blks Min := fun h => h1 (List.mem_append.2 (.inr (hMM b h)))
    refine hid_of ?_ (by rw [view_eq (hf.block b hlt hnM)]; exact h2)
    intro h
    rw [blks_app] at h
    rcases List.mem_append.1 h with h | h
    · exact h1 (List.mem_append.2 (.inl h))
    · rcases List.mem_append.1 h with h | h
      · rcases (hb b h).1 with h3 | h3
        · omega
        · exact hnM h3
      · exact h1 (List.mem_append.2 (.inr (hKM b h)))
  have hB : Base E (N ++ K) w' := by
    refine ⟨?_, ?_, ?_, ?_, ?_, ?_⟩
    · intro q hq
      rcases List.mem_append.1 hq with hq | hq
      · rw [ehv]; exact hmem q hq
      · refine q.loc (fun b hb' => ?_) hle (hS.base.mem q (List.mem_append.2 (.inr hq)))
        have hbK := blks_mem hq hb'
        refine (raw_eq (hf.block b (hex b (List.mem_append.2 (.inr (hKM b hbK)))) (fun h => ?_))).symm
        exact hndA.2.2 b h b hbK rfl
    · rw [blks_app, List.nodup_append]
      exact ⟨hnd, hndA.2.1, fun x hx y hy e => (hb x hx).2.2 (List.mem_append.2 (.inr (e ▸ hy)))⟩
    · intro b h
      rw [blks_app] at h
      rcases List.mem_append.1 h with h | h
      · exact fun hO => (hb b h).2.2 (List.mem_append.2 (.inl hO))
      · exact hS.base.dis b (hKM b h)
    · intro b h
      rw [blks_app] at h
      rcases List.mem_append.1 h with h | h
      · rcases (hb b h).1 with h1 | h1
        · exact .inl (Nat.le_trans hS.base.fr.size h1)
        · exact hS.base.lo b (hMM b h1)
      · exact hS.base.lo b (hKM b h)
    · intro b h
      have hs := hf.size
      rcases List.mem_append.1 h with h | h
      · have := hex b (List.mem_append.2 (.inl h)); omega
      · rw [blks_app] at h
        rcases List.mem_append.1 h with h | h
        · exact (hb b h).2.1
        · have := hex b (List.mem_append.2 (.inr (hKM b h))); omega
    · exact hS.base.fr.trans' hf (fun x hx => hS.base.lo x (hMM x hx))
  refine ⟨⟨hB, by simp [Act.put, hS.sz], hS.df, ?_⟩, ⟨hB, by simp [Act.put, hS.sz], hS.df, fun t φ h => φ.mono hle (hS.tm t φ h)⟩⟩
  intro t φ h
  rw [look_cons] at h
  show φ.p _ (hid (E.O ++ blks (N ++ K)) (view w'))
  split at h
  · rename_i e; cases h; rw [← e, getD_put_self (by rw [hS.sz]; exact hd), ehv]; exact hv'
  · rename_i e; rw [getD_put_ne e]; exact φ.mono hle (hS.tm t φ h)
variable {ops : Array Oper} {i : Nat} {ty : TypeId} {pos : String} {af : Array Edge} {os : List Oper} {K : List Deferred → Ctx → Mem → Prop}
theorem a_callI {σ : Type} {f : FuncId} [hF : Fn P f] {xs : Array Operand} {ats : Array TypeId} {φs φs' : List VT} {Min Kp : Mem} {ψ : σ → VT} {Ms : σ → Mem} {d : Nat} (h : OkI P f φs' Min ψ Ms) (hx : evalL Γ xs.toList = some φs) (hle : leAll φs φs') (hpm : M.Perm (Min ++ Kp))
    (hi : ops[i]? = some ⟨some d, .call ⟨.value (.func f), xs, ats⟩, ty, pos, af, none⟩) (hd : Nat.ble (d + 1) E.N = true)
    (hr : ∀ s, Run P E ops false (i + 1) D ((d, ψ s) :: Γ) (Ms s ++ Kp) os K) : Run P E ops false i D Γ M (⟨some d, .call ⟨.value (.func f), xs, ats⟩, ty, pos, af, none⟩ :: os) K := by
  refine .act (K' := fun D' Γ' M' => ∃ s, D' = D ∧ Γ' = (d, ψ s) :: Γ ∧ M' = Ms s ++ Kp) (fun a w hS0 next Q hn => ?_) (fun D' Γ' M' ⟨s, h1, h2, h3⟩ => by subst h1 h2 h3; exact hr s)
  have hS := St_perm hpm hS0
  have hp := evalL_p (a := a) (h := hv E (Min ++ Kp) w) hx (fun x φ hx' he => evalT_p hS he)
  have hndA := hS.base.nd
  rw [blks_app, List.nodup_append] at hndA
  have ehv : ∀ w : World, hid ((E.O ++ blks Kp) ++ blks Min) (view w) = hv E (Min ++ Kp) w := fun w => hid_congr (fun b => by
    simp only [blks_app, List.mem_append]
    constructor
    · rintro ((h | h) | h)
      · exact .inl h
      · exact .inr (.inr h)
      · exact .inr (.inl h)
    · rintro (h | h | h)
      · exact .inl (.inl h)
      · exact .inr h
      · exact .inl (.inr h)) _
  have hc := h w (E.O ++ blks Kp) _ (fun b hb => hS.base.ex b (by
      rw [blks_app]
      rcases List.mem_append.1 hb with h | h
      · exact List.mem_append.2 (.inl h)
      · exact List.mem_append.2 (.inr (List.mem_append.2 (.inr h)))))
    (fun b hb => ⟨hS.base.ex b (by rw [blks_app]; exact List.mem_append.2 (.inr (List.mem_append.2 (.inl hb)))), fun hO => by
      rcases List.mem_append.1 hO with h | h
      · exact hS.base.dis b (by rw [blks_app]; exact List.mem_append.2 (.inl hb)) h
      · exact hndA.2.2 b hb b h rfl⟩) hndA.1 (fun o ho => by rw [ehv]; exact hS.base.mem o (List.mem_append.2 (.inl ho))) (by rw [ehv]; exact leAll_p hle hp)
  simp only [wpOp, hi, wanted_none (o := ⟨some d, .call ⟨.value (.func f), xs, ats⟩, ty, pos, af, none⟩) rfl, if_true]
  refine .inl ?_
  unfold Oper.wp
  have hr : (execOp a.eval ⟨some d, .call ⟨.value (.func f), xs, ats⟩, ty, pos, af, none⟩).run P w = .ok (.enter f (xs.toList.map a.eval).toArray) w := by
    have h0 : a.eval (.func f) = .func (.func f) #[] #[] := rfl
    have h9 : (xs.map a.eval) = (xs.toList.map a.eval).toArray := by simp [← Array.toList_map]
    simp [execOp, resolve, Deferred.ofValue, invoke, h0, hF.run, h9]
  rw [hr]
  refine Calls.mono hc ?_
  rintro e w' ⟨s, v, rfl, hv', hf, hmem, hnd, hb⟩
  exact hn D ((d, ψ s) :: Γ) (Ms s ++ Kp) _ w' ⟨s, rfl, rfl, rfl⟩ (hS.lent hf hmem hnd hb (ltN hd) hv').1
abbrev winV (b j sz n cap : Nat) : Value := .slice (some ⟨b, j * sz, none⟩) n cap
theorem s_indexW {dd : Option Tmp} {gd : Option (Nat × Bool)} {T e : TypeId} {L : Lay} [hS : SliceOf P T e] [hL : LayOf P e L] {x y : Operand} {b j n cap i : Nat} {k : IntKind} (hx : evalT Γ x = some (one (winV b j L.sz n cap))) (hy : evalT Γ y = some (one (.int k (i : Int)))) (h1 : i < n) :
    StepO P E Γ M ⟨dd, .indexAddr T x y, ty, pos, af, gd⟩ (eP b (j + i) L.sz) :=
  StepO.ofRun fun a w hb hf => by
    have hx' : a.eval x = .slice (some ⟨b, j * L.sz, none⟩) n cap := hf x _ (by simp [Op.operands]) hx
    have hy' : a.eval y = .int k i := hf y _ (by simp [Op.operands]) hy
    refine ⟨.pointer (some ⟨b, (j + i) * L.sz, none⟩), ?_, rfl⟩
    have hi : 0 ≤ (i : Int) ∧ (i : Int) < (n : Int) := ⟨by omega, by omega⟩
    simp [execOp, hx', hy', Instr.indexAt, asIntOf, run_underlying' hS.und, h1, run_sizeOf' (L := L), addr_add, Nat.add_mul]
theorem s_sliceW {dd : Option Tmp} {gd : Option (Nat × Bool)} {T e : TypeId} {L : Lay} [hS : SliceOf P T e] [hL : LayOf P e L] {x lo hi : Operand} {b n cap l h : Nat} {kl kh : IntKind} (hx : evalT Γ x = some (one (slV (some b) n cap))) (hlo : evalT Γ lo = some (one (.int kl (l : Int)))) (hhi : evalT Γ hi = some (one (.int kh (h : Int))))
    (h1 : l ≤ h) (h2 : h ≤ cap) (h3 : l < cap) : StepO P E Γ M ⟨dd, .slice T x (some lo) (some hi) none, ty, pos, af, gd⟩ (one (winV b l L.sz (h - l) (cap - l))) :=
  StepO.ofRun fun a w hb hf => by
    have hx' : a.eval x = .slice (some ⟨b, 0, none⟩) n cap := hf x _ (by simp [Op.operands]) hx
    have hl' : a.eval lo = .int kl l := hf lo _ (by simp [Op.operands]) hlo
    have hh' : a.eval hi = .int kh h := hf hi _ (by simp [Op.operands]) hhi
    refine ⟨winV b l L.sz (h - l) (cap - l), ?_, rfl⟩
    have e2 := run_sliceBound (P := P) (k := kh) (iv := (h : Int)) (y := cap) (code := .sliceAcap) (by omega) (by omega) w
    have e3 := run_sliceBound (P := P) (k := kl) (iv := (l : Int)) (y := h) (code := .sliceB) (by omega) (by omega) w
    have hbd : (Instr.sliceBounds true n cap (some (.int kl l)) (some (.int kh h)) none).run P w = .ok (l, h, cap) w := by
      simp [Instr.sliceBounds, Sem.run_bind, e2, e3]
    have hne : ¬ cap = l := by omega
    simp [execOp, hx', hl', hh', Instr.sliceAt, Sem.run_bind, run_underlying' hS.und, Result.andThen_ok, Instr.slice, hbd, run_sizeOf' (L := L), Sem.run_pure, hne, addr_add]
end
end Tor
end
section
set_option linter.unusedSectionVars false
namespace Tor
open Go Go.RowKit
section
variable {P : Program} {E : Env} {Γ : Ctx} {M : Mem} {d : Option Tmp} {ty : TypeId} {pos : String} {af : Array Edge} {gd : Option (Nat × Bool)}
theorem bits_or {a b : Nat} (ha : a < 18446744073709551616) (hb : b < 18446744073709551616) : IntKind.u64.wrap ((BitVec.ofInt IntKind.u64.bits (a : Int) ||| BitVec.ofInt IntKind.u64.bits (b : Int)).toNat : Int) = ((a ||| b : Nat) : Int) := by
  have h : (BitVec.ofInt IntKind.u64.bits (a : Int) ||| BitVec.ofInt IntKind.u64.bits (b : Int)).toNat = a ||| b := by
    rw [BitVec.toNat_or, BitVec.ofInt_natCast, BitVec.ofInt_natCast, BitVec.toNat_ofNat, BitVec.toNat_ofNat]
    have e : 2 ^ IntKind.u64.bits = 18446744073709551616 := rfl
    rw [e, Nat.mod_eq_of_lt ha, Nat.mod_eq_of_lt hb]
  rw [h, wrap_u64]
  have : a ||| b < 2 ^ 64 := Nat.or_lt_two_pow ha hb
  omega
theorem or_low {a b k : Nat} (hb : b < 2 ^ k) : (a * 2 ^ k) ||| b = a * 2 ^ k + b := by
  rw [Nat.mul_comm]; exact (Nat.two_pow_add_eq_or_of_lt hb a).symm
theorem s_orHL {T T' : TypeId} {x y : Operand} {a b : Nat} (hx : evalT Γ x = some (one (.int .u64 ((a * 4294967296 : Nat) : Int)))) (hy : evalT Γ y = some (one (.int .u64 (b : Int)))) (ha : a < 4294967296) (hb : b < 4294967296) :
    StepO P E Γ M ⟨d, .binOp .or T x y T', ty, pos, af, gd⟩ (one (.int .u64 ((a * 4294967296 + b : Nat) : Int))) :=
  s_or hx hy (by rw [bits_or (by omega) (by omega)]; congr 1; exact or_low (k := 32) hb)
theorem s_orS {T T' : TypeId} {x y : Operand} {a b s : Nat} (hx : evalT Γ x = some (one (.int .u64 (b : Int)))) (hy : evalT Γ y = some (one (.int .u64 ((a * 2 ^ s : Nat) : Int)))) (hb : b < 2 ^ s) (ha : a * 2 ^ s + b < 18446744073709551616) :
    StepO P E Γ M ⟨d, .binOp .or T x y T', ty, pos, af, gd⟩ (one (.int .u64 ((b + a * 2 ^ s : Nat) : Int))) :=
  s_or hx hy (by rw [bits_or (by omega) (by omega)]; congr 1; rw [Nat.or_comm, Nat.add_comm]; exact or_low hb)
theorem s_shlU {T T' : TypeId} {x y : Operand} {k' : IntKind} {a s : Nat} (hx : evalT Γ x = some (one (.int .u64 (a : Int)))) (hy : evalT Γ y = some (one (.int k' (s : Int)))) (hs : s < 64) (h : a * 2 ^ s < 18446744073709551616) :
    StepO P E Γ M ⟨d, .binOp .shl T x y T', ty, pos, af, gd⟩ (one (.int .u64 ((a * 2 ^ s : Nat) : Int))) :=
  s_shl hx hy (by omega) (by
    have e : min ((s : Int)).toNat IntKind.u64.bits = s := by show min _ 64 = s; omega
    rw [e, wrap_u64]
    have : ((a : Int) * 2 ^ s) = ((a * 2 ^ s : Nat) : Int) := by simp
    rw [this]; omega)
theorem s_shl32 {T T' : TypeId} {x : Operand} {k' : IntKind} {a : Nat} (hx : evalT Γ x = some (one (.int .u64 (a : Int)))) (h : a < 4294967296) :
    StepO P E Γ M ⟨d, .binOp .shl T x (.const (.int k' 32)) T', ty, pos, af, gd⟩ (one (.int .u64 ((a * 4294967296 : Nat) : Int))) := s_shlU (s := 32) hx rfl (by decide) (by omega)
theorem s_shrU {T T' : TypeId} {x y : Operand} {k k' : IntKind} {a s : Nat} (hx : evalT Γ x = some (one (.int k (a : Int)))) (hy : evalT Γ y = some (one (.int k' (s : Int)))) (hs : s < k.bits) :
    StepO P E Γ M ⟨d, .binOp .shr T x y T', ty, pos, af, gd⟩ (one (.int k ((a / 2 ^ s : Nat) : Int))) :=
  s_shr hx hy (by omega) (by
    have e : min ((s : Int)).toNat k.bits = s := by omega
    rw [e, Int.fdiv_eq_ediv_of_nonneg _ (Int.le_of_lt (Int.pow_pos (by decide)))]
    have : (2 : Int) ^ s = ((2 ^ s : Nat) : Int) := by simp
    rw [this]; exact (Int.natCast_ediv a (2 ^ s)).symm)
theorem s_andM {T T' : TypeId} {x : Operand} {a : Nat} (hx : evalT Γ x = some (one (.int .u64 (a : Int)))) (ha : a < 18446744073709551616) :
    StepO P E Γ M ⟨d, .binOp .and T x (.const (.int .u64 4294967295)) T', ty, pos, af, gd⟩ (one (.int .u64 ((a % 4294967296 : Nat) : Int))) :=
  s_and hx rfl (by
    have h : (BitVec.ofInt IntKind.u64.bits (a : Int) &&& BitVec.ofInt IntKind.u64.bits (4294967295 : Int)).toNat = a % 4294967296 := by
      have e0 : (4294967295 : Int) = ((4294967295 : Nat) : Int) := rfl
      rw [BitVec.toNat_and, e0, BitVec.ofInt_natCast, BitVec.ofInt_natCast, BitVec.toNat_ofNat, BitVec.toNat_ofNat]
      have e : 2 ^ IntKind.u64.bits = 18446744073709551616 := rfl
      rw [e, Nat.mod_eq_of_lt ha]
      exact Nat.and_two_pow_sub_one_eq_mod a 32
    rw [h, wrap_u64]; omega)
theorem s_addW {T T' : TypeId} {x y : Operand} {a b : Nat} (hx : evalT Γ x = some (one (.int .u32 (a : Int)))) (hy : evalT Γ y = some (one (.int .u32 (b : Int)))) :
    StepO P E Γ M ⟨d, .binOp .add T x y T', ty, pos, af, gd⟩ (one (.int .u32 (((a + b) % 4294967296 : Nat) : Int))) := s_add hx hy (by rw [wrap_u32]; omega)
theorem s_indexStr {T : TypeId} {x y : Operand} {s : ByteArray} {k : IntKind} {i m : Nat} (hT : P.underlying T = some .string) (hx : evalT Γ x = some (one (.string s))) (hy : evalT Γ y = some (one (.int k (i : Int)))) (hc : (s[i]?).map UInt8.toNat = some m) :
    StepO P E Γ M ⟨d, .index T x y, ty, pos, af, gd⟩ (one (.int .u8 (m : Int))) :=
  StepO.ofRun fun ac w hb hf => by
    have hx' : ac.eval x = .string s := hf x _ (by simp [Op.operands]) hx
    have hy' : ac.eval y = .int k i := hf y _ (by simp [Op.operands]) hy
    obtain ⟨c, hc', hm⟩ := Option.map_eq_some_iff.1 hc
    refine ⟨.int .u8 (m : Int), ?_, rfl⟩
    have h0 : (0 : Int) ≤ (i : Int) := by omega
    simp [execOp, hx', hy', Instr.index, asIntOf, run_underlying' hT, h0, hc', hm]
theorem J_joinB {σ : Type} {D : List Deferred} {Q : Exit → Act → World → Prop} {c : Code} {id : Nat} {n : Act → World → Prop} {Γk : Ctx} (hk : SubG Γ Γk) (Gv : σ → Ctx) (Mf : σ → Mem → Mem) (ok : σ → Prop)
    (h : J P E D Γ M c (Exit.inBlock id (Exit.then (fun a w => ∃ s, ok s ∧ St E D (Gv s ++ Γk) (Mf s M) a w) Q)))
    (hn : ∀ s, ok s → PJ E D (Gv s ++ Γk) (Mf s M) .normal (Exit.then n Q)) : J P E D Γ M c (Exit.inBlock id (Exit.then n Q)) :=
  fun a w hS => (h a w hS).mono fun e a w hq => by
    cases e with
    | exit id' =>
      simp only [Exit.inBlock] at hq ⊢
      split at hq
      · rename_i h0
        rw [if_pos h0]
        obtain ⟨s, hs, hS'⟩ := hq; exact hn s hs a w hS'
      · rename_i h0
        rw [if_neg h0]; exact hq
    | normal => obtain ⟨s, hs, hS'⟩ := hq; exact hn s hs a w hS'
    | _ => exact hq
end
end Tor
end
section
set_option linter.unusedSectionVars false
namespace Tor
open Go Go.RowKit
section
variable {P : Program} {E : Env} {ops : Array Oper} {σ : Type}
inductive OpV (P : Program) (E : Env) (M : Mem) (ops : Array Oper) (m : Nat) (ψm : σ → VT) (Ms : σ → Mem) (i : Nat) (Γ : σ → Ctx) (o : Oper) : (σ → Ctx) → Prop
  | indep {d : Nat} {ψ : VT} : Nat.beq i m = false → (∀ s B, StepG P (E.hide B) (Γ s) M ops o ((d, ψ) :: Γ s)) → OpV P E M ops m ψm Ms i Γ o (fun s => (d, ψ) :: Γ s)
  | dep {d : Nat} {ψ : σ → VT} : Nat.beq i m = false → predN 6 ops m i = true → (∀ s B, StepG P (E.hide B) (Γ s) M ops o ((d, ψ s) :: Γ s)) → OpV P E M ops m ψm Ms i Γ o (fun s => (d, ψ s) :: Γ s)
  | call {d : Nat} {f : FuncId} {xs : Array Operand} {ats : Array TypeId} {φs φs' : List VT} {ty : TypeId} {pos : String} {af : Array Edge} : Nat.beq i m = true → Fn P f → OkM P f φs' ψm Ms → (∀ s, evalL (Γ s) xs.toList = some φs) → leAll φs φs' →
      o = ⟨some d, .call ⟨.value (.func f), xs, ats⟩, ty, pos, af, none⟩ → Nat.ble (d + 1) E.N = true → OpV P E M ops m ψm Ms i Γ o (fun s => (d, ψm s) :: Γ s)
inductive RunV (P : Program) (E : Env) (M : Mem) (ops : Array Oper) (m : Nat) (ψm : σ → VT) (Ms : σ → Mem) : Nat → (σ → Ctx) → List Oper → ((σ → Ctx) → Prop) → Prop
  | nil {i Γ K} : K Γ → RunV P E M ops m ψm Ms i Γ [] K
  | step {i Γ o os K Γ'} : OpV P E M ops m ψm Ms i Γ o Γ' → RunV P E M ops m ψm Ms (i + 1) Γ' os K → RunV P E M ops m ψm Ms i Γ (o :: os) K
theorem RunV.chain {M : Mem} {m : Nat} {ψm : σ → VT} {Ms : σ → Mem} {i : Nat} {Γ : σ → Ctx} {os : List Oper} {K : (σ → Ctx) → Prop} (h : RunV P E M ops m ψm Ms i Γ os K) :
    ∃ (G : Nat → σ → Ctx), G i = Γ ∧ K (G (i + os.length)) ∧ ∀ j o, os[j]? = some o → OpV P E M ops m ψm Ms (i + j) (G (i + j)) o (G (i + j + 1)) := by
  induction h with
  | @nil i Γ K hK => exact ⟨fun _ => Γ, rfl, hK, fun j o h => by simp at h⟩
  | @step i Γ o os K Γ' hs _ ih =>
    obtain ⟨G, h0, hK, hG⟩ := ih
    refine ⟨fun j => if j = i then Γ else G j, by simp, ?_, fun j o' hj => ?_⟩
    · have e1 : i + (o :: os).length = i + 1 + os.length := by simp only [List.length_cons]; omega
      have e2 : ¬ (i + (o :: os).length = i) := by simp only [List.length_cons]; omega
      simp only [if_neg e2, e1]; rw [e1] at e2; simp only [if_neg e2]; exact hK
    · cases j with
      | zero =>
        simp only [List.getElem?_cons_zero, Option.some.injEq] at hj; subst hj
        have e : ¬ (i + 0 + 1 = i) := by omega
        simp only [Nat.add_zero, if_true] at e ⊢; rw [if_neg e, h0]; exact hs
      | succ j =>
        simp only [List.getElem?_cons_succ] at hj
        have := hG j o' hj
        have e1 : ¬ (i + (j + 1) = i) := by omega
        have e2 : ¬ (i + (j + 1) + 1 = i) := by omega
        simp only [if_neg e1, if_neg e2]
        rw [show i + (j + 1) = i + 1 + j by omega]; exact this
theorem StepG.dst' {Γ Γ' : Ctx} {M : Mem} {o : Oper} (h : StepG P E Γ M ops o Γ') : ∃ d ψ, o.dst = some d ∧ d < E.N ∧ Γ' = (d, ψ) :: Γ := by
  cases h with
  | plain _ _ h1 h2 => exact ⟨_, _, h1, h2, rfl⟩
  | guarded1 _ _ _ h1 h2 => exact ⟨_, _, h1, h2, rfl⟩
  | guarded0 _ _ _ h1 h2 => exact ⟨_, _, h1, h2, rfl⟩
  | guardedN _ _ _ h1 h2 => exact ⟨_, _, h1, h2, rfl⟩
  | guardedU _ _ h1 h2 => exact ⟨_, _, h1, h2, rfl⟩
theorem OpV.dst {M : Mem} {m : Nat} {ψm : σ → VT} {Ms : σ → Mem} {i : Nat} {Γ Γ' : σ → Ctx} {o : Oper} (h : OpV P E M ops m ψm Ms i Γ o Γ') (s0 : σ) : ∃ (d : Nat) (ψ : σ → VT), o.dst = some d ∧ d < E.N ∧ ∀ s, Γ' s = (d, ψ s) :: Γ s := by
  cases h with
  | @indep d ψ _ hs =>
    obtain ⟨d', ψ', h1, h2, h3⟩ := (hs s0 []).dst'
    simp only [List.cons.injEq, Prod.mk.injEq, and_true] at h3
    exact ⟨d, fun _ => ψ, by rw [h1, h3.1], by rw [h3.1]; exact h2, fun s => rfl⟩
  | @dep d ψ _ _ hs =>
    obtain ⟨d', ψ', h1, h2, h3⟩ := (hs s0 []).dst'
    simp only [List.cons.injEq, Prod.mk.injEq, and_true] at h3
    exact ⟨d, ψ, by rw [h1, h3.1], by rw [h3.1]; exact h2, fun s => rfl⟩
  | @call d f xs ats φs φs' ty pos af _ _ _ _ _ he hd => exact ⟨d, ψm, by rw [he], Nat.le_of_ble_eq_true hd, fun s => rfl⟩
theorem look_stepV {M : Mem} {m : Nat} {ψm : σ → VT} {Ms : σ → Mem} {G : Nat → σ → Ctx} (hG : ∀ j o, ops[j]? = some o → OpV P E M ops m ψm Ms j (G j) o (G (j + 1))) (s : σ) {t j : Nat} {o : Oper} (ho : ops[j]? = some o) (hno : dstOf ops j ≠ some t) : look (G (j + 1) s) t = look (G j s) t := by
  obtain ⟨d, ψ, hd, _, hΓ⟩ := (hG j o ho).dst s
  rw [hΓ, look_cons, if_neg]
  intro e; subst e; exact hno (by simp [dstOf, ho, hd])
theorem look_betweenV {M : Mem} {m : Nat} {ψm : σ → VT} {Ms : σ → Mem} {G : Nat → σ → Ctx} (hG : ∀ j o, ops[j]? = some o → OpV P E M ops m ψm Ms j (G j) o (G (j + 1))) (s : σ) {t i k : Nat} (hik : i ≤ k) (hk : k ≤ ops.size)
    (hno : ∀ j, i ≤ j → j < k → dstOf ops j ≠ some t) : look (G k s) t = look (G i s) t := by
  induction k with
  | zero => have : i = 0 := by omega
            subst this; rfl
  | succ k ih =>
    by_cases e : i = k + 1
    · subst e; rfl
    · have ho : ops[k]? = some ops[k] := by simp [show k < ops.size by omega]
      rw [look_stepV hG s ho (hno k (by omega) (by omega))]
      exact ih (by omega) (by omega) (fun j h1 h2 => hno j h1 (by omega))
theorem agreeV {M : Mem} {m : Nat} {ψm : σ → VT} {Ms : σ → Mem} {G : Nat → σ → Ctx} (hG : ∀ j o, ops[j]? = some o → OpV P E M ops m ψm Ms j (G j) o (G (j + 1))) {s s' : σ} (h0 : G 0 s = G 0 s') {l : Array Bool} (hl : Lst ops l) (hm : l.getD m false = false) :
    ∀ k, k ≤ ops.size → ∀ t, (∀ j, j < k → dstOf ops j = some t → l.getD j false = true) → look (G k s) t = look (G k s') t
  | 0, _, t, _ => by rw [h0]
  | k + 1, hk, t, hw => by
    have ho : ops[k]? = some ops[k] := by simp [show k < ops.size by omega]
    have ih := agreeV hG h0 hl hm k (by omega) t (fun j hj => hw j (by omega))
    have hop := hG k _ ho
    obtain ⟨d, ψ, hd, _, hΓ⟩ := hop.dst s
    have hdk : dstOf ops k = some d := by simp [dstOf, ho, hd]
    rw [hΓ s, hΓ s', look_cons, look_cons]
    by_cases e : d = t
    · rw [if_pos e, if_pos e]
      have hlk := hw k (by omega) (by rw [hdk, e])
      generalize hX : G (k + 1) = X at hop hΓ
      generalize hY : G k = Y at hop hΓ
      cases hop with
      | @indep d' ψ' hb hs =>
        have e1 := hΓ s
        have e2 := hΓ s'
        simp only [List.cons.injEq, Prod.mk.injEq, and_true] at e1 e2
        rw [← e1.2, ← e2.2]
      | @dep d' ψ' hb hp hs => have := clsT hl 6 k hlk m hp; rw [hm] at this; cases this
      | call hb _ _ _ _ _ _ => have := Nat.eq_of_beq_eq_true hb; subst this; rw [hm] at hlk; cases hlk
    · rw [if_neg e, if_neg e]; exact ih
theorem inv_put {E' : Env} {G G' : Nat → Ctx} {M : Mem} {l : Array Bool} {a : Act} {w w' : World} {i d : Nat} {v : Value} (hok : okAny ops.size ops = true) (hl : Lst ops l) (hd : d < a.tmps.size) (hi1 : i < ops.size) (hi2 : l.getD i false = false) (hdi : dstOf ops i = some d)
    (hbt : ∀ k t, i + 1 ≤ k → k ≤ ops.size → (∀ j, i + 1 ≤ j → j < k → dstOf ops j ≠ some t) → look (G' k) t = look (G' (i + 1)) t) (hself : ∀ φ, look (G' (i + 1)) d = some φ → φ.p v (hv E' M w'))
    (hag : ∀ k, k ≤ ops.size → ∀ t, (∀ j, j < k → dstOf ops j = some t → l.getD j false = true) → look (G' k) t = look (G k) t) (hle : Hp.le (hv E M w) (hv E' M w')) (hI : Inv E ops ops.size G M l a w) :
    Inv E' ops ops.size G' M (l.setIfInBounds i true) (a.put (some d) v) w' := by
  have hls := hl.size
  have hsame : ∀ j, j ≠ i → (l.setIfInBounds i true).getD j false = l.getD j false := fun j hj => by rw [getD_set (by omega), if_neg (fun e => hj e.symm)]
  have hself' : (l.setIfInBounds i true).getD i false = true := by rw [getD_set (by omega), if_pos rfl]
  intro k' hk' t φ hlk hlo hhi
  by_cases htd : d = t
  · subst htd
    have hik : i < k' := by
      rcases Nat.lt_or_ge i k' with h' | h'
      · exact h'
      · have := hhi i h' hi1 hdi; rw [hself'] at this; cases this
    have hno : ∀ j, i + 1 ≤ j → j < k' → dstOf ops j ≠ some d := by
      intro j h1 h2 hdj
      have h3 := hlo j h2 hdj
      rw [hsame j (by omega)] at h3
      rcases okAny_pre hok (i := i) (j := j) (by omega) (by omega) with hp | ⟨_, hp⟩
      · have := hl.closed j h3 i hp; rw [this] at hi2; cases hi2
      · rw [clash_dst hdi hdj] at hp; cases hp
    rw [hbt k' d (by omega) hk' hno] at hlk
    rw [getD_put_self hd]; exact hself φ hlk
  · rw [getD_put_ne htd]
    have hlo' : ∀ j, j < k' → dstOf ops j = some t → l.getD j false = true := fun j hj hdj => by
      have hji : j ≠ i := fun e => by subst e; rw [hdi] at hdj; cases hdj; exact htd rfl
      have := hlo j hj hdj; rwa [hsame j hji] at this
    rw [hag k' hk' t hlo'] at hlk
    refine φ.mono hle (hI k' hk' t φ hlk hlo' (fun j hj hjs hdj => ?_))
    have hji : j ≠ i := fun e => by subst e; rw [hdi] at hdj; cases hdj; exact htd rfl
    have := hhi j hj hjs hdj; rwa [hsame j hji] at this
theorem inv_names {G : Nat → Ctx} {M : Mem} {l : Array Bool} {a : Act} {w : World} (hI : Inv E ops ops.size G M l a w) (hok : okAny ops.size ops = true) (hl : Lst ops l)
    {i : Nat} {o : Oper} (ho : ops[i]? = some o) (hi2 : l.getD i false = false) (hi : i ∈ Region.ready .any ops l) :
    ∀ t φ, t ∈ namesO ops o → look (G i) t = some φ → φ.p (a.tmps.getD t undef) (hv E M w) := by
  have hi1 := ready_lt hi
  intro t φ ht hlk
  refine hI i (by omega) t φ hlk (fun j hj hdj => ?_) (fun j hj hjs hdj => ?_)
  · rcases okAny_pre hok hj hi1 with hp | ⟨_, hp⟩
    · exact ready_pred hi hp
    · rw [clash_name hdj (by simpa [namesOf, ho] using ht)] at hp; cases hp
  · rcases Nat.lt_or_ge i j with h' | h'
    · rw [← Bool.not_eq_true]; intro hlj
      rcases okAny_pre hok h' hjs with hp | ⟨_, hp⟩
      · have := hl.closed j hlj i hp; rw [this] at hi2; cases hi2
      · rw [clash_name' hdj (by simpa [namesOf, ho] using ht)] at hp; cases hp
    · have : j = i := by omega
      subst this; exact hi2
theorem hv_swap (E : Env) (N M : Mem) (w : World) : hv (E.hide (blks N)) M w = hv E (N ++ M) w := hid_congr (fun b => by
  simp only [Env.hide, blks_app, List.mem_append]
  constructor
  · rintro ((h | h) | h)
    · exact .inl h
    · exact .inr (.inl h)
    · exact .inr (.inr h)
  · rintro (h | h | h)
    · exact .inl (.inl h)
    · exact .inl (.inr h)
    · exact .inr h) _
theorem Base.swap {N M : Mem} {w : World} (h : Base E (N ++ M) w) : Base (E.hide (blks N)) M w := by
  have e := hv_swap E N M w
  have hnd := h.nd
  rw [blks_app, List.nodup_append] at hnd
  refine ⟨fun o ho => ?_, hnd.2.1, fun b hb hO => ?_, fun b hb => h.lo b (by rw [blks_app]; exact List.mem_append.2 (.inr hb)), fun b hb => ?_, h.fr⟩
  · have := h.mem o (List.mem_append.2 (.inr ho))
    rw [show hid (E.O ++ blks (N ++ M)) (view w) = hv (E.hide (blks N)) M w from e.symm] at this
    exact this
  · rcases List.mem_append.1 hO with h1 | h1
    · exact h.dis b (by rw [blks_app]; exact List.mem_append.2 (.inr hb)) h1
    · exact hnd.2.2 b h1 b hb rfl
  · refine h.ex b ?_
    rw [blks_app]
    simp only [Env.hide, List.mem_append] at hb ⊢
    rcases hb with (h1 | h1) | h1
    · exact .inl h1
    · exact .inr (.inl h1)
    · exact .inr (.inr h1)
theorem J_regM {D : List Deferred} {Γ : Ctx} {M : Mem} {id : Nat} {Q : Exit → Act → World → Prop} (m : Nat) (s0 : σ) (ψm : σ → VT) (Ms : σ → Mem) (hm : P.follows .mixedOrders = true) (hok : okAny ops.size ops = true) (hm1 : m < ops.size)
    (h : RunV P E M ops m ψm Ms 0 (fun _ => Γ) ops.toList (fun Γ' => ∀ s, PJ E D (Γ' s) (Ms s ++ M) .normal Q)) : J P E D Γ M (.region id ops true) Q := by
  intro a w hS
  refine reg_any_in hm ?_
  have k0 : Ext w { w with drawn := w.drawn + 1 } := ⟨rfl, rfl, rfl, Nat.le_refl _, fun _ _ => rfl⟩
  obtain ⟨G, hG0, hK, hG'⟩ := h.chain
  have hlen : ops.toList.length = ops.size := by simp
  rw [hlen, Nat.zero_add] at hK
  have hG : ∀ j o, ops[j]? = some o → OpV P E M ops m ψm Ms j (G j) o (G (j + 1)) := fun j o ho => by
    have := hG' j o (by simpa using ho)
    simpa using this
  have hl0 : ∀ j, (Array.replicate ops.size false).getD j false = false := fun j => by
    simp [Array.getD_eq_getD_getElem?, Array.getElem?_replicate]; split <;> rfl
  refine wpAny_inv (n := ops.size) hok (fun l a' w' => a'.tmps.size = E.N ∧ a'.defers = D ∧ ((l.getD m false = false ∧ Base E M w' ∧ Inv E ops ops.size (fun k => G k s0) M l a' w') ∨
      (l.getD m false = true ∧ ∃ s, Base E (Ms s ++ M) w' ∧ Inv (E.hide (blks (Ms s))) ops ops.size (fun k => G k s) M l a' w'))) ?_ ?_ ops.size _ a _ ⟨by simp, fun j hj => ?_⟩ ?_ ⟨hS.sz, hS.df, .inl ⟨hl0 m, hS.base.ext k0, ?_⟩⟩
  · rintro l a' w' ⟨hsz, hdf, ⟨h1, _⟩ | ⟨h1, s, hB, hI⟩⟩ hall
    · rw [hall m hm1] at h1; cases h1
    · refine hK s a' w' ⟨hB, hsz, hdf, fun t φ hlk => ?_⟩
      have := hI ops.size (Nat.le_refl _) t φ hlk (fun j hj _ => hall j hj) (fun j hj hjs _ => by omega)
      rwa [hv_swap] at this
  · rintro l a' w' i ⟨hsz, hdf, hph⟩ hl hi1 hi2 hi
    have hls := hl.size
    have ho : ops[i]? = some ops[i] := by simp [hi1]
    have hsame : ∀ j, j ≠ i → (l.setIfInBounds i true).getD j false = l.getD j false := fun j hj => by rw [getD_set (by omega), if_neg (fun e => hj e.symm)]
    have hself : (l.setIfInBounds i true).getD i false = true := by rw [getD_set (by omega), if_pos rfl]
    by_cases him : i = m
    · subst him
      rcases hph with ⟨h1, hB, hI⟩ | ⟨h1, _⟩
      · have hn := inv_names hI hok hl ho hi2 hi
        generalize hX : G (i + 1) = X
        generalize hY : G i = Y
        have hop := hG i _ ho
        have hX2 := hX
        have hY2 := hY
        rw [hX, hY] at hop
        cases hop with
        | indep hb _ => simp at hb
        | dep hb _ _ => simp at hb
        | @call d f xs ats φs φs' ty pos af _ hF hf hx hle he hd =>
          have hd1 := Nat.le_of_ble_eq_true hd
          have hdi : dstOf ops i = some d := by simp [dstOf, ho, he]
          have hp := evalL_p (a := a') (h := hv E M w') (hx s0) (fun x φ hx' he' => by
            cases x with
            | tmp t =>
              refine hn t φ ?_ (by show look (G i s0) t = some φ; rw [hY]; exact he')
              rw [he]
              refine List.mem_append.2 (.inl (List.mem_filterMap.2 ⟨.tmp t, ?_, rfl⟩))
              simp [Op.operands, Call.operands]; simpa using hx'
            | const v => cases he'; rfl
            | global g => cases he'; rfl
            | func f => cases he'; rfl)
          have hc := hf w' _ _ hB.ex (leAll_p hle hp)
          simp only [wpOp, ho, wanted_none (o := ops[i]) (by rw [he]), if_true]
          refine .inl ?_
          unfold Oper.wp
          have hr : (execOp a'.eval ops[i]).run P w' = .ok (.enter f (xs.toList.map a'.eval).toArray) w' := by
            have h0 : a'.eval (.func f) = .func (.func f) #[] #[] := rfl
            have h9 : (xs.map a'.eval) = (xs.toList.map a'.eval).toArray := by simp [← Array.toList_map]
            rw [he]; simp [execOp, resolve, Deferred.ofValue, invoke, h0, hF.run, h9]
          rw [hr]
          refine Calls.mono hc ?_
          rintro e w'' ⟨s, v, rfl, hv', hext, hmem, hnd, hb⟩
          have hdst : ops[i].dst = some d := by rw [he]
          rw [hdst]
          have hS0 : St E D [] M a' w' := ⟨hB, hsz, hdf, fun t φ h => by cases h⟩
          have hS1 := hS0.take hext hmem hnd (fun b h => ⟨(hb b h).1, (hb b h).2.1⟩) hd1 hv'
          have hle2 : Hp.le (hv E M w') (hv (E.hide (blks (Ms s))) M w'') := by
            rw [hv_swap]
            intro b x e
            obtain ⟨g1, g2⟩ := hid_some e
            refine hid_of ?_ (hext.view _ _ g2)
            intro h
            have hlt := view_lt g2
            rw [blks_app] at h
            rcases List.mem_append.1 h with h | h
            · exact g1 (List.mem_append.2 (.inl h))
            · rcases List.mem_append.1 h with h | h
              · have := (hb b h).1; omega
              · exact g1 (List.mem_append.2 (.inr h))
          refine ⟨by simp [Act.put, hsz], hdf, .inr ⟨hself, s, hS1.base, ?_⟩⟩
          refine inv_put (G := fun k => G k s0) hok hl (by rw [hsz]; exact hd1) hi1 hi2 hdi (fun k t h1 h2 h3 => look_betweenV hG s h1 h2 h3) (fun φ hlk => ?_) (fun k hk t hw => agreeV hG (by rw [hG0]) hl h1 k hk t hw) hle2 hI
          have hlk : look (G (i + 1) s) d = some φ := hlk
          rw [hX2, look_cons, if_pos rfl] at hlk
          cases hlk
          have := hS1.tm d (ψm s) (by rw [look_cons, if_pos rfl])
          rw [getD_put_self (by rw [hsz]; exact hd1)] at this
          rwa [hv_swap]
      · rw [h1] at hi2; cases hi2
    · have hmi : (l.setIfInBounds i true).getD m false = l.getD m false := hsame m (fun e => him e.symm)
      have pure : ∀ (s : σ) (B : List Nat), StepG P (E.hide B) (G i s) M ops ops[i] (G (i + 1) s) := by
        generalize hX : G (i + 1) = X
        generalize hY : G i = Y
        have hop := hG i _ ho
        rw [hX, hY] at hop
        cases hop with
        | indep hb hs => exact hs
        | dep hb hp hs => exact hs
        | call hb _ _ _ _ _ _ => exact absurd (Nat.eq_of_beq_eq_true hb) him
      rcases hph with ⟨h1, hB, hI⟩ | ⟨h1, s, hB, hI⟩
      · have hn := inv_names hI hok hl ho hi2 hi
        have e0 : E.hide [] = E := by cases E; simp [Env.hide]
        obtain ⟨d, ψ, hd, hN, hΓ, hrun⟩ := (pure s0 []).run ho
        rw [e0] at hrun hN
        have hdi : dstOf ops i = some d := by simp [dstOf, ho, hd]
        refine hrun a' w' hB hn _ _ fun v w'' k hv' => ⟨by simp [Act.put, hsz], hdf, .inl ⟨by rw [hmi]; exact h1, hB.ext k, ?_⟩⟩
        refine inv_put (G := fun k => G k s0) hok hl (by rw [hsz]; exact hN) hi1 hi2 hdi (fun k t h1 h2 h3 => look_betweenV hG s0 h1 h2 h3) (fun φ hlk => ?_) (fun _ _ _ _ => rfl) (Base.hv_ext k) hI
        have hlk : look (G (i + 1) s0) d = some φ := hlk
        rw [hΓ, look_cons, if_pos rfl] at hlk
        cases hlk; exact hv'
      · have hn := inv_names hI hok hl ho hi2 hi
        obtain ⟨d, ψ, hd, hN, hΓ, hrun⟩ := (pure s (blks (Ms s))).run ho
        have hdi : dstOf ops i = some d := by simp [dstOf, ho, hd]
        refine hrun a' w' hB.swap hn _ _ fun v w'' k hv' => ⟨by simp [Act.put, hsz], hdf, .inr ⟨by rw [hmi]; exact h1, s, hB.ext k, ?_⟩⟩
        refine inv_put (G := fun k => G k s) hok hl (by rw [hsz]; exact hN) hi1 hi2 hdi (fun k t h1 h2 h3 => look_betweenV hG s h1 h2 h3) (fun φ hlk => ?_) (fun _ _ _ _ => rfl) (Base.hv_ext k) hI
        have hlk : look (G (i + 1) s) d = some φ := hlk
        rw [hΓ, look_cons, if_pos rfl] at hlk
        cases hlk; exact hv'
  · rw [hl0] at hj; cases hj
  · unfold left; refine Nat.le_trans (List.length_filter_le _ _) (by simp)
  · intro k' hk' t φ hlk hlo _
    have hno : ∀ j, 0 ≤ j → j < k' → dstOf ops j ≠ some t := by
      intro j _ hj hd
      have := hlo j hj hd
      rw [hl0] at this; cases this
    have hlk : look (G k' s0) t = some φ := hlk
    rw [look_betweenV hG s0 (Nat.zero_le _) hk' hno, hG0] at hlk
    exact φ.mono (Base.hv_ext k0) (hS.tm t φ hlk)
section
variable {M : Mem} {m : Nat} {ψm : σ → VT} {Ms : σ → Mem} {i : Nat} {Γ : σ → Ctx} {os : List Oper} {K : (σ → Ctx) → Prop} {op : Op} {ty : TypeId} {pos : String} {af : Array Edge}
theorem vx {d : Nat} {ψ : VT} (hi : Nat.beq i m = false) (h : ∀ s B, StepO P (E.hide B) (Γ s) M ⟨some d, op, ty, pos, af, none⟩ ψ) (hd : Nat.ble (d + 1) E.N = true) (hr : RunV P E M ops m ψm Ms (i + 1) (fun s => (d, ψ) :: Γ s) os K) :
    RunV P E M ops m ψm Ms i Γ (⟨some d, op, ty, pos, af, none⟩ :: os) K := .step (.indep hi (fun s B => .plain (h s B) rfl rfl (Nat.le_of_ble_eq_true hd))) hr
theorem vd {d : Nat} {ψ : σ → VT} (hi : Nat.beq i m = false) (hp : predN 6 ops m i = true) (h : ∀ s B, StepO P (E.hide B) (Γ s) M ⟨some d, op, ty, pos, af, none⟩ (ψ s)) (hd : Nat.ble (d + 1) E.N = true) (hr : RunV P E M ops m ψm Ms (i + 1) (fun s => (d, ψ s) :: Γ s) os K) :
    RunV P E M ops m ψm Ms i Γ (⟨some d, op, ty, pos, af, none⟩ :: os) K := .step (.dep hi hp (fun s B => .plain (h s B) rfl rfl (Nat.le_of_ble_eq_true hd))) hr
theorem vc {d : Nat} {f : FuncId} [hF : Fn P f] {xs : Array Operand} {ats : Array TypeId} {φs φs' : List VT} (hi : Nat.beq i m = true) (h : OkM P f φs' ψm Ms) (hx : ∀ s, evalL (Γ s) xs.toList = some φs) (hle : leAll φs φs') (hd : Nat.ble (d + 1) E.N = true)
    (hr : RunV P E M ops m ψm Ms (i + 1) (fun s => (d, ψm s) :: Γ s) os K) : RunV P E M ops m ψm Ms i Γ (⟨some d, .call ⟨.value (.func f), xs, ats⟩, ty, pos, af, none⟩ :: os) K := .step (.call hi hF h hx hle rfl hd) hr
end
end
theorem s_and1 {P : Program} {E : Env} {Γ : Ctx} {M : Mem} {d : Option Tmp} {ty : TypeId} {pos : String} {af : Array Edge} {gd : Option (Nat × Bool)} {T T' : TypeId} {x : Operand} {a : Nat} (hx : evalT Γ x = some (one (.int .u64 (a : Int)))) (ha : a < 18446744073709551616) :
    StepO P E Γ M ⟨d, .binOp .and T x (.const (.int .u64 1)) T', ty, pos, af, gd⟩ (one (.int .u64 ((a % 2 : Nat) : Int))) :=
  s_and hx rfl (by
    have h : (BitVec.ofInt IntKind.u64.bits (a : Int) &&& BitVec.ofInt IntKind.u64.bits (1 : Int)).toNat = a % 2 := by
      have e0 : (1 : Int) = ((1 : Nat) : Int) := rfl
      rw [BitVec.toNat_and, e0, BitVec.ofInt_natCast, BitVec.ofInt_natCast, BitVec.toNat_ofNat, BitVec.toNat_ofNat]
      have e : 2 ^ IntKind.u64.bits = 18446744073709551616 := rfl
      rw [e, Nat.mod_eq_of_lt ha]
      exact Nat.and_two_pow_sub_one_eq_mod a 1
    rw [h, wrap_u64]; omega)
theorem s_indexAF {P : Program} {E : Env} {Γ : Ctx} {M : Mem} {d : Option Tmp} {ty : TypeId} {pos : String} {af : Array Edge} {gd : Option (Nat × Bool)} {T e : TypeId} {n m : Nat} {L : Lay} [hA : ArrayOf P T n e] [hL : LayOf P e L] {x y : Operand} {cs : Comps} (F : Nat → VT) {k : IntKind} {j : Nat}
    (hx : evalT Γ x = some (aggT m cs)) (hy : evalT Γ y = some (one (.int k (j : Int)))) (hj : j < n) (hl : ∀ j, j < n → lookC cs (j * L.sz) = some (L, F j)) : StepO P E Γ M ⟨d, .index T x y, ty, pos, af, gd⟩ (F j) := s_indexA hx hy hj (hl j hj)
theorem s_subC {P : Program} {E : Env} {Γ : Ctx} {M : Mem} {d : Option Tmp} {ty : TypeId} {pos : String} {af : Array Edge} {gd : Option (Nat × Bool)} {T T' : TypeId} {x y : Operand} {a : Nat} (b : Nat) (hx : evalT Γ x = some (one (.int .u64 (a : Int)))) (hy : evalT Γ y = some (one (.int .u64 (b : Int)))) (h : b ≤ a) (h2 : a < 18446744073709551616) :
    StepO P E Γ M ⟨d, .binOp .sub T x y T', ty, pos, af, gd⟩ (one (.int .u64 ((a - b : Nat) : Int))) := s_sub hx hy (by rw [wrap_u64]; omega)
end Tor
end
