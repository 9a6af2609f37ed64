/-
  Rules for the operations that make no more than new memory.
  No condition: general theorems over any program.
-/
import Derived.Test.YtmpnikllhpagcaaFw3
set_option linter.unusedVariables false
set_option linter.unusedSimpArgs false
set_option linter.unusedSectionVars false
namespace Tor
open Go Go.RowKit

section
variable {P : Program} {E : Env} {Γ : Ctx} {M : Mem} {d : Option Tmp} {ty : TypeId} {pos : String} {af : Array Edge} {gd : Option (Nat × Bool)}

theorem StepO.ofRun' {o : Oper} {ψ : VT} (h : ∀ (a : Act) (w : World), Base E M w → (∀ x φ, x ∈ o.op.operands → evalT Γ x = some φ → φ.p (a.eval x) (hv E M w)) →
    ∃ v w', (execOp a.eval o).run P w = .ok (.value v) w' ∧ Ext w w' ∧ ψ.p v (hv E M w')) : StepO P E Γ M o ψ := by
  intro a w hb hf next Q hn
  obtain ⟨v, w', hr, he, hp⟩ := h a w hb hf
  unfold Oper.wp; rw [hr]; exact hn v w' he hp
theorem StepO.ofRun {o : Oper} {ψ : VT} (h : ∀ (a : Act) (w : World), Base E M w → (∀ x φ, x ∈ o.op.operands → evalT Γ x = some φ → φ.p (a.eval x) (hv E M w)) →
    ∃ v, (execOp a.eval o).run P w = .ok (.value v) w ∧ ψ.p v (hv E M w)) : StepO P E Γ M o ψ :=
  StepO.ofRun' fun a w hb hf => let ⟨v, hr, hp⟩ := h a w hb hf; ⟨v, w, hr, Ext.refl w, hp⟩

theorem s_move {x : Operand} {φ : VT} (hx : evalT Γ x = some φ) : StepO P E Γ M ⟨d, .move x, ty, pos, af, gd⟩ φ :=
  StepO.ofRun fun a w hb hf => ⟨a.eval x, by simp [execOp], hf x φ (by simp [Op.operands]) hx⟩
theorem s_assign {x : Operand} {φ : VT} (hx : evalT Γ x = some φ) : StepO P E Γ M ⟨d, .assign x, ty, pos, af, gd⟩ φ :=
  StepO.ofRun fun a w hb hf => ⟨a.eval x, by simp [execOp], hf x φ (by simp [Op.operands]) hx⟩
theorem s_nilCheckP {x : Operand} {a : Addr} (hx : evalT Γ x = some (one (.pointer (some a)))) : StepO P E Γ M ⟨d, .nilCheck x, ty, pos, af, gd⟩ (one (.pointer (some a))) :=
  StepO.ofRun fun ac w hb hf => by
    have h1 : ac.eval x = .pointer (some a) := hf x _ (by simp [Op.operands]) hx
    exact ⟨_, by simp [execOp, h1], rfl⟩
theorem s_nilCheckI {x : Operand} {L : Lay} {φ : VT} (hx : evalT Γ x = some (ptrT L φ)) : StepO P E Γ M ⟨d, .nilCheck x, ty, pos, af, gd⟩ (ptrT L φ) :=
  StepO.ofRun fun ac w hb hf => by
    have h1 := hf x _ (by simp [Op.operands]) hx
    refine ⟨ac.eval x, ?_, h1⟩
    obtain ⟨b, o, c, T, f, y, h2, _⟩ := h1
    simp [execOp, h2]
theorem s_nilCheckF {x : Operand} {f : FuncId} {fi ca : Array Value} (hx : evalT Γ x = some (one (.func (.func f) fi ca))) : StepO P E Γ M ⟨d, .nilCheck x, ty, pos, af, gd⟩ (one (.func (.func f) fi ca)) :=
  StepO.ofRun fun ac w hb hf => by
    have h1 : ac.eval x = .func (.func f) fi ca := hf x _ (by simp [Op.operands]) hx
    exact ⟨_, by simp [execOp, h1], rfl⟩

/-! ### Loads -/
theorem s_load {T : TypeId} {L : Lay} [LayOf P T L] {x : Operand} {φ : VT} (hx : evalT Γ x = some (ptrT L φ)) : StepO P E Γ M ⟨d, .load T x, ty, pos, af, gd⟩ φ :=
  StepO.ofRun fun a w hb hf => by
    obtain ⟨b, o, c, T', f, v, hv', hc, hx', hp⟩ := hf x _ (by simp [Op.operands]) hx
    refine ⟨v, ?_, hp⟩
    simp only [execOp, hv', Instr.loadAt, Instr.sureAddr, Sem.run_bind, Sem.run_pure, Result.andThen_ok, run_loadVar' (hid_le _ _ _ _ hc) hx']

/-- A pointer to the place j of an own row. -/
def eP (b j sz : Nat) : VT := one (.pointer (some ⟨b, j * sz, none⟩))

theorem own_get {M : Mem} {w : World} (hb : Base E M w) {i : Nat} {o : Own} (hM : M[i]? = some o) : o.p (view w) (hv E M w) := hb.mem o (List.mem_of_getElem? hM)

theorem s_loadE {T T' : TypeId} {L : Lay} [LayOf P T L] {x : Operand} {b j cap n : Nat} {φ : Nat → VT} (i : Nat) (hx : evalT Γ x = some (eP b j L.sz)) (hM : M[i]? = some (sliO (some b) T' L cap n φ)) (hj : j < n) :
    StepO P E Γ M ⟨d, .load T x, ty, pos, af, gd⟩ (φ j) :=
  StepO.ofRun fun a w hb hf => by
    have h1 : a.eval x = .pointer (some ⟨b, j * L.sz, none⟩) := hf x _ (by simp [Op.operands]) hx
    obtain ⟨_, _, _, h4⟩ := own_get hb hM
    obtain ⟨c, hc, _, he⟩ := h4 b rfl
    obtain ⟨v, hx', hp⟩ := he j hj
    refine ⟨v, ?_, hp⟩
    simp only [execOp, h1, Instr.loadAt, Instr.sureAddr, Sem.run_bind, Sem.run_pure, Result.andThen_ok, run_loadVar' hc hx']

def lookC : Comps → Nat → Option (Lay × VT)
  | [], _ => none
  | (k, l, v) :: r, t => bif Nat.beq k t then some (l, v) else lookC r t
theorem lookC_mem : ∀ {cs : Comps} {t : Nat} {l : Lay} {v : VT}, lookC cs t = some (l, v) → (t, l, v) ∈ cs
  | [], _, _, _, h => by cases h
  | (k, l', v') :: r, t, l, v, h => by
    rw [lookC] at h
    by_cases e : Nat.beq k t = true
    · rw [e] at h; simp only [cond_true, Option.some.injEq, Prod.mk.injEq] at h
      have := Nat.eq_of_beq_eq_true e; subst this; rw [h.1, h.2]; exact List.mem_cons_self
    · have e' : Nat.beq k t = false := by cases h' : Nat.beq k t with | true => exact absurd h' e | false => rfl
      rw [e'] at h; exact List.mem_cons_of_mem _ (lookC_mem h)

theorem s_loadB {T T' : TypeId} {L : Lay} [LayOf P T L] {x : Operand} {b o m : Nat} {cs : Comps} {φ : VT} (i : Nat) (hx : evalT Γ x = some (one (.pointer (some ⟨b, o, none⟩)))) (hM : M[i]? = some (boxO b T' m cs)) (hl : lookC cs o = some (L, φ)) :
    StepO P E Γ M ⟨d, .load T x, ty, pos, af, gd⟩ φ :=
  StepO.ofRun fun a w hb hf => by
    have h1 : a.eval x = .pointer (some ⟨b, o, none⟩) := hf x _ (by simp [Op.operands]) hx
    obtain ⟨c, hc, _, _, hcs⟩ := own_get hb hM
    obtain ⟨v, hx', hp⟩ := hcs _ (lookC_mem hl)
    refine ⟨v, ?_, hp⟩
    simp only [execOp, h1, Instr.loadAt, Instr.sureAddr, Sem.run_bind, Sem.run_pure, Result.andThen_ok, run_loadVar' hc hx']
theorem extract_all (c : Array Value) : c.extract 0 c.size = c := by simp
theorem s_loadW {T T' : TypeId} {m : Nat} [LayOf P T (.agg m)] {x : Operand} {b : Nat} {cs : Comps} (i : Nat) (hx : evalT Γ x = some (one (.pointer (some ⟨b, 0, none⟩)))) (hM : M[i]? = some (boxO b T' m cs)) :
    StepO P E Γ M ⟨d, .load T x, ty, pos, af, gd⟩ (aggT m cs) :=
  StepO.ofRun fun a w hb hf => by
    have h1 : a.eval x = .pointer (some ⟨b, 0, none⟩) := hf x _ (by simp [Op.operands]) hx
    obtain ⟨c, hc, hs, ha, hcs⟩ := own_get hb hM
    refine ⟨.agg c, ?_, c, rfl, hs, ha, hcs⟩
    have hx' : valAt (.agg m) c 0 = some (.agg c) := by simp [valAt, ← hs]
    simp only [execOp, h1, Instr.loadAt, Instr.sureAddr, Sem.run_bind, Sem.run_pure, Result.andThen_ok, run_loadVar' hc hx']

/-! ### Fields -/
theorem run_fieldAt {T : TypeId} {i off : Nat} {L : Lay} (h : FieldOf P T i off L) {b o : Nat} (w : World) : (Instr.fieldAt T (.pointer (some ⟨b, o, none⟩)) i).run P w = .ok (.pointer (some ⟨b, o + off, none⟩)) w := by
  obtain ⟨fs, f, h1, h2, h3, h4, h5⟩ := h.ex
  have hs : (Go.sizeOf f.type).run P w = .ok L.sz w := run_sizeOf' w
  unfold Instr.fieldAt
  rw [Sem.run_bind, run_underlying' h1]
  simp only [Result.andThen_ok, h2, Instr.sureAddr, Sem.run_bind, Sem.run_pure, fieldPlace, hs, h5, if_false, addr_add, h3]
theorem s_fieldAddr {T : TypeId} {fi off : Nat} {L : Lay} [hF : FieldOf P T fi off L] {x : Operand} {b o : Nat} (hx : evalT Γ x = some (one (.pointer (some ⟨b, o, none⟩)))) :
    StepO P E Γ M ⟨d, .fieldAddr T x fi, ty, pos, af, gd⟩ (one (.pointer (some ⟨b, o + off, none⟩))) :=
  StepO.ofRun fun a w hb hf => by
    have h1 : a.eval x = .pointer (some ⟨b, o, none⟩) := hf x _ (by simp [Op.operands]) hx
    refine ⟨_, ?_, rfl⟩
    simp only [execOp, h1, Sem.run_bind, run_fieldAt hF, Result.andThen_ok, Sem.run_pure]
theorem s_fieldI {T : TypeId} {fi off m : Nat} {L : Lay} [hF : FieldOf P T fi off L] {x : Operand} {cs : Comps} {φ : VT} (hx : evalT Γ x = some (ptrT (.agg m) (aggT m cs))) (hl : lookC cs off = some (L, φ)) :
    StepO P E Γ M ⟨d, .fieldAddr T x fi, ty, pos, af, gd⟩ (ptrT L φ) :=
  StepO.ofRun fun a w hb hf => by
    obtain ⟨b, o, c, T', f, v, hv', hc, hx', c', rfl, hs, ha, hcs⟩ := hf x _ (by simp [Op.operands]) hx
    obtain ⟨y, hy, hp⟩ := hcs _ (lookC_mem hl)
    refine ⟨.pointer (some ⟨b, o + off, none⟩), ?_, b, o + off, c, T', f, y, rfl, hc, ?_, hp⟩
    · simp only [execOp, hv', Sem.run_bind, run_fieldAt hF, Result.andThen_ok, Sem.run_pure]
    · simp only [valAt] at hx'
      split at hx'
      · rename_i hle
        simp only [Option.some.injEq, Value.agg.injEq] at hx'
        subst hx'
        simp at hs
        cases L with
        | one => simp only [valAt] at hy ⊢; rw [extract_at] at hy; split at hy
                 · exact hy
                 · cases hy
        | agg q =>
          simp only [valAt, Array.size_extract] at hy ⊢
          split at hy
          · rename_i h2; rw [if_pos (by omega), ← hy]; congr 2
            apply Array.ext_getElem?; intro i
            rw [extract_at, extract_at]; split
            · rw [extract_at, if_pos (by omega)]; congr 1; omega
            · rfl
          · cases hy
      · cases hx'
theorem run_part {T : TypeId} {L : Lay} [h : LayOf P T L] {c : Array Value} {o : Nat} {x : Value} (hx : valAt L c o = some x) (w : World) : (part T c o).run P w = .ok x w := by
  unfold part
  rw [Sem.run_bind, run_isAgg (L := L)]
  cases L with
  | one => simp only [valAt] at hx; simp [Lay.isAgg, hx]
  | agg n =>
    simp only [valAt] at hx
    split at hx
    · cases hx; simp only [Lay.isAgg, Result.andThen_ok, if_true, Sem.run_bind, run_sizeOf' (L := .agg n), Lay.sz, Sem.run_pure]
    · cases hx
theorem s_field {T : TypeId} {fi off m : Nat} {L : Lay} [hF : FieldOf P T fi off L] {x : Operand} {cs : Comps} {φ : VT} (hx : evalT Γ x = some (aggT m cs)) (hl : lookC cs off = some (L, φ)) :
    StepO P E Γ M ⟨d, .field T x fi, ty, pos, af, gd⟩ φ :=
  StepO.ofRun fun a w hb hf => by
    obtain ⟨c, hv', hs, ha, hcs⟩ := hf x _ (by simp [Op.operands]) hx
    obtain ⟨y, hy, hp⟩ := hcs _ (lookC_mem hl)
    obtain ⟨fs, f, h1, h2, h3, h4, h5⟩ := hF.ex
    subst h3
    refine ⟨y, ?_, hp⟩
    have h6 := run_part (P := P) (T := f.type) hy w
    simp only [execOp, hv', Instr.field, Sem.run_bind, run_underlying' h1, Result.andThen_ok, h2, asAgg, Sem.run_pure, h6]
theorem tupP_get : ∀ {φs : List VT} {vs : List Value} {h : Hp} {i : Nat} {φ : VT}, tupP φs vs h → φs[i]? = some φ → ∃ v, vs[i]? = some v ∧ φ.p v h
  | [], [], _, _, _, _, e => by simp at e
  | φ :: φs, v :: vs, h, 0, ψ, ⟨a, _⟩, e => by simp at e; subst e; exact ⟨v, rfl, a⟩
  | φ :: φs, v :: vs, h, i + 1, ψ, ⟨_, b⟩, e => by simp at e; obtain ⟨u, h1, h2⟩ := tupP_get b e; exact ⟨u, by simpa using h1, h2⟩
theorem s_extract {x : Operand} {i : Nat} {φs : List VT} {φ : VT} (hx : evalT Γ x = some (tupT φs)) (hi : φs[i]? = some φ) : StepO P E Γ M ⟨d, .extract x i, ty, pos, af, gd⟩ φ :=
  StepO.ofRun fun a w hb hf => by
    obtain ⟨vs, hv', hp⟩ := hf x _ (by simp [Op.operands]) hx
    obtain ⟨v, h1, h2⟩ := tupP_get hp hi
    exact ⟨v, by simp [execOp, hv', Instr.extract, h1], h2⟩

/-! ### Elements -/
theorem s_indexI {T e : TypeId} {L : Lay} [hS : SliceOf P T e] [hL : LayOf P e L] {x y : Operand} {n : Nat} {φ : Nat → VT} {k : IntKind} {iv : Int} (hx : evalT Γ x = some (slT L n φ)) (hy : evalT Γ y = some (one (.int k iv)))
    (h0 : 0 ≤ iv) (h1 : iv < n) : StepO P E Γ M ⟨d, .indexAddr T x y, ty, pos, af, gd⟩ (ptrT L (φ iv.toNat)) :=
  StepO.ofRun fun a w hb hf => by
    obtain ⟨ad, cap, hv', _, _, he⟩ := hf x _ (by simp [Op.operands]) hx
    have hy' : a.eval y = .int k iv := hf y _ (by simp [Op.operands]) hy
    obtain ⟨b, o, c, T', f, v, h2, h3, h4, h5⟩ := he iv.toNat (by omega)
    refine ⟨.pointer (some ⟨b, o + iv.toNat * L.sz, none⟩), ?_, b, _, c, T', f, v, rfl, h3, h4, h5⟩
    have hi : 0 ≤ iv ∧ iv < (n : Int) := ⟨h0, h1⟩
    simp [execOp, hv', hy', Instr.indexAt, asIntOf, run_underlying' hS.und, h2, hi, run_sizeOf' (L := L), addr_add]
theorem s_indexO {T e : TypeId} {L : Lay} [hS : SliceOf P T e] [hL : LayOf P e L] {x y : Operand} {b n cap : Nat} {k : IntKind} {iv : Int} (hx : evalT Γ x = some (one (slV (some b) n cap))) (hy : evalT Γ y = some (one (.int k iv)))
    (h0 : 0 ≤ iv) (h1 : iv < n) : StepO P E Γ M ⟨d, .indexAddr T x y, ty, pos, af, gd⟩ (eP b iv.toNat L.sz) :=
  StepO.ofRun fun a w hb hf => by
    have hx' : a.eval x = .slice (some ⟨b, 0, none⟩) n cap := hf x _ (by simp [Op.operands]) hx
    have hy' : a.eval y = .int k iv := hf y _ (by simp [Op.operands]) hy
    refine ⟨.pointer (some ⟨b, iv.toNat * L.sz, none⟩), ?_, rfl⟩
    have hi : 0 ≤ iv ∧ iv < (n : Int) := ⟨h0, h1⟩
    simp [execOp, hx', hy', Instr.indexAt, asIntOf, run_underlying' hS.und, hi, run_sizeOf' (L := L), addr_add]
theorem s_indexIN {T e : TypeId} {L : Lay} [hS : SliceOf P T e] [hL : LayOf P e L] {x y : Operand} {n j : Nat} {φ : Nat → VT} {k : IntKind} (hx : evalT Γ x = some (slT L n φ)) (hy : evalT Γ y = some (one (.int k (j : Int))))
    (h1 : j < n) : StepO P E Γ M ⟨d, .indexAddr T x y, ty, pos, af, gd⟩ (ptrT L (φ j)) := by
  have := s_indexI (P := P) (e := e) (E := E) (M := M) (d := d) (ty := ty) (pos := pos) (af := af) (gd := gd) (L := L) (T := T) hx hy (by omega) (by omega)
  rwa [Int.toNat_natCast] at this
theorem s_indexON {T e : TypeId} {L : Lay} [hS : SliceOf P T e] [hL : LayOf P e L] {x y : Operand} {b n cap j : Nat} {k : IntKind} (hx : evalT Γ x = some (one (slV (some b) n cap))) (hy : evalT Γ y = some (one (.int k (j : Int))))
    (h1 : j < n) : StepO P E Γ M ⟨d, .indexAddr T x y, ty, pos, af, gd⟩ (eP b j L.sz) := by
  have := s_indexO (P := P) (e := e) (E := E) (M := M) (d := d) (ty := ty) (pos := pos) (af := af) (gd := gd) (L := L) (T := T) hx hy (by omega) (by omega)
  rwa [Int.toNat_natCast] at this
theorem s_len {T e : TypeId} [hS : SliceOf P T e] {x : Operand} {L : Lay} {n : Nat} {φ : Nat → VT} (hx : evalT Γ x = some (slT L n φ)) :
    StepO P E Γ M ⟨d, .call ⟨.builtin .len, #[x], #[T]⟩, ty, pos, af, gd⟩ (one (.int .i64 n)) :=
  StepO.ofRun fun a w hb hf => by
    obtain ⟨ad, cap, hv', _⟩ := hf x _ (by simp [Op.operands, Call.operands]) hx
    refine ⟨_, ?_, rfl⟩
    simp [execOp, resolve, invoke, builtin, Builtin.len_, hv', run_underlying' hS.und, goInt]
theorem s_lenO {T e : TypeId} [hS : SliceOf P T e] {x : Operand} {sv : Option Nat} {n cap : Nat} (hx : evalT Γ x = some (one (slV sv n cap))) :
    StepO P E Γ M ⟨d, .call ⟨.builtin .len, #[x], #[T]⟩, ty, pos, af, gd⟩ (one (.int .i64 n)) :=
  StepO.ofRun fun a w hb hf => by
    have hx' : a.eval x = slV sv n cap := hf x _ (by simp [Op.operands, Call.operands]) hx
    refine ⟨_, ?_, rfl⟩
    simp [execOp, resolve, invoke, builtin, Builtin.len_, hx', slV, run_underlying' hS.und, goInt]
theorem s_lenN {T e : TypeId} [hS : SliceOf P T e] {x : Operand} {a0 : Option Addr} {n cap : Nat} (hx : evalT Γ x = some (one (.slice a0 n cap))) :
    StepO P E Γ M ⟨d, .call ⟨.builtin .len, #[x], #[T]⟩, ty, pos, af, gd⟩ (one (.int .i64 n)) :=
  StepO.ofRun fun a w hb hf => by
    have hx' : a.eval x = .slice a0 n cap := hf x _ (by simp [Op.operands, Call.operands]) hx
    refine ⟨_, ?_, rfl⟩
    simp [execOp, resolve, invoke, builtin, Builtin.len_, hx', slV, run_underlying' hS.und, goInt]

/-! ### Numbers -/
theorem s_add {T T' : TypeId} {x y : Operand} {k : IntKind} {a b r : Int} (hx : evalT Γ x = some (one (.int k a))) (hy : evalT Γ y = some (one (.int k b))) (hr : k.wrap (a + b) = r) :
    StepO P E Γ M ⟨d, .binOp .add T x y T', ty, pos, af, gd⟩ (one (.int k r)) :=
  StepO.ofRun fun ac w hb hf => by
    have hx' : ac.eval x = .int k a := hf x _ (by simp [Op.operands]) hx
    have hy' : ac.eval y = .int k b := hf y _ (by simp [Op.operands]) hy
    exact ⟨_, by simp [execOp, hx', hy', eqGuard, binOp, Op.intArith, hr], rfl⟩
theorem s_sub {T T' : TypeId} {x y : Operand} {k : IntKind} {a b r : Int} (hx : evalT Γ x = some (one (.int k a))) (hy : evalT Γ y = some (one (.int k b))) (hr : k.wrap (a - b) = r) :
    StepO P E Γ M ⟨d, .binOp .sub T x y T', ty, pos, af, gd⟩ (one (.int k r)) :=
  StepO.ofRun fun ac w hb hf => by
    have hx' : ac.eval x = .int k a := hf x _ (by simp [Op.operands]) hx
    have hy' : ac.eval y = .int k b := hf y _ (by simp [Op.operands]) hy
    exact ⟨_, by simp [execOp, hx', hy', eqGuard, binOp, Op.intArith, hr], rfl⟩
theorem s_mul {T T' : TypeId} {x y : Operand} {k : IntKind} {a b r : Int} (hx : evalT Γ x = some (one (.int k a))) (hy : evalT Γ y = some (one (.int k b))) (hr : k.wrap (a * b) = r) :
    StepO P E Γ M ⟨d, .binOp .mul T x y T', ty, pos, af, gd⟩ (one (.int k r)) :=
  StepO.ofRun fun ac w hb hf => by
    have hx' : ac.eval x = .int k a := hf x _ (by simp [Op.operands]) hx
    have hy' : ac.eval y = .int k b := hf y _ (by simp [Op.operands]) hy
    exact ⟨_, by simp [execOp, hx', hy', eqGuard, binOp, Op.intArith, hr], rfl⟩
theorem s_quo {T T' : TypeId} {x y : Operand} {k : IntKind} {a b r : Int} (hx : evalT Γ x = some (one (.int k a))) (hy : evalT Γ y = some (one (.int k b))) (h0 : b ≠ 0) (hr : k.wrap (a.tdiv b) = r) :
    StepO P E Γ M ⟨d, .binOp .quo T x y T', ty, pos, af, gd⟩ (one (.int k r)) :=
  StepO.ofRun fun ac w hb hf => by
    have hx' : ac.eval x = .int k a := hf x _ (by simp [Op.operands]) hx
    have hy' : ac.eval y = .int k b := hf y _ (by simp [Op.operands]) hy
    exact ⟨_, by simp [execOp, hx', hy', eqGuard, binOp, Op.intDiv, h0, hr], rfl⟩
theorem s_rem {T T' : TypeId} {x y : Operand} {k : IntKind} {a b r : Int} (hx : evalT Γ x = some (one (.int k a))) (hy : evalT Γ y = some (one (.int k b))) (h0 : b ≠ 0) (hr : a.tmod b = r) :
    StepO P E Γ M ⟨d, .binOp .rem T x y T', ty, pos, af, gd⟩ (one (.int k r)) :=
  StepO.ofRun fun ac w hb hf => by
    have hx' : ac.eval x = .int k a := hf x _ (by simp [Op.operands]) hx
    have hy' : ac.eval y = .int k b := hf y _ (by simp [Op.operands]) hy
    exact ⟨_, by simp [execOp, hx', hy', eqGuard, binOp, Op.intDiv, h0, hr], rfl⟩
theorem s_and {T T' : TypeId} {x y : Operand} {k : IntKind} {a b r : Int} (hx : evalT Γ x = some (one (.int k a))) (hy : evalT Γ y = some (one (.int k b))) (hr : k.wrap ((BitVec.ofInt k.bits a &&& BitVec.ofInt k.bits b).toNat : Int) = r) :
    StepO P E Γ M ⟨d, .binOp .and T x y T', ty, pos, af, gd⟩ (one (.int k r)) :=
  StepO.ofRun fun ac w hb hf => by
    have hx' : ac.eval x = .int k a := hf x _ (by simp [Op.operands]) hx
    have hy' : ac.eval y = .int k b := hf y _ (by simp [Op.operands]) hy
    exact ⟨.int k r, by rw [← hr]; simp [execOp, hx', hy', eqGuard, binOp, Op.intBits], rfl⟩
theorem s_or {T T' : TypeId} {x y : Operand} {k : IntKind} {a b r : Int} (hx : evalT Γ x = some (one (.int k a))) (hy : evalT Γ y = some (one (.int k b))) (hr : k.wrap ((BitVec.ofInt k.bits a ||| BitVec.ofInt k.bits b).toNat : Int) = r) :
    StepO P E Γ M ⟨d, .binOp .or T x y T', ty, pos, af, gd⟩ (one (.int k r)) :=
  StepO.ofRun fun ac w hb hf => by
    have hx' : ac.eval x = .int k a := hf x _ (by simp [Op.operands]) hx
    have hy' : ac.eval y = .int k b := hf y _ (by simp [Op.operands]) hy
    exact ⟨.int k r, by rw [← hr]; simp [execOp, hx', hy', eqGuard, binOp, Op.intBits], rfl⟩
theorem s_shl {T T' : TypeId} {x y : Operand} {k k' : IntKind} {a b r : Int} (hx : evalT Γ x = some (one (.int k a))) (hy : evalT Γ y = some (one (.int k' b))) (h0 : 0 ≤ b) (hr : k.wrap (a * 2 ^ (min b.toNat k.bits)) = r) :
    StepO P E Γ M ⟨d, .binOp .shl T x y T', ty, pos, af, gd⟩ (one (.int k r)) :=
  StepO.ofRun fun ac w hb hf => by
    have hx' : ac.eval x = .int k a := hf x _ (by simp [Op.operands]) hx
    have hy' : ac.eval y = .int k' b := hf y _ (by simp [Op.operands]) hy
    have h1 : ¬ b < 0 := by omega
    exact ⟨_, by simp [execOp, hx', hy', eqGuard, binOp, Op.shift, h1, hr], rfl⟩
theorem s_shr {T T' : TypeId} {x y : Operand} {k k' : IntKind} {a b r : Int} (hx : evalT Γ x = some (one (.int k a))) (hy : evalT Γ y = some (one (.int k' b))) (h0 : 0 ≤ b) (hr : a.fdiv (2 ^ (min b.toNat k.bits)) = r) :
    StepO P E Γ M ⟨d, .binOp .shr T x y T', ty, pos, af, gd⟩ (one (.int k r)) :=
  StepO.ofRun fun ac w hb hf => by
    have hx' : ac.eval x = .int k a := hf x _ (by simp [Op.operands]) hx
    have hy' : ac.eval y = .int k' b := hf y _ (by simp [Op.operands]) hy
    have h1 : ¬ b < 0 := by omega
    exact ⟨_, by simp [execOp, hx', hy', eqGuard, binOp, Op.shift, h1, hr], rfl⟩
theorem s_eq {T T' : TypeId} {x y : Operand} {k : IntKind} {a b : Int} (hx : evalT Γ x = some (one (.int k a))) (hy : evalT Γ y = some (one (.int k b))) :
    StepO P E Γ M ⟨d, .binOp .eql T x y T', ty, pos, af, gd⟩ (one (.bool (decide (a = b)))) :=
  StepO.ofRun fun ac w hb hf => by
    have hx' : ac.eval x = .int k a := hf x _ (by simp [Op.operands]) hx
    have hy' : ac.eval y = .int k b := hf y _ (by simp [Op.operands]) hy
    refine ⟨_, ?_, rfl⟩
    have : (a == b) = decide (a = b) := by by_cases h : a = b <;> simp [h]
    simp [execOp, hx', hy', eqGuard, binOp, Op.intCmp, this]
theorem s_ne {T T' : TypeId} {x y : Operand} {k : IntKind} {a b : Int} (hx : evalT Γ x = some (one (.int k a))) (hy : evalT Γ y = some (one (.int k b))) :
    StepO P E Γ M ⟨d, .binOp .neq T x y T', ty, pos, af, gd⟩ (one (.bool (decide (a ≠ b)))) :=
  StepO.ofRun fun ac w hb hf => by
    have hx' : ac.eval x = .int k a := hf x _ (by simp [Op.operands]) hx
    have hy' : ac.eval y = .int k b := hf y _ (by simp [Op.operands]) hy
    refine ⟨_, ?_, rfl⟩
    have : (a != b) = decide (a ≠ b) := by by_cases h : a = b <;> simp [h]
    simp [execOp, hx', hy', eqGuard, binOp, Op.intCmp, this]
theorem s_lt {T T' : TypeId} {x y : Operand} {k : IntKind} {a b : Int} (hx : evalT Γ x = some (one (.int k a))) (hy : evalT Γ y = some (one (.int k b))) :
    StepO P E Γ M ⟨d, .binOp .lss T x y T', ty, pos, af, gd⟩ (one (.bool (decide (a < b)))) :=
  StepO.ofRun fun ac w hb hf => by
    have hx' : ac.eval x = .int k a := hf x _ (by simp [Op.operands]) hx
    have hy' : ac.eval y = .int k b := hf y _ (by simp [Op.operands]) hy
    exact ⟨_, by simp [execOp, hx', hy', eqGuard, binOp, Op.intCmp], rfl⟩
theorem s_le {T T' : TypeId} {x y : Operand} {k : IntKind} {a b : Int} (hx : evalT Γ x = some (one (.int k a))) (hy : evalT Γ y = some (one (.int k b))) :
    StepO P E Γ M ⟨d, .binOp .leq T x y T', ty, pos, af, gd⟩ (one (.bool (decide (a ≤ b)))) :=
  StepO.ofRun fun ac w hb hf => by
    have hx' : ac.eval x = .int k a := hf x _ (by simp [Op.operands]) hx
    have hy' : ac.eval y = .int k b := hf y _ (by simp [Op.operands]) hy
    exact ⟨_, by simp [execOp, hx', hy', eqGuard, binOp, Op.intCmp], rfl⟩
theorem s_gt {T T' : TypeId} {x y : Operand} {k : IntKind} {a b : Int} (hx : evalT Γ x = some (one (.int k a))) (hy : evalT Γ y = some (one (.int k b))) :
    StepO P E Γ M ⟨d, .binOp .gtr T x y T', ty, pos, af, gd⟩ (one (.bool (decide (b < a)))) :=
  StepO.ofRun fun ac w hb hf => by
    have hx' : ac.eval x = .int k a := hf x _ (by simp [Op.operands]) hx
    have hy' : ac.eval y = .int k b := hf y _ (by simp [Op.operands]) hy
    exact ⟨_, by simp [execOp, hx', hy', eqGuard, binOp, Op.intCmp], rfl⟩
theorem s_ge {T T' : TypeId} {x y : Operand} {k : IntKind} {a b : Int} (hx : evalT Γ x = some (one (.int k a))) (hy : evalT Γ y = some (one (.int k b))) :
    StepO P E Γ M ⟨d, .binOp .geq T x y T', ty, pos, af, gd⟩ (one (.bool (decide (b ≤ a)))) :=
  StepO.ofRun fun ac w hb hf => by
    have hx' : ac.eval x = .int k a := hf x _ (by simp [Op.operands]) hx
    have hy' : ac.eval y = .int k b := hf y _ (by simp [Op.operands]) hy
    exact ⟨_, by simp [execOp, hx', hy', eqGuard, binOp, Op.intCmp], rfl⟩
class BoolOf (P : Program) (T : TypeId) : Prop where
  und : P.underlying T = some .bool
theorem run_equalB {T : TypeId} [hB : BoolOf P T] (n : Nat) (a b : Bool) (w : World) : (Op.equalIn (n + 1) T (.bool a) (.bool b)).run P w = .ok (a == b) w := by
  unfold Op.equalIn
  rw [Sem.run_bind, run_underlying' hB.und]; rfl
theorem run_eqB {T : TypeId} [hB : BoolOf P T] (a b : Bool) (w : World) : (Op.equal T (.bool a) (.bool b)).run P w = .ok (a == b) w := run_equalB 9999 a b w
theorem s_eqB {T T' : TypeId} [hB : BoolOf P T] {x y : Operand} {a b : Bool} (hx : evalT Γ x = some (one (.bool a))) (hy : evalT Γ y = some (one (.bool b))) :
    StepO P E Γ M ⟨d, .binOp .eql T x y T', ty, pos, af, gd⟩ (one (.bool (a == b))) :=
  StepO.ofRun fun ac w hb hf => by
    have hx' : ac.eval x = .bool a := hf x _ (by simp [Op.operands]) hx
    have hy' : ac.eval y = .bool b := hf y _ (by simp [Op.operands]) hy
    refine ⟨_, ?_, rfl⟩
    simp only [execOp, hx', hy', eqGuard, binOp, Sem.run_bind, run_eqB]; rfl
theorem s_neB {T T' : TypeId} [hB : BoolOf P T] {x y : Operand} {a b : Bool} (hx : evalT Γ x = some (one (.bool a))) (hy : evalT Γ y = some (one (.bool b))) :
    StepO P E Γ M ⟨d, .binOp .neq T x y T', ty, pos, af, gd⟩ (one (.bool (!(a == b)))) :=
  StepO.ofRun fun ac w hb hf => by
    have hx' : ac.eval x = .bool a := hf x _ (by simp [Op.operands]) hx
    have hy' : ac.eval y = .bool b := hf y _ (by simp [Op.operands]) hy
    refine ⟨_, ?_, rfl⟩
    simp only [execOp, hx', hy', eqGuard, binOp, Sem.run_bind, run_eqB]; rfl
theorem s_not {T : TypeId} {x : Operand} {a : Bool} (hx : evalT Γ x = some (one (.bool a))) : StepO P E Γ M ⟨d, .unOp .not T x, ty, pos, af, gd⟩ (one (.bool (!a))) :=
  StepO.ofRun fun ac w hb hf => by
    have hx' : ac.eval x = .bool a := hf x _ (by simp [Op.operands]) hx
    exact ⟨_, by simp [execOp, hx', Op.unary], rfl⟩
theorem s_neg {T : TypeId} {x : Operand} {k : IntKind} {a r : Int} (hx : evalT Γ x = some (one (.int k a))) (hr : k.wrap (0 - a) = r) : StepO P E Γ M ⟨d, .unOp .neg T x, ty, pos, af, gd⟩ (one (.int k r)) :=
  StepO.ofRun fun ac w hb hf => by
    have hx' : ac.eval x = .int k a := hf x _ (by simp [Op.operands]) hx
    exact ⟨.int k r, by rw [← hr]; simp [execOp, hx', Op.unary, Op.intArith], rfl⟩
theorem s_conv {T T' : TypeId} {k k' : IntKind} [h1 : IntOf P T k] [h2 : IntOf P T' k'] {x : Operand} {k0 : IntKind} {a r : Int} (hx : evalT Γ x = some (one (.int k0 a))) (hr : k'.wrap a = r) :
    StepO P E Γ M ⟨d, .convert T T' x, ty, pos, af, gd⟩ (one (.int k' r)) :=
  StepO.ofRun fun ac w hb hf => by
    have hx' : ac.eval x = .int k0 a := hf x _ (by simp [Op.operands]) hx
    exact ⟨.int k' r, by rw [← hr]; simp [execOp, hx', convert, run_underlying' h1.und, run_underlying' h2.und, Conv.intToInt], rfl⟩
theorem s_pickAnd {c x : Operand} {b b2 : Bool} (hc : evalT Γ c = some (one (.bool b))) (hx : evalT Γ x = some (gT (b == true) (one (.bool b2)))) :
    StepO P E Γ M ⟨d, .pick c x (.const (.bool false)), ty, pos, af, gd⟩ (one (.bool (b && b2))) :=
  StepO.ofRun fun ac w hb hf => by
    have hc' : ac.eval c = .bool b := hf c _ (by simp [Op.operands]) hc
    have hx' : b = true → ac.eval x = .bool b2 := fun hh => hf x _ (by simp [Op.operands]) hx (by simpa using hh)
    refine ⟨_, ?_, rfl⟩
    cases b with
    | true => simp [execOp, hc', asBool, hx' rfl]
    | false =>
      have h0 : ac.eval (.const (.bool false)) = .bool false := rfl
      simp [execOp, hc', asBool, h0]
theorem s_pickOr {c x : Operand} {b b2 : Bool} (hc : evalT Γ c = some (one (.bool b))) (hx : evalT Γ x = some (gT (b == false) (one (.bool b2)))) :
    StepO P E Γ M ⟨d, .pick c (.const (.bool true)) x, ty, pos, af, gd⟩ (one (.bool (b || b2))) :=
  StepO.ofRun fun ac w hb hf => by
    have hc' : ac.eval c = .bool b := hf c _ (by simp [Op.operands]) hc
    have hx' : b = false → ac.eval x = .bool b2 := fun hh => hf x _ (by simp [Op.operands]) hx (by simpa using hh)
    refine ⟨_, ?_, rfl⟩
    cases b with
    | false => simp [execOp, hc', asBool, hx' rfl]
    | true =>
      have h0 : ac.eval (.const (.bool true)) = .bool true := rfl
      simp [execOp, hc', asBool, h0]
theorem s_max {x y : Operand} {ats : Array TypeId} {k : IntKind} {a b : Int} (hx : evalT Γ x = some (one (.int k a))) (hy : evalT Γ y = some (one (.int k b))) :
    StepO P E Γ M ⟨d, .call ⟨.builtin .max, #[x, y], ats⟩, ty, pos, af, gd⟩ (one (.int k (max a b))) :=
  StepO.ofRun fun ac w hb hf => by
    have hx' : ac.eval x = .int k a := hf x _ (by simp [Op.operands, Call.operands]) hx
    have hy' : ac.eval y = .int k b := hf y _ (by simp [Op.operands, Call.operands]) hy
    refine ⟨_, ?_, rfl⟩
    have : (if b > a then b else a) = max a b := by omega
    simp [execOp, resolve, invoke, builtin, Builtin.max_, Builtin.max2, hx', hy', this]
theorem s_min {x y : Operand} {ats : Array TypeId} {k : IntKind} {a b : Int} (hx : evalT Γ x = some (one (.int k a))) (hy : evalT Γ y = some (one (.int k b))) :
    StepO P E Γ M ⟨d, .call ⟨.builtin .min, #[x, y], ats⟩, ty, pos, af, gd⟩ (one (.int k (min a b))) :=
  StepO.ofRun fun ac w hb hf => by
    have hx' : ac.eval x = .int k a := hf x _ (by simp [Op.operands, Call.operands]) hx
    have hy' : ac.eval y = .int k b := hf y _ (by simp [Op.operands, Call.operands]) hy
    refine ⟨_, ?_, rfl⟩
    have : (if b < a then b else a) = min a b := by omega
    simp [execOp, resolve, invoke, builtin, Builtin.min_, Builtin.min2, hx', hy', this]

end
end Tor
