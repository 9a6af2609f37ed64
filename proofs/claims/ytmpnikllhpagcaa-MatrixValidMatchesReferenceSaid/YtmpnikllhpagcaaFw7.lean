/-
  More rules: slices that are made, cut, built; structs that are built.
  No condition: general theorems over any program.
-/
import Derived.Test.YtmpnikllhpagcaaFw6
set_option linter.unusedVariables false
set_option linter.unusedSimpArgs false
set_option linter.unusedSectionVars false
namespace Tor
open Go Go.RowKit

section
variable {P : Program} {E : Env} {D : List Deferred} {Γ : Ctx} {M : Mem} {Q : Exit → Act → World → Prop}
variable {ops : Array Oper} {i : Nat} {ty : TypeId} {pos : String} {af : Array Edge} {os : List Oper} {K : List Deferred → Ctx → Mem → Prop} {d : Option Tmp} {gd : Option (Nat × Bool)}

/-- A row of copies. -/
def copies (z : Array Value) (n : Nat) : Array Value := (Array.range n).map (z[· % z.size]!)
theorem copies_size (z : Array Value) (n : Nat) : (copies z n).size = n := by simp [copies]
theorem copies_at {z : Array Value} {n k : Nat} (hk : k < n) (hz : 0 < z.size) : (copies z n)[k]? = z[k % z.size]? := by
  have : k % z.size < z.size := Nat.mod_lt _ hz
  simp [copies, hk, this]
theorem copies_val {L : Lay} {v : Value} {n q : Nat} (hs : v.cells.size = L.sz) (hv : valAt L v.cells 0 = some v) (hq : q < n) (hz : 0 < L.sz) : valAt L (copies v.cells (n * L.sz)) (q * L.sz) = some v := by
  have hfit : q * L.sz + L.sz ≤ n * L.sz := by
    have := Nat.mul_le_mul_right L.sz (show q + 1 ≤ n by omega); rwa [Nat.succ_mul] at this
  cases L with
  | one =>
    simp only [valAt, Lay.sz, Nat.mul_one] at *
    rw [copies_at hq (by omega), hs, Nat.mod_one]; exact hv
  | agg m =>
    have hs : v.cells.size = m := hs
    have hz : 0 < m := hz
    have hfit : q * m + m ≤ n * m := hfit
    have hv : (if 0 + m ≤ v.cells.size then some (Value.agg (v.cells.extract 0 (0 + m))) else none) = some v := hv
    show (if q * m + m ≤ (copies v.cells (n * m)).size then some (Value.agg ((copies v.cells (n * m)).extract (q * m) (q * m + m))) else none) = some v
    rw [if_pos (by omega)] at hv
    rw [copies_size, if_pos (by omega), ← hv]
    congr 2
    apply Array.ext_getElem?; intro k
    have h0 := extract_at v.cells 0 m k
    rw [Nat.zero_add] at h0
    rw [extract_at, Nat.zero_add, h0]
    by_cases hk : k < m
    · rw [if_pos hk, if_pos hk, Nat.zero_add, copies_at (by omega) (by omega), hs]
      have : (q * m + k) % m = k := by rw [Nat.mul_comm, Nat.mul_add_mod]; exact Nat.mod_eq_of_lt hk
      rw [this]
    · rw [if_neg hk, if_neg hk]

theorem wrap_id {k : IntKind} {n : Int} (h1 : k.min ≤ n) (h2 : n ≤ k.max) : k.wrap n = n := by
  cases k <;> simp [IntKind.wrap, IntKind.bits, IntKind.signed, IntKind.min, IntKind.max] at * <;> omega
theorem wrap_i64 {n : Int} (h1 : -9223372036854775808 ≤ n) (h2 : n ≤ 9223372036854775807) : IntKind.i64.wrap n = n := wrap_id (by simp [IntKind.min, IntKind.signed, IntKind.bits]; omega) (by simp [IntKind.max, IntKind.signed, IntKind.bits]; omega)
theorem wrap_u64 (n : Int) : IntKind.u64.wrap n = n % 18446744073709551616 := by simp [IntKind.wrap, IntKind.bits, IntKind.signed]
theorem wrap_u32 (n : Int) : IntKind.u32.wrap n = n % 4294967296 := by simp [IntKind.wrap, IntKind.bits, IntKind.signed]
theorem wrap_u8 (n : Int) : IntKind.u8.wrap n = n % 256 := by simp [IntKind.wrap, IntKind.bits, IntKind.signed]
theorem wrap_small {n : Nat} (h : n ≤ 2 ^ 48) : IntKind.i64.wrap (n : Int) = n := wrap_i64 (by omega) (by omega)
theorem run_askRoom (n : Nat) (w : World) : (askRoom n).run P w = .ok () w := by unfold askRoom; split <;> rfl
theorem run_newRow (T : TypeId) (c : Array Value) (w : World) : (newRow T c).run P w = .ok ⟨w.heap.size, 0, none⟩ (w.alloc (.cells c T)) := by
  simp [newRow, Sem.run_bind, newObj, Sem.run]

theorem run_makeSlice {T e : TypeId} {z : Value} {by' : Nat} {L : Lay} {l n : Nat} [hS : SliceOf P T e] [hL : LayOf P e L] [hZ : ZeroOf P e z by'] (hb0 : 0 < by') (hln : l ≤ n) (hn : by' * n ≤ 2 ^ 48) (w : World) :
    (Instr.makeSlice T (.int .i64 l) (.int .i64 n)).run P w = .ok (slV (some w.heap.size) l n) (w.alloc (.cells (copies z.cells (n * L.sz)) e)) := by
  obtain ⟨ti, hti, htz, htb⟩ := hZ.info
  have hn48 : n ≤ 2 ^ 48 := by
    have : n ≤ by' * n := Nat.le_mul_of_pos_left n hb0
    omega
  have hw := wrap_small hn48
  have hwl := wrap_small (show l ≤ 2 ^ 48 by omega)
  have hle : ((by' : Int) * n) ≤ 2 ^ 48 := by
    have : ((by' * n : Nat) : Int) ≤ 2 ^ 48 := by exact_mod_cast hn
    rw [Int.natCast_mul] at this; omega
  unfold Instr.makeSlice
  simp only [Sem.run_bind, run_underlying' hS.und, Result.andThen_ok, asInt, asIntOf, Sem.run_pure, run_typeInfo hti, htb, hw, hwl]
  rw [if_neg (by simp; omega)]
  simp only [Sem.run_bind, run_askRoom, Result.andThen_ok, run_sizeOf' (L := L), Int.toNat_natCast]
  split
  · rename_i h0
    simp only [Sem.run_pure, Sem.run_bind, Result.andThen_ok, run_newRow, h0]
    rw [show copies z.cells 0 = Array.map (fun x => default) (Array.range 0) by simp [copies]]; rfl
  · simp only [Sem.run_pure, Sem.run_bind, Result.andThen_ok, run_newRow, ZeroOf.run (z := z)]
    simp [slV, copies]

/-- make([]T, l, n). -/
theorem a_makeSlice {T e : TypeId} {z : Value} {by' : Nat} {L : Lay} {x y : Operand} {il ic : Int} {d : Nat} [hS : SliceOf P T e] [hL : LayOf P e L] [hZ : ZeroOf P e z by'] [hF : Flat (one z) L] (l n : Nat) (hx : evalT Γ x = some (one (.int .i64 il))) (hy : evalT Γ y = some (one (.int .i64 ic)))
    (hil : il = l) (hic : ic = n) (hln : l ≤ n) (hb0 : Nat.ble 1 by' = true) (hz0 : Nat.ble 1 L.sz = true) (hn : by' * n ≤ 2 ^ 48) (hi : ops[i]? = some ⟨some d, .makeSlice T x y, ty, pos, af, none⟩) (hd : Nat.ble (d + 1) E.N = true)
    (h : ∀ b, Run P E ops false (i + 1) D ((d, one (slV (some b) l n)) :: Γ) (sliO (some b) e L n l (fun _ => one z) :: M) os K) :
    Run P E ops false i D Γ M (⟨some d, .makeSlice T x y, ty, pos, af, none⟩ :: os) K := by
  have hb0 := Nat.le_of_ble_eq_true hb0
  have hz0 := Nat.le_of_ble_eq_true hz0
  have hd : d < E.N := Nat.le_of_ble_eq_true hd
  subst hil hic
  refine Run.one (K' := fun D' Γ' M' => ∃ b, D' = D ∧ Γ' = (d, one (slV (some b) l n)) :: Γ ∧ M' = sliO (some b) e L n l (fun _ => one z) :: M) rfl (fun a w hSt => ?_) (fun D' Γ' M' ⟨b, h1, h2, h3⟩ => by subst h1 h2 h3; exact h b) hi
  have hx' : a.eval x = .int .i64 l := evalT_p hSt hx
  have hy' : a.eval y = .int .i64 n := evalT_p hSt hy
  obtain ⟨h1, h2, h3⟩ := hF.ok z (fun _ => none) rfl
  have hn48 : n ≤ 2 ^ 48 := by
    have : n ≤ by' * n := Nat.le_mul_of_pos_left n hb0
    omega
  refine ⟨.ok (.value (slV (some w.heap.size) l n)) (w.alloc (.cells (copies z.cells (n * L.sz)) e)), ?_, D, _, _, ⟨w.heap.size, rfl, rfl, rfl⟩, ?_⟩
  · simp only [execOp, hx', hy', Sem.run_bind, run_makeSlice hb0 hln hn, Result.andThen_ok, Sem.run_pure]
  · refine hSt.alloc (o := sliO (some w.heap.size) e L n l (fun _ => one z)) rfl ⟨hln, by omega, (fun h => by cases h), fun b hb => ?_⟩ hd rfl
    cases hb
    refine ⟨_, view_alloc_self w _ _ _, copies_size _ _, fun q hq => ⟨z, copies_val h1 h3 (by omega) hz0, rfl⟩⟩

/-! ### Slices that are cut -/
def evalOpt (Γ : Ctx) (x : Option Operand) (dv : VT) : Option VT := match x with | none => some dv | some y => evalT Γ y

theorem run_sliceBound {k : IntKind} {iv : Int} {y : Nat} {code : BoundsCode} (h0 : 0 ≤ iv) (h1 : iv ≤ y) (w : World) : (Instr.sliceBound (.int k iv) y code).run P w = .ok iv.toNat w := by
  simp [Instr.sliceBound, asIntOf, h0, h1]

/-- x[l:h] of a slice that is only read. -/
theorem s_slice {T e : TypeId} {L : Lay} [hS : SliceOf P T e] [hL : LayOf P e L] {x : Operand} {lo hi mx : Option Operand} {n : Nat} {φ : Nat → VT} {kl kh km : IntKind} {l h m : Int} (hx : evalT Γ x = some (slT L n φ))
    (hlo : evalOpt Γ lo (one (.int .i64 0)) = some (one (.int kl l))) (hhi : evalOpt Γ hi (one (.int .i64 n)) = some (one (.int kh h))) (hmx : evalOpt Γ mx (one (.int .i64 n)) = some (one (.int km m)))
    (hmh : mx.isSome = true → hi.isSome = true) (h0 : 0 ≤ l) (h1 : l ≤ h) (h2 : h ≤ m) (h3 : m ≤ n) :
    StepO P E Γ M ⟨d, .slice T x lo hi mx, ty, pos, af, gd⟩ (slT L (h - l).toNat (fun j => φ (l.toNat + j))) :=
  StepO.ofRun fun a w hb hf => by
    obtain ⟨ad, cap, hv', g1, g2, he⟩ := hf x _ (by simp [Op.operands]) hx
    have hl : ∀ y, lo = some y → a.eval y = .int kl l := fun y hy => by subst hy; exact hf y _ (by simp [Op.operands]) hlo
    have hh : ∀ y, hi = some y → a.eval y = .int kh h := fun y hy => by subst hy; exact hf y _ (by simp [Op.operands]) hhi
    have hm : ∀ y, mx = some y → a.eval y = .int km m := fun y hy => by subst hy; exact hf y _ (by simp [Op.operands]) hmx
    have hl0 : lo = none → l = 0 := fun hy => by subst hy; simp [evalOpt, one] at hlo; have := congrFun (congrFun hlo (.int .i64 0)) (fun _ => none); simp at this; exact this.2.symm
    have hh0 : hi = none → h = n := fun hy => by subst hy; simp [evalOpt, one] at hhi; have := congrFun (congrFun hhi (.int .i64 n)) (fun _ => none); simp at this; exact this.2.symm
    have hbd : ∃ mm : Nat, (Instr.sliceBounds true n cap (lo.map a.eval) (hi.map a.eval) (mx.map a.eval)).run P w = .ok (l.toNat, h.toNat, mm) w ∧ h.toNat ≤ mm ∧ mm ≤ cap := by
      cases mx with
      | some y =>
        obtain ⟨z, rfl⟩ : ∃ z, hi = some z := by cases hi with | none => simp at hmh | some z => exact ⟨z, rfl⟩
        refine ⟨m.toNat, ?_, by omega, by omega⟩
        have e1 := run_sliceBound (P := P) (k := km) (iv := m) (y := cap) (code := .slice3Acap) (by omega) (by omega) w
        have e2 := run_sliceBound (P := P) (k := kh) (iv := h) (y := m.toNat) (code := .slice3B) (by omega) (by omega) w
        cases lo with
        | none => simp [Instr.sliceBounds, Sem.run_bind, hm y rfl, hh z rfl, e1, e2, hl0 rfl]
        | some u =>
          have e3 := run_sliceBound (P := P) (k := kl) (iv := l) (y := h.toNat) (code := .slice3C) (by omega) (by omega) w
          simp [Instr.sliceBounds, Sem.run_bind, hm y rfl, hh z rfl, hl u rfl, e1, e2, e3]
      | none =>
        refine ⟨cap, ?_, by omega, by omega⟩
        cases hi with
        | some z =>
          have e2 := run_sliceBound (P := P) (k := kh) (iv := h) (y := cap) (code := .sliceAcap) (by omega) (by omega) w
          cases lo with
          | none => simp [Instr.sliceBounds, Sem.run_bind, hh z rfl, e2, hl0 rfl]
          | some u =>
            have e3 := run_sliceBound (P := P) (k := kl) (iv := l) (y := h.toNat) (code := .sliceB) (by omega) (by omega) w
            simp [Instr.sliceBounds, Sem.run_bind, hh z rfl, hl u rfl, e2, e3]
        | none =>
          cases lo with
          | none => simp [Instr.sliceBounds, Sem.run_bind, hl0 rfl, hh0 rfl]
          | some u =>
            have e3 := run_sliceBound (P := P) (k := kl) (iv := l) (y := n) (code := .sliceB) (by omega) (by have := hh0 rfl; omega) w
            simp [Instr.sliceBounds, Sem.run_bind, hl u rfl, e3, hh0 rfl]
    obtain ⟨mm, hrun, hmm, hmc⟩ := hbd
    have hdesc : ∀ y : Value, (Instr.sliceAt T (.slice ad n cap) (lo.map a.eval) (hi.map a.eval) (mx.map a.eval)).run P w = .ok (.slice (if mm = l.toNat then ad else ad.map (·.add (l.toNat * L.sz))) (h.toNat - l.toNat) (mm - l.toNat)) w := by
      intro _
      simp only [Instr.sliceAt, Sem.run_bind, run_underlying' hS.und, Result.andThen_ok, Instr.slice, hrun, run_sizeOf' (L := L), Sem.run_pure]
    refine ⟨_, by simp only [execOp, hv', Sem.run_bind, hdesc undef, Result.andThen_ok, Sem.run_pure]; rfl, ?_⟩
    refine ⟨_, _, by rw [show (h - l).toNat = h.toNat - l.toNat by omega], by omega, by omega, fun j hj => ?_⟩
    obtain ⟨b, o, c, T', f, v, h4, h5, h6, h7⟩ := he (l.toNat + j) (by omega)
    have hne : ¬ (mm = l.toNat) := by omega
    refine ⟨b, o + l.toNat * L.sz, c, T', f, v, ?_, h5, ?_, h7⟩
    · rw [if_neg hne, h4]; simp [addr_add]
    · rw [Nat.add_mul] at h6; rw [Nat.add_assoc]; exact h6
end
end Tor
namespace Tor
open Go Go.RowKit
section
variable {P : Program} {E : Env} {D : List Deferred} {Γ : Ctx} {M : Mem} {ops : Array Oper} {i : Nat} {op : Op} {ty : TypeId} {pos : String} {af : Array Edge} {os : List Oper} {K : List Deferred → Ctx → Mem → Prop} {dr : Bool}
theorem ltN {a b : Nat} (h : Nat.ble (a + 1) b = true) : a < b := Nat.le_of_ble_eq_true h
theorem st {d : Nat} {ψ : VT} (h : StepO P E Γ M ⟨some d, op, ty, pos, af, none⟩ ψ) (hd : Nat.ble (d + 1) E.N = true) (hr : Run P E ops dr (i + 1) D ((d, ψ) :: Γ) M os K) :
    Run P E ops dr i D Γ M (⟨some d, op, ty, pos, af, none⟩ :: os) K := .step (.plain h rfl rfl (ltN hd)) hr
end
end Tor
namespace Tor
theorem tupF {φs : List VT} {vs : List Go.Value} {h : Hp} {φ : VT} {F : Prop} (i : Nat) (hv : tupP φs vs h) (hi : φs[i]? = some φ) (hF : ∀ v h, φ.p v h → F) : F :=
  let ⟨v, _, hp⟩ := tupP_get hv hi; hF v h hp
theorem one_p {v x : Go.Value} {h : Hp} : (one v).p x h ↔ x = v := Iff.rfl
theorem andT_p {F : Prop} {φ : VT} {v : Go.Value} {h : Hp} : (andT F φ).p v h ↔ F ∧ φ.p v h := Iff.rfl
theorem exT_p {α : Sort _} {φ : α → VT} {v : Go.Value} {h : Hp} : (exT φ).p v h ↔ ∃ x, (φ x).p v h := Iff.rfl
theorem tupT_p {φs : List VT} {v : Go.Value} {h : Hp} : (tupT φs).p v h ↔ ∃ vs : List Go.Value, v = .tuple vs.toArray ∧ tupP φs vs h := Iff.rfl
theorem aggT_p {m : Nat} {cs : Comps} {v : Go.Value} {h : Hp} : (aggT m cs).p v h ↔ ∃ c, v = .agg c ∧ c.size = m ∧ c.all (·.oneCell') = true ∧ compsP cs c h := Iff.rfl
theorem slT_p {L : Lay} {n : Nat} {φ : Nat → VT} {v : Go.Value} {h : Hp} : (slT L n φ).p v h ↔ ∃ a cap, v = .slice a n cap ∧ n ≤ cap ∧ n ≤ 2 ^ 48 ∧
    ∀ i, i < n → ∃ b o c T f x, a = some ⟨b, o, none⟩ ∧ h b = some (c, T, f) ∧ valAt L c (o + i * L.sz) = some x ∧ (φ i).p x h := Iff.rfl
theorem slT_le {L : Lay} {n : Nat} {φ ψ : Nat → VT} (H : ∀ i, i < n → VT.le (φ i) (ψ i)) : VT.le (slT L n φ) (slT L n ψ) :=
  fun v h ⟨a, cap, h1, h2, h3, h4⟩ => ⟨a, cap, h1, h2, h3, fun i hi => let ⟨b, o, c, T, f, x, k1, k2, k3, k4⟩ := h4 i hi; ⟨b, o, c, T, f, x, k1, k2, k3, H i hi _ _ k4⟩⟩
theorem slT_le' {L : Lay} {n m : Nat} {φ ψ : Nat → VT} (hn : n = m) (H : ∀ i, i < n → φ i = ψ i) : VT.le (slT L n φ) (slT L m ψ) := by
  subst hn; exact slT_le fun i hi => by rw [H i hi]; exact VT.le_refl _
theorem slT_bound {L : Lay} {n : Nat} {φ : Nat → VT} {v : Go.Value} {h : Hp} (H : (slT L n φ).p v h) : n ≤ 2 ^ 48 := by
  obtain ⟨_, _, _, h1, h2, _⟩ := H; omega
end Tor
