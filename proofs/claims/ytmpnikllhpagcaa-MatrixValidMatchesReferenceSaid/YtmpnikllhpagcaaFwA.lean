/-
  More rules: unsigned numbers, joins.
  No condition: general theorems over any program.
-/
import Derived.Test.YtmpnikllhpagcaaFw9
set_option linter.unusedVariables false
set_option linter.unusedSimpArgs false
set_option linter.unusedSectionVars false
namespace Tor
open Go Go.RowKit

section
variable {P : Program} {E : Env} {D : List Deferred} {Γ : Ctx} {M : Mem} {Q : Exit → Act → World → Prop}
variable {d : Option Tmp} {ty : TypeId} {pos : String} {af : Array Edge} {gd : Option (Nat × Bool)}

/-- The ways through c meet again. -/
theorem J_join {σ : Type} {c : Code} {n : Act → World → Prop} (G : σ → Ctx) (Ms : σ → Mem) (ok : σ → Prop)
    (h : J P E D Γ M c (Exit.then (fun a w => ∃ s, ok s ∧ St E D (G s) (Ms s) a w) Q)) (hy : ∀ s, ok s → PJ E D (G s) (Ms s) .normal (Exit.then n Q)) : J P E D Γ M c (Exit.then n Q) :=
  fun a w hS => wp_mono (h a w hS) fun e a w hq => by
    cases e <;> first | exact hq | (obtain ⟨s, hs, hS'⟩ := hq; exact hy s hs a w hS')

theorem nil_slT {L : Lay} {φ : Nat → VT} : VT.le (one (.slice none 0 0)) (slT L 0 φ) := fun v h e => by
  cases e; exact ⟨none, 0, rfl, Nat.le_refl _, by decide, fun i hi => by omega⟩
theorem sliO_le {sv : Option Nat} {T : TypeId} {L : Lay} {cap n : Nat} {φ ψ : Nat → VT} (H : ∀ q, q < n → VT.le (φ q) (ψ q)) : Own.le (sliO sv T L cap n φ) (sliO sv T L cap n ψ) :=
  ⟨rfl, fun g h ⟨h1, h2, h3, h4⟩ => ⟨h1, h2, h3, fun b hb => let ⟨c, hc, hs, he⟩ := h4 b hb; ⟨c, hc, hs, fun i hi => let ⟨x, hx, hp⟩ := he i hi; ⟨x, hx, H i hi _ _ hp⟩⟩⟩⟩
theorem sliO_eq {sv : Option Nat} {T : TypeId} {L : Lay} {cap n : Nat} {φ ψ : Nat → VT} (H : ∀ q, q < n → φ q = ψ q) : Own.le (sliO sv T L cap n φ) (sliO sv T L cap n ψ) :=
  sliO_le fun q hq => by rw [H q hq]; exact VT.le_refl _
theorem boxO_le {b : Nat} {T : TypeId} {m : Nat} {cs cs' : Comps} (h : ∀ q ∈ cs', ∃ ψ, (q.1, q.2.1, ψ) ∈ cs ∧ VT.le ψ q.2.2) : Own.le (boxO b T m cs) (boxO b T m cs') :=
  ⟨rfl, fun g k ⟨c, h1, h2, h3, h4⟩ => ⟨c, h1, h2, h3, fun q hq => let ⟨ψ, h5, h6⟩ := h q hq; let ⟨x, h7, h8⟩ := h4 _ h5; ⟨x, h7, h6 _ _ h8⟩⟩⟩

theorem s_addU {T T' : TypeId} {x y : Operand} {a b : Nat} (hx : evalT Γ x = some (one (.int .u64 (a : Int)))) (hy : evalT Γ y = some (one (.int .u64 (b : Int)))) (h : a + b < 18446744073709551616) :
    StepO P E Γ M ⟨d, .binOp .add T x y T', ty, pos, af, gd⟩ (one (.int .u64 ((a + b : Nat) : Int))) :=
  s_add hx hy (by rw [wrap_u64]; omega)
theorem s_mulU {T T' : TypeId} {x y : Operand} {a b : Nat} (hx : evalT Γ x = some (one (.int .u64 (a : Int)))) (hy : evalT Γ y = some (one (.int .u64 (b : Int)))) (h : a * b < 18446744073709551616) :
    StepO P E Γ M ⟨d, .binOp .mul T x y T', ty, pos, af, gd⟩ (one (.int .u64 ((a * b : Nat) : Int))) :=
  s_mul hx hy (by rw [wrap_u64, ← Int.natCast_mul]; omega)
theorem s_subU {T T' : TypeId} {x y : Operand} {a b : Nat} (hx : evalT Γ x = some (one (.int .u64 (a : Int)))) (hy : evalT Γ y = some (one (.int .u64 (b : Int)))) (ha : a < 18446744073709551616) (hb : b < 18446744073709551616) :
    StepO P E Γ M ⟨d, .binOp .sub T x y T', ty, pos, af, gd⟩ (one (.int .u64 (((a + 18446744073709551616 - b) % 18446744073709551616 : Nat) : Int))) :=
  s_sub hx hy (by rw [wrap_u64]; omega)
theorem s_quoU {T T' : TypeId} {x y : Operand} {a b : Nat} (hx : evalT Γ x = some (one (.int .u64 (a : Int)))) (hy : evalT Γ y = some (one (.int .u64 (b : Int)))) (ha : a < 18446744073709551616) (h0 : b ≠ 0) :
    StepO P E Γ M ⟨d, .binOp .quo T x y T', ty, pos, af, gd⟩ (one (.int .u64 ((a / b : Nat) : Int))) :=
  s_quo hx hy (by omega) (by
    rw [← Int.ofNat_tdiv, wrap_u64]
    have := Nat.div_le_self a b
    generalize a / b = q at *
    omega)
theorem s_quo32 {T T' : TypeId} {x : Operand} {a : Nat} (hx : evalT Γ x = some (one (.int .u64 (a : Int)))) (ha : a < 18446744073709551616) :
    StepO P E Γ M ⟨d, .binOp .quo T x (.const (.int .u64 4294967296)) T', ty, pos, af, gd⟩ (one (.int .u64 ((a / 4294967296 : Nat) : Int))) :=
  s_quoU (b := 4294967296) hx rfl ha (by decide)
theorem StepO.le {o : Oper} {φ ψ : VT} (h : StepO P E Γ M o φ) (hle : VT.le φ ψ) : StepO P E Γ M o ψ :=
  fun a w hb hx next Q hn => h a w hb hx next Q (fun v w' he hp => hn v w' he (hle v _ hp))
theorem s_remU {T T' : TypeId} {x y : Operand} {a b : Nat} (hx : evalT Γ x = some (one (.int .u64 (a : Int)))) (hy : evalT Γ y = some (one (.int .u64 (b : Int)))) (h0 : b ≠ 0) :
    StepO P E Γ M ⟨d, .binOp .rem T x y T', ty, pos, af, gd⟩ (one (.int .u64 ((a % b : Nat) : Int))) :=
  s_rem hx hy (by omega) (by rw [← Int.ofNat_tmod])
theorem s_toU64 {T T' : TypeId} {k : IntKind} [IntOf P T k] [IntOf P T' .u64] {x : Operand} {k0 : IntKind} {a : Nat} (hx : evalT Γ x = some (one (.int k0 (a : Int)))) (h : a < 18446744073709551616) :
    StepO P E Γ M ⟨d, .convert T T' x, ty, pos, af, gd⟩ (one (.int .u64 (a : Int))) := s_conv hx (by rw [wrap_u64]; omega)
theorem s_toU32 {T T' : TypeId} {k : IntKind} [IntOf P T k] [IntOf P T' .u32] {x : Operand} {k0 : IntKind} {a : Nat} (hx : evalT Γ x = some (one (.int k0 (a : Int)))) :
    StepO P E Γ M ⟨d, .convert T T' x, ty, pos, af, gd⟩ (one (.int .u32 ((a % 4294967296 : Nat) : Int))) := s_conv hx (by rw [wrap_u32]; omega)
theorem s_shr32 {T T' : TypeId} {x : Operand} {k' : IntKind} {a : Nat} (hx : evalT Γ x = some (one (.int .u64 (a : Int)))) :
    StepO P E Γ M ⟨d, .binOp .shr T x (.const (.int k' 32)) T', ty, pos, af, gd⟩ (one (.int .u64 ((a / 4294967296 : Nat) : Int))) :=
  s_shr hx rfl (by decide) (by
    show Int.fdiv (a : Int) (2 ^ 32) = _
    rw [Int.fdiv_eq_ediv_of_nonneg _ (by decide)]; omega)
theorem s_shr63 {T T' : TypeId} {x : Operand} {k' : IntKind} {a : Nat} (hx : evalT Γ x = some (one (.int .u64 (a : Int)))) :
    StepO P E Γ M ⟨d, .binOp .shr T x (.const (.int k' 63)) T', ty, pos, af, gd⟩ (one (.int .u64 ((a / 9223372036854775808 : Nat) : Int))) :=
  s_shr hx rfl (by decide) (by
    show Int.fdiv (a : Int) (2 ^ 63) = _
    rw [Int.fdiv_eq_ediv_of_nonneg _ (by decide)]; omega)
theorem s_toI64 {T T' : TypeId} {k : IntKind} [IntOf P T k] [IntOf P T' .i64] {x : Operand} {k0 : IntKind} {a : Int} (hx : evalT Γ x = some (one (.int k0 a))) (h1 : -9223372036854775808 ≤ a) (h2 : a ≤ 9223372036854775807) :
    StepO P E Γ M ⟨d, .convert T T' x, ty, pos, af, gd⟩ (one (.int .i64 a)) := s_conv hx (wrap_i64 h1 h2)
end
end Tor
namespace Tor
open Go Go.RowKit
section
variable {P : Program} {E : Env} {D : List Deferred} {Γ : Ctx} {M : Mem} {Q : Exit → Act → World → Prop}
variable {ops : Array Oper} {i : Nat} {ty : TypeId} {pos : String} {af : Array Edge} {os : List Oper} {K : List Deferred → Ctx → Mem → Prop} {gd : Option (Nat × Bool)} {dr : Bool}
inductive BuildK (Γ : Ctx) (pl : List (Nat × Lay)) (K : Comps → Prop) : Comps → List (Nat × Operand) → Prop
  | nil {C} : K C → BuildK Γ pl K C []
  | cons {C i x r o L φ χ} [hF : Flat φ L] : pl[i]? = some (o, L) → evalT Γ x = some φ → lookC C o = some (L, χ) → BuildK Γ pl K (setC C o φ) r → BuildK Γ pl K C ((i, x) :: r)
theorem BuildK.ok {pl : List (Nat × Lay)} {K : Comps → Prop} {C : Comps} {r : List (Nat × Operand)} (h : BuildK Γ pl K C r) : ∃ C', BuildOk Γ pl C r C' ∧ K C' := by
  induction h with
  | nil h => exact ⟨_, .nil, h⟩
  | cons h1 h2 h3 _ ih => obtain ⟨C', h4, h5⟩ := ih; exact ⟨C', .cons h1 h2 h3 h4, h5⟩
theorem stB {T : TypeId} {m d : Nat} {z : Array Value} {pl : List (Nat × Lay)} [hB : BuildOf P T m z pl] {parts : Array (Nat × Operand)} (hz : (pl.all fun q => (valAt q.2 z q.1).isSome && decide (q.1 + q.2.sz ≤ m)) = true) (hap : apartC (zeroC z pl) = true) (hd : Nat.ble (d + 1) E.N = true)
    (h : BuildK Γ pl (fun C => Run P E ops dr (i + 1) D ((d, aggT m C) :: Γ) M os K) (zeroC z pl) parts.toList) : Run P E ops dr i D Γ M (⟨some d, .build T parts, ty, pos, af, none⟩ :: os) K :=
  let ⟨_, h1, h2⟩ := h.ok; st (s_build h1 hz hap) hd h2
inductive PartsK (Γ : Ctx) (L : Lay) (K : List VT → Prop) : Nat → List VT → List (Nat × Operand) → Prop
  | nil {k φs} : K φs.reverse → PartsK Γ L K k φs []
  | cons {k φs x r φ} [hF : Flat φ L] : evalT Γ x = some φ → PartsK Γ L K (k + 1) (φ :: φs) r → PartsK Γ L K k φs ((k, x) :: r)
theorem PartsK.ok {L : Lay} {K : List VT → Prop} {k : Nat} {φs : List VT} {r : List (Nat × Operand)} (h : PartsK Γ L K k φs r) : ∃ ψs, PartsOk Γ L k r ψs ∧ K (φs.reverse ++ ψs) := by
  induction h with
  | nil h => exact ⟨[], .nil, by simpa using h⟩
  | cons h1 _ ih => obtain ⟨ψs, h2, h3⟩ := ih; exact ⟨_ :: ψs, .cons h1 h2, by simpa using h3⟩
theorem stS {T e : TypeId} {L : Lay} {z : Value} {by' n d : Nat} [hS : SliceOf P T e] [hL : LayOf P e L] [hZ : ZeroOf P e z by'] [hFz : Flat (one z) L] {parts : Array (Nat × Operand)}
    (hn : parts.size = n) (hsm : Nat.ble (n * L.sz) 16777216 = true) (hsz : Nat.ble 1 L.sz = true) (hd : Nat.ble (d + 1) E.N = true)
    (h : PartsK Γ L (fun φs => Run P E ops dr (i + 1) D ((d, slT L n (fun q => φs.getD q anyT)) :: Γ) M os K) 0 [] parts.toList) : Run P E ops dr i D Γ M (⟨some d, .buildSlice T n parts, ty, pos, af, none⟩ :: os) K :=
  let ⟨_, h1, h2⟩ := h.ok; st (s_buildSlice h1 hn (Nat.le_of_ble_eq_true hsm) (Nat.le_of_ble_eq_true hsz)) hd h2
/-- A slice literal of one element. -/
theorem stS1 {T e : TypeId} {L : Lay} {z : Value} {by' d : Nat} [hS : SliceOf P T e] [hL : LayOf P e L] [hZ : ZeroOf P e z by'] [hFz : Flat (one z) L] {x : Operand} {φ : VT} [hF : Flat φ L]
    (hx : evalT Γ x = some φ) (hsm : Nat.ble (1 * L.sz) 16777216 = true) (hsz : Nat.ble 1 L.sz = true) (hd : Nat.ble (d + 1) E.N = true)
    (h : Run P E ops dr (i + 1) D ((d, slT L 1 (fun _ => φ)) :: Γ) M os K) : Run P E ops dr i D Γ M (⟨some d, .buildSlice T 1 #[(0, x)], ty, pos, af, none⟩ :: os) K :=
  st ((s_buildSlice (n := 1) (φs := [φ]) (.cons hx .nil) rfl (Nat.le_of_ble_eq_true hsm) (Nat.le_of_ble_eq_true hsz)).le (slT_le' rfl (fun q hq => by
    have h3 : q < 1 := hq
    have : q = 0 := by omega
    subst this; rfl))) hd h
theorem stSO {T e : TypeId} {L : Lay} {z : Value} {by' n d : Nat} [hS : SliceOf P T e] [hL : LayOf P e L] [hZ : ZeroOf P e z by'] [hFz : Flat (one z) L] {parts : Array (Nat × Operand)}
    (hn : parts.size = n) (hsm : Nat.ble (n * L.sz) 16777216 = true) (hsz : Nat.ble 1 L.sz = true) (hi : ops[i]? = some ⟨some d, .buildSlice T n parts, ty, pos, af, none⟩) (hd : Nat.ble (d + 1) E.N = true)
    (h : PartsK Γ L (fun φs => ∀ b, Run P E ops false (i + 1) D ((d, one (slV (some b) n n)) :: Γ) (sliO (some b) e L n n (fun q => φs.getD q anyT) :: M) os K) 0 [] parts.toList) : Run P E ops false i D Γ M (⟨some d, .buildSlice T n parts, ty, pos, af, none⟩ :: os) K :=
  let ⟨_, h1, h2⟩ := h.ok; a_buildSlice h1 hn (Nat.le_of_ble_eq_true hsm) (Nat.le_of_ble_eq_true hsz) hi (ltN hd) h2
end
end Tor
