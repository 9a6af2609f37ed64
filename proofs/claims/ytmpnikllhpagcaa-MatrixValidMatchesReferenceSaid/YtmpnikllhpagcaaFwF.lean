/-
  Steps of regions in any order; memory that a region makes is claimed behind it.
  No condition: general theorems over any program.
-/
import Derived.Test.YtmpnikllhpagcaaFwE
set_option linter.unusedVariables false
set_option linter.unusedSimpArgs false
set_option linter.unusedSectionVars false
namespace Tor
open Go Go.RowKit

section
variable {P : Program} {E : Env} {D : List Deferred} {Γ : Ctx} {M : Mem} {ops : Array Oper} {i : Nat} {C : List Cell} {os : List Oper} {K : Ctx → List Cell → Prop} {op : Op} {ty : TypeId} {pos : String} {af : Array Edge} {gd : Option (Nat × Bool)} {d : Option Tmp}

theorem ux {d : Nat} {ψ : VT} (h : ∀ B, StepO P (E.hide B) Γ M ⟨some d, op, ty, pos, af, none⟩ ψ) (ha : allocO ⟨some d, op, ty, pos, af, none⟩ = none) (hd : Nat.ble (d + 1) E.N = true) (hr : RunU P E M ops (i + 1) ((d, ψ) :: Γ) C os K) :
    RunU P E M ops i Γ C (⟨some d, op, ty, pos, af, none⟩ :: os) K := .step (.pure ha (fun B => .plain (h B) rfl rfl (ltN hd))) hr
theorem ug1 {d t j : Nat} {want : Bool} {ψ : VT} (hg : guardT ops ⟨some d, op, ty, pos, af, some (j, want)⟩ = some (some t, want)) (hb : look Γ t = some (one (.bool want))) (h : ∀ B, StepO P (E.hide B) Γ M ⟨some d, op, ty, pos, af, some (j, want)⟩ ψ)
    (ha : allocO ⟨some d, op, ty, pos, af, some (j, want)⟩ = none) (hd : Nat.ble (d + 1) E.N = true) (hr : RunU P E M ops (i + 1) ((d, ψ) :: Γ) C os K) : RunU P E M ops i Γ C (⟨some d, op, ty, pos, af, some (j, want)⟩ :: os) K :=
  .step (.pure ha (fun B => .guarded1 hg hb (h B) rfl (ltN hd))) hr
theorem ug0 {d t j : Nat} {want b : Bool} (hg : guardT ops ⟨some d, op, ty, pos, af, some (j, want)⟩ = some (some t, want)) (hb : look Γ t = some (one (.bool b))) (hne : (b == want) = false)
    (ha : allocO ⟨some d, op, ty, pos, af, some (j, want)⟩ = none) (hd : Nat.ble (d + 1) E.N = true) (hr : RunU P E M ops (i + 1) ((d, anyT) :: Γ) C os K) : RunU P E M ops i Γ C (⟨some d, op, ty, pos, af, some (j, want)⟩ :: os) K :=
  .step (.pure ha (fun B => .guarded0 hg hb hne rfl (ltN hd))) hr
theorem ua {d : Nat} {T : TypeId} {L : Lay} {z : Value} {by' : Nat} [hL : LayOf P T L] [hZ : ZeroOf P T z by'] [hF : Flat (one z) L] (hd : Nat.ble (d + 1) E.N = true) (hr : RunU P E M ops (i + 1) Γ C os K) :
    RunU P E M ops i Γ C (⟨some d, .alloc T, ty, pos, af, none⟩ :: os) K := .step (.alloc hL hZ hF rfl (ltN hd)) hr
theorem us {ta : Tmp} {T : TypeId} {L : Lay} {ψ : VT} {y : Operand} [hL : LayOf P T L] [hF : Flat ψ L] (hy : evalT Γ y = some ψ) (hr : RunU P E M ops (i + 1) Γ (⟨ta, T, L, ψ⟩ :: C) os K) :
    RunU P E M ops i Γ C (⟨none, .store T (.tmp ta) y, ty, pos, af, none⟩ :: os) K := .step (.store hL hF rfl hy) hr
theorem ubsel {t : Nat} {b : Bool} (ht : look Γ t = some (one (.bool b))) (h : ∀ b', b = b' → RunU P E M ops i Γ C os K) : RunU P E M ops i Γ C os K := h b rfl
theorem uB {T : TypeId} {m d : Nat} {z : Array Value} {pl : List (Nat × Lay)} [hB : BuildOf P T m z pl] {parts : Array (Nat × Operand)} (hz : (pl.all fun q => (valAt q.2 z q.1).isSome && decide (q.1 + q.2.sz ≤ m)) = true) (hap : apartC (zeroC z pl) = true) (hd : Nat.ble (d + 1) E.N = true)
    (h : BuildK Γ pl (fun CC => RunU P E M ops (i + 1) ((d, aggT m CC) :: Γ) C os K) (zeroC z pl) parts.toList) : RunU P E M ops i Γ C (⟨some d, .build T parts, ty, pos, af, none⟩ :: os) K :=
  let ⟨_, h1, h2⟩ := h.ok; ux (fun B => s_build h1 hz hap) rfl hd h2
theorem uS {T e : TypeId} {L : Lay} {z : Value} {by' n d : Nat} [hS : SliceOf P T e] [hL : LayOf P e L] [hZ : ZeroOf P e z by'] [hFz : Flat (one z) L] {parts : Array (Nat × Operand)}
    (hn : parts.size = n) (hsm : Nat.ble (n * L.sz) 16777216 = true) (hsz : Nat.ble 1 L.sz = true) (hd : Nat.ble (d + 1) E.N = true)
    (h : PartsK Γ L (fun φs => RunU P E M ops (i + 1) ((d, slT L n (fun q => φs.getD q anyT)) :: Γ) C os K) 0 [] parts.toList) : RunU P E M ops i Γ C (⟨some d, .buildSlice T n parts, ty, pos, af, none⟩ :: os) K :=
  let ⟨_, h1, h2⟩ := h.ok; ux (fun B => s_buildSlice h1 hn (Nat.le_of_ble_eq_true hsm) (Nat.le_of_ble_eq_true hsz)) rfl hd h2
theorem uSg {j : Nat} {want : Bool} {t : Nat} {T e : TypeId} {L : Lay} {z : Value} {by' n d : Nat} [hS : SliceOf P T e] [hL : LayOf P e L] [hZ : ZeroOf P e z by'] [hFz : Flat (one z) L] {parts : Array (Nat × Operand)}
    (hg : guardT ops ⟨some d, .buildSlice T n parts, ty, pos, af, some (j, want)⟩ = some (some t, want)) (hb : look Γ t = some (one (.bool want)))
    (hn : parts.size = n) (hsm : Nat.ble (n * L.sz) 16777216 = true) (hsz : Nat.ble 1 L.sz = true) (hd : Nat.ble (d + 1) E.N = true)
    (h : PartsK Γ L (fun φs => RunU P E M ops (i + 1) ((d, slT L n (fun q => φs.getD q anyT)) :: Γ) C os K) 0 [] parts.toList) : RunU P E M ops i Γ C (⟨some d, .buildSlice T n parts, ty, pos, af, some (j, want)⟩ :: os) K :=
  let ⟨_, h1, h2⟩ := h.ok; ug1 hg hb (fun B => s_buildSlice h1 hn (Nat.le_of_ble_eq_true hsm) (Nat.le_of_ble_eq_true hsz)) rfl hd h2
/-- The same in a run in the order of the text. -/
theorem stSg {dr : Bool} {K' : List Deferred → Ctx → Mem → Prop} {j : Nat} {want : Bool} {t : Nat} {T e : TypeId} {L : Lay} {z : Value} {by' n d : Nat} [hS : SliceOf P T e] [hL : LayOf P e L] [hZ : ZeroOf P e z by'] [hFz : Flat (one z) L] {parts : Array (Nat × Operand)}
    (hg : guardT ops ⟨some d, .buildSlice T n parts, ty, pos, af, some (j, want)⟩ = some (some t, want)) (hb : look Γ t = some (one (.bool want)))
    (hn : parts.size = n) (hsm : Nat.ble (n * L.sz) 16777216 = true) (hsz : Nat.ble 1 L.sz = true) (hd : Nat.ble (d + 1) E.N = true)
    (h : PartsK Γ L (fun φs => Run P E ops dr (i + 1) D ((d, slT L n (fun q => φs.getD q anyT)) :: Γ) M os K') 0 [] parts.toList) : Run P E ops dr i D Γ M (⟨some d, .buildSlice T n parts, ty, pos, af, some (j, want)⟩ :: os) K' :=
  let ⟨_, h1, h2⟩ := h.ok; sg1 hg hb (s_buildSlice h1 hn (Nat.le_of_ble_eq_true hsm) (Nat.le_of_ble_eq_true hsz)) hd h2

/-! ### Memory that a region makes -/
/-- A new row whose places are all zero. -/
def frS (B : Nat) (T : TypeId) (L : Lay) (n : Nat) (z : Value) : VT where
  p v h := ∃ b c, B ≤ b ∧ v = slV (some b) n n ∧ h b = some (c, T, (0, 0)) ∧ c.size = n * L.sz ∧ n ≤ 2 ^ 48 ∧ ∀ i, i < n → valAt L c (i * L.sz) = some z
  mono := fun H ⟨b, c, h1, h2, h3, h4⟩ => ⟨b, c, h1, h2, H _ _ h3, h4⟩
instance {B : Nat} {T : TypeId} {L : Lay} {n : Nat} {z : Value} : Flat (frS B T L n z) .one := ⟨fun v h ⟨b, c, _, e, _⟩ => by subst e; simp [slV, Value.cells, Lay.sz, Value.oneCell', valAt]⟩
theorem s_makeSliceF {T e : TypeId} {z : Value} {by' : Nat} {L : Lay} {x y : Operand} {il ic : Int} [hS : SliceOf P T e] [hL : LayOf P e L] [hZ : ZeroOf P e z by'] [hF : Flat (one z) L] (B0 n : Nat) (hB0 : B0 = E.w0.heap.size) (hx : evalT Γ x = some (one (.int .i64 il))) (hy : evalT Γ y = some (one (.int .i64 ic)))
    (hil : il = n) (hic : ic = n) (hb0 : Nat.ble 1 by' = true) (hz0 : Nat.ble 1 L.sz = true) (hn : by' * n ≤ 2 ^ 48) : StepO P E Γ M ⟨d, .makeSlice T x y, ty, pos, af, gd⟩ (frS B0 e L n z) := by
  subst hB0
  have hb0 := Nat.le_of_ble_eq_true hb0
  have hz0 := Nat.le_of_ble_eq_true hz0
  subst hil hic
  refine StepO.ofRun' fun a w hb hf => ?_
  have hx' : a.eval x = .int .i64 n := hf x _ (by simp [Op.operands]) hx
  have hy' : a.eval y = .int .i64 n := hf y _ (by simp [Op.operands]) hy
  obtain ⟨h1, h2, h3⟩ := hF.ok z (fun _ => none) rfl
  have hn48 : n ≤ 2 ^ 48 := by
    have : n ≤ by' * n := Nat.le_mul_of_pos_left n hb0
    omega
  refine ⟨slV (some w.heap.size) n n, w.alloc (.cells (copies z.cells (n * L.sz)) e), ?_, Ext.alloc w _, w.heap.size, _, hb.fr.size, rfl, alloc_le hb, copies_size _ _, hn48, fun q hq => copies_val h1 h3 hq hz0⟩
  simp only [execOp, hx', hy', Sem.run_bind, run_makeSlice hb0 (Nat.le_refl n) hn, Result.andThen_ok, Sem.run_pure]
/-- Behind a region: what is old stays, what the region made is owned. -/
theorem St_claim {a1 a2 : Act} {w1 w2 : World} {N : Mem} {Γn Γk : Ctx} (hS : St E D Γ M a1 w1) (hx : Ext w1 w2) (hsz : a2.tmps.size = E.N) (hdf : a2.defers = D)
    (hk : ∀ t φ, look Γk t = some φ → look Γ t = some φ ∧ a2.tmps.getD t undef = a1.tmps.getD t undef)
    (hmem : ∀ o ∈ N, o.p (view w2) (hv E (N ++ M) w2)) (hnd : (blks N).Nodup) (hb : ∀ b ∈ blks N, w1.heap.size ≤ b ∧ b < w2.heap.size)
    (hn : ∀ t φ, look Γn t = some φ → φ.p (a2.tmps.getD t undef) (hv E (N ++ M) w2)) : St E D (Γn ++ Γk) (N ++ M) a2 w2 := by
  have hex := hS.base.ex
  have hle : Hp.le (hv E M w1) (hv E (N ++ M) w2) := by
    intro b x e
    obtain ⟨h1, h2⟩ := hid_some e
    refine hid_of ?_ (hx.view _ _ h2)
    have hlt := view_lt h2
    intro h
    rw [blks_app] at h
    rcases List.mem_append.1 h with h | h
    · exact h1 (List.mem_append.2 (.inl h))
    · rcases List.mem_append.1 h with h | h
      · have := (hb b h).1; omega
      · exact h1 (List.mem_append.2 (.inr h))
  have hB := hS.base.ext hx
  refine ⟨⟨?_, ?_, ?_, ?_, ?_, hB.fr⟩, hsz, hdf, ?_⟩
  · intro q hq
    rcases List.mem_append.1 hq with hq | hq
    · exact hmem q hq
    · exact q.loc (fun b hb' => (view_eq (hx.block b (hex b (List.mem_append.2 (.inr (blks_mem hq hb')))))).symm) hle (hS.base.mem q hq)
  · rw [blks_app, List.nodup_append]
    refine ⟨hnd, hS.base.nd, fun x hx' y hy => ?_⟩
    have h1 := (hb x hx').1
    have h2 := hex y (List.mem_append.2 (.inr hy)); omega
  · intro b h
    rw [blks_app] at h
    rcases List.mem_append.1 h with h | h
    · intro hO; have := hex _ (List.mem_append.2 (.inl hO)); have := (hb b h).1; omega
    · exact hS.base.dis b h
  · intro b h
    rw [blks_app] at h
    rcases List.mem_append.1 h with h | h
    · exact .inl (Nat.le_trans hS.base.fr.size (hb b h).1)
    · exact hS.base.lo b h
  · intro b h
    rw [blks_app] at h
    rcases List.mem_append.1 h with h | h
    · exact hB.ex b (List.mem_append.2 (.inl h))
    · rcases List.mem_append.1 h with h | h
      · exact (hb b h).2
      · exact hB.ex b (List.mem_append.2 (.inr h))
  · intro t φ h
    rw [look_app] at h
    cases hl : look Γn t with
    | some φ' => rw [hl] at h; simp only [Option.or] at h; cases h; exact hn t _ hl
    | none =>
      rw [hl] at h; simp only [Option.or] at h
      obtain ⟨h1, h2⟩ := hk t φ h
      rw [h2]; exact φ.mono hle (hS.tm t φ h1)
theorem J_regF {id : Nat} {Q : Exit → Act → World → Prop} (hm : P.follows .mixedOrders = true) (hok : okU ops = true)
    (hfree : ((List.range ops.size).all fun j => match allocAt ops j with | some (d, _) => (look Γ d).isNone | none => true) = true)
    (h : ∀ a1 w1, St E D Γ M a1 w1 → RunU P ⟨w1, E.O, blks M ++ E.I, E.N⟩ M ops 0 Γ [] ops.toList (fun Γ' C => ∀ (γ : Nat → Nat) a2 w2, St ⟨w1, E.O, blks M ++ E.I, E.N⟩ D (ptrG γ C ++ Γ') (boxM γ C ++ M) a2 w2 → Ext w1 w2 →
      (∀ t, (∀ j, dstOf ops j ≠ some t) → a2.tmps.getD t undef = a1.tmps.getD t undef) → Q .normal a2 w2)) : J P E D Γ M (.region id ops true) Q := by
  intro a w hS
  have hU := okU_ok hok
  refine wp_region_any hm ?_
  have k : Ext w { w with drawn := w.drawn + 1 } := ⟨rfl, rfl, rfl, Nat.le_refl _, fun _ _ => rfl⟩
  have hS1 : St E D Γ M a { w with drawn := w.drawn + 1 } := ⟨hS.base.ext k, hS.sz, hS.df, fun t φ ht => φ.mono (Base.hv_ext k) (hS.tm t φ ht)⟩
  generalize { w with drawn := w.drawn + 1 } = w1 at hS1
  obtain ⟨G, CC, hG0, hC0, hK, hG'⟩ := (h a w1 hS1).chain
  generalize hE1 : (⟨w1, E.O, blks M ++ E.I, E.N⟩ : Env) = E1 at *
  have hG : ∀ j o, ops[j]? = some o → OpU P E1 M ops (G j) o (CC j) (G (j + 1)) (CC (j + 1)) := fun j o ho => by
    have := hG' j o (by simpa using ho)
    simpa using this
  have hbase : Base E1 M w1 := by
    subst hE1
    exact ⟨hS1.base.mem, hS1.base.nd, hS1.base.dis, fun b hb => .inr (List.mem_append.2 (.inl hb)), hS1.base.ex, Fr.refl _ _⟩
  have hw1 : E1.w0.heap.size ≤ w1.heap.size := by subst hE1; exact Nat.le_refl _
  have ehv : hv E1 M w1 = hv E M w1 := by subst hE1; rfl
  have eN : E1.N = E.N := by subst hE1; rfl
  have hlen : ops.toList.length = ops.size := by simp
  rw [hlen, Nat.zero_add] at hK
  have hfr : ∀ kk j d T, kk ≤ ops.size → allocAt ops j = some (d, T) → look (G kk) d = none := by
    intro kk j d T
    induction kk with
    | zero =>
      intro _ hj
      rw [hG0]
      have := List.all_eq_true.1 hfree j (List.mem_range.2 (lt_of_allocAt hj))
      rw [hj] at this
      simpa using this
    | succ kk ih =>
      intro hk hj
      have ho : ops[kk]? = some ops[kk] := by simp [show kk < ops.size by omega]
      have hprev := ih (by omega) hj
      by_cases e : kk = j
      · subst e
        generalize hX : G (kk + 1) = X
        generalize hY : CC (kk + 1) = Y
        have hop := hG kk _ ho
        rw [hX, hY] at hop
        cases hop with
        | pure hal _ => simp [allocAt, ho, hal] at hj
        | alloc hL hZ hF he hd => exact hprev
        | store hL hF he hy => exact hprev
      · rw [look_stepU hG ho ((hU.al j d T hj).1 kk e)]; exact hprev
  have hl0 : ∀ j, (Array.replicate ops.size false).getD j false = false := fun j => by
    simp [Array.getD_eq_getD_getElem?, Array.getElem?_replicate]; split <;> rfl
  have hhb : hb ops (Array.replicate ops.size false) (fun _ => 0) = [] := by
    rw [List.eq_nil_iff_forall_not_mem]
    intro b hb'
    obtain ⟨j, x, _, h2, _⟩ := mem_hb.1 hb'
    rw [hl0] at h2; cases h2
  refine wpAny_inv (n := ops.size) hU.any (fun l a' w' => ∃ β, InvU P E1 D M ops G w1 a β l a' w') ?_ ?_ ops.size _ a _ ⟨by simp, fun j hj => ?_⟩ ?_ ⟨fun _ => 0, ?_⟩
  · rintro l a' w' ⟨β, hI⟩ hall
    obtain ⟨γ, hS'⟩ := hI.fin hU hG hC0 hw1 hall
    exact hK γ a' w' hS' hI.keepW hI.keepS
  · rintro l a' w' i ⟨β, hI⟩ hl hi1 hi2 hi
    exact stepU hU hG hfr hw1 hI hl hi1 hi2 hi
  · rw [hl0] at hj; cases hj
  · unfold left; refine Nat.le_trans (List.length_filter_le _ _) (by simp)
  · refine ⟨by rw [hhb, hide_nil]; exact hbase, by rw [eN]; exact hS1.sz, hS1.df, ?_, ?_, ?_, ?_, Ext.refl _, fun t _ => rfl⟩
    · rw [hhb, hide_nil]
      intro k' hk' t φ hlk hlo _
      have hno : ∀ j, 0 ≤ j → j < k' → dstOf ops j ≠ some t := by
        intro j _ hj hd
        have := hlo j hj hd
        rw [hl0] at this; cases this
      rw [look_betweenU hG (Nat.zero_le _) hk' hno, hG0] at hlk
      rw [ehv]; exact hS1.tm t φ hlk
    · intro j j' x x' _ _ h3 _; rw [hl0] at h3; cases h3
    · intro j x _ h3; rw [hl0] at h3; cases h3
    · intro j d T _ h3; rw [hl0] at h3; cases h3
theorem aggT_get {m : Nat} {cs : Comps} {c : Array Value} {h : Hp} (H : (aggT m cs).p (.agg c) h) {k : Nat} {L : Lay} {φ : VT} (hl : lookC cs k = some (L, φ)) : ∃ x, valAt L c k = some x ∧ φ.p x h := by
  obtain ⟨c', h1, _, _, h4⟩ := H
  cases h1
  exact h4 _ (lookC_mem hl)
theorem PJ_app {e : Exit} {Q : Exit → Act → World → Prop} {a : Act} {w : World} (h : PJ E D Γ M e Q) (hS : St E D Γ M a w) : Q e a w := h a w hS
def notDst (ops : Array Oper) (t : Nat) : Bool := (List.range ops.size).all fun j => dstOf ops j != some t
theorem notDst_ok {t : Nat} (h : notDst ops t = true) : ∀ j, dstOf ops j ≠ some t := fun j e => by
  have := List.all_eq_true.1 h j (List.mem_range.2 (lt_of_dst e))
  rw [e] at this; simp at this
def Keeps (ops : Array Oper) (Γ Γk : Ctx) : Prop := ∀ t φ, look Γk t = some φ → look Γ t = some φ ∧ ∀ j, dstOf ops j ≠ some t
theorem Keeps.nil : Keeps ops Γ [] := fun t φ h => by cases h
theorem Keeps.cons {t : Nat} {φ : VT} {Γk : Ctx} (h : look Γ t = some φ) (hd : notDst ops t = true) (hr : Keeps ops Γ Γk) : Keeps ops Γ ((t, φ) :: Γk) := fun s ψ hs => by
  rw [look_cons] at hs
  split at hs
  · rename_i e; subst e; cases hs; exact ⟨h, notDst_ok hd⟩
  · exact hr s ψ hs
/-- A variable whose part k is a new row. -/
theorem St_claimBR {a1 a2 : Act} {w1 w2 : World} {Γ2 Γk : Ctx} {t b m k n : Nat} {T T' : TypeId} {L : Lay} {z : Value} {cs cs1 : Comps} (hS : St E D Γ M a1 w1) (hI : E.I = [])
    (hS2 : St ⟨w1, E.O, blks M ++ E.I, E.N⟩ D Γ2 (boxO b T m [(0, .agg m, aggT m cs)] :: M) a2 w2) (hx : Ext w1 w2) (hk2 : ∀ t, (∀ j, dstOf ops j ≠ some t) → a2.tmps.getD t undef = a1.tmps.getD t undef) (hk : Keeps ops Γ Γk)
    (ht : look Γ2 t = some (one (.pointer (some ⟨b, 0, none⟩)))) (hl : lookC cs k = some (.one, frS w1.heap.size T' L n z)) (hc1 : ∀ q ∈ cs1, ∃ v, q.2.2 = one v ∧ lookC cs q.1 = some (q.2.1, one v)) :
    ∃ b2, St E D ((t, one (.pointer (some ⟨b, 0, none⟩))) :: Γk) (boxO b T m ((k, .one, one (slV (some b2) n n)) :: cs1) :: sliO (some b2) T' L n n (fun _ => one z) :: M) a2 w2 := by
  have hbox := hS2.base.mem _ List.mem_cons_self
  obtain ⟨c, hc, hs, ha, hcs⟩ := hbox
  obtain ⟨v, hv1, hv2⟩ := hcs _ List.mem_cons_self
  have hv1 : (if 0 + m ≤ c.size then some (Value.agg (c.extract 0 (0 + m))) else none) = some v := hv1
  rw [if_pos (by omega)] at hv1
  have e1 : c.extract 0 (0 + m) = c := by rw [Nat.zero_add, ← hs]; simp
  rw [e1] at hv1; cases hv1
  obtain ⟨x, hx1, b2, c2, g1, g2, g3, g4, g5, g6⟩ := aggT_get hv2 hl
  obtain ⟨n1, n2⟩ := hid_some g3
  have hbb : w1.heap.size ≤ b ∧ b < w2.heap.size := by
    refine ⟨?_, hS2.base.ex b (by simp [boxO])⟩
    rcases hS2.base.lo b (by simp [boxO]) with h | h
    · exact h
    · exfalso
      rw [hI, List.append_nil] at h
      have hnd := hS2.base.nd
      rw [blks_cons, List.nodup_append] at hnd
      exact hnd.2.2 b (by simp [boxO]) b h rfl
  have hne : b2 ≠ b := fun e => n1 (by rw [e]; simp [boxO])
  refine ⟨b2, St_claim (N := [boxO b T m ((k, .one, one (slV (some b2) n n)) :: cs1), sliO (some b2) T' L n n (fun _ => one z)]) (Γn := [(t, one (.pointer (some ⟨b, 0, none⟩)))]) hS hx hS2.sz hS2.df (fun t φ h => ⟨(hk t φ h).1, hk2 t (hk t φ h).2⟩) ?_ ?_ ?_ ?_⟩
  · intro o ho
    rcases List.mem_cons.1 ho with rfl | ho
    · refine ⟨c, hc, hs, ha, fun q hq => ?_⟩
      rcases List.mem_cons.1 hq with rfl | hq
      · exact ⟨x, hx1, g2⟩
      · obtain ⟨v, e1, e2⟩ := hc1 q hq
        obtain ⟨y, hy1, hy2⟩ := aggT_get hv2 e2
        exact ⟨y, hy1, by rw [e1]; exact hy2⟩
    · have ho := List.mem_singleton.1 ho
      subst ho
      refine ⟨Nat.le_refl _, g5, (fun h => by cases h), fun b' hb' => ?_⟩
      cases hb'
      exact ⟨c2, n2, g4, fun i hi => ⟨z, g6 i hi, rfl⟩⟩
  · simp [blks, boxO, sliO]; exact fun e => hne e.symm
  · intro b' hb'
    simp [blks, boxO, sliO] at hb'
    rcases hb' with rfl | rfl
    · exact hbb
    · exact ⟨g1, view_lt n2⟩
  · intro s φ hs
    rw [look_cons] at hs
    split at hs
    · rename_i e; subst e; cases hs; exact hS2.tm _ _ ht
    · cases hs
end
end Tor
