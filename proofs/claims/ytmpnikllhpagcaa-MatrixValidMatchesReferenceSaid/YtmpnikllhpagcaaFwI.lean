/-
  An append that needs a new array only reads what was there.
  No condition: general theorems over any program.
-/
import Derived.Test.YtmpnikllhpagcaaFwH
import Derived.Test.YtmpnikllhpagcaaFwG
set_option linter.unusedVariables false
set_option linter.unusedSimpArgs false
set_option linter.unusedSectionVars false
namespace Tor
open Go Go.RowKit

section
variable {P : Program} {E : Env} {D : List Deferred} {Γ : Ctx} {M : Mem} {ty : TypeId} {pos : String} {af : Array Edge} {gd : Option (Nat × Bool)} {d : Option Tmp}
theorem run_appendG {T e : TypeId} {L : Lay} {z : Value} {by' : Nat} [hS : SliceOf P T e] [hL : LayOf P e L] [hZ : ZeroOf P e z by'] {ψ : Nat → VT} [hF : ∀ q, Flat (ψ q) L] {w : World} {h h2 : Hp} {sv : Option Nat} {n cap m cap2 : Nat} {φ : Nat → VT} {a : Option Addr} {rt : TypeId}
    (hsz : 0 < L.sz) (hzs : z.cells.size = L.sz) (ho : (sliO sv e L cap n φ).p (view w) h) (hle : Hp.le h2 (view w))
    (he : ∀ i, i < m → ∃ b o c T f x, a = some ⟨b, o, none⟩ ∧ h2 b = some (c, T, f) ∧ valAt L c (o + i * L.sz) = some x ∧ (ψ i).p x h2)
    (hb : (2 * (n + m) + 1000) * by' ≤ 2 ^ 48) (hnm : n + m ≤ 2 ^ 48) (h12 : Hp.le h2 h) (hgrow : cap < n + m) :
    ∃ sv' cap' w', (Builtin.append_ #[T, T] rt #[slV sv n cap, .slice a m cap2]).run P w = .ok (slV sv' (n + m) cap') w' ∧ (sliO sv' e L cap' (n + m) (fun i => if i < n then φ i else ψ (i - n))).p (view w') h ∧
      sv' = some w.heap.size ∧ ∃ c', w' = w.drew.alloc (.cells c' e) := by
  obtain ⟨g1, g2, g3, g4⟩ := ho
  obtain ⟨ti, hti, htz, htb⟩ := hZ.info
  have hsl := hS.und
  have hund : (underlying T).run P w = .ok (.slice e) w := run_underlying' hsl w
  obtain ⟨new, hn1, hn2, hn3, hn4⟩ := first_cells (P := P) (cap := cap2) hle hsz he
  have hsize := run_sizeOf' (P := P) (T := e) (L := L) w
  have hnew' : ∀ i, i < m → ∃ x, valAt L new (i * L.sz) = some x ∧ (ψ i).p x h := fun i hi => let ⟨x, hx, hp⟩ := hn4 i hi; ⟨x, hx, (ψ i).mono h12 hp⟩
  have hmat : (match (TypeDesc.slice e) with | .int _ => true | _ => false) = false := rfl
  have hfit : ¬ (n + m ≤ cap) := by omega
  have hold : ∃ old : Array Value, (Builtin.firstCells L.sz n (slV sv n cap)).run P w.drew = .ok old w.drew ∧ old.size = n * L.sz ∧ ∀ i, i < n → ∃ x, valAt L old (i * L.sz) = some x ∧ (φ i).p x h := by
    cases sv with
    | none =>
      have hc0 : cap = 0 := g3 rfl
      have hn0 : n = 0 := by omega
      subst hn0
      exact ⟨#[], by simp [Builtin.firstCells, slV], by simp, fun i hi => by omega⟩
    | some b =>
      obtain ⟨c, hc, hcs, hce⟩ := g4 b rfl
      have hcn : n * L.sz ≤ c.size := by rw [hcs]; exact Nat.mul_le_mul_right _ g1
      refine ⟨c.extract 0 (n * L.sz), ?_, by simp; omega, fun i hi => ?_⟩
      · have hc' : view w.drew b = some (c, e, (0, 0)) := hc
        have hl := run_loadCells (P := P) w.drew ⟨b, 0, none⟩ (n * L.sz) (fun j => c.getD j undef) (fun j hj => by
          rw [addr_add, view_cell hc', Array.getD_eq_getD_getElem?, Nat.zero_add]
          have : j < c.size := by omega
          simp [this])
        have hE : ((List.range (n * L.sz)).map fun j => c.getD j undef).toArray = c.extract 0 (n * L.sz) := by
          apply Array.ext
          · simp; omega
          · intro i h1 h2
            simp at h1
            have : i < c.size := by omega
            simp [Array.getD_eq_getD_getElem?, this]
        rw [hE] at hl
        exact hl
      · obtain ⟨x, hx, hp⟩ := hce i hi
        refine ⟨x, ?_, hp⟩
        have e2 : i * L.sz + L.sz ≤ n * L.sz := by
          have := Nat.mul_le_mul_right L.sz (show i + 1 ≤ n by omega); rwa [Nat.succ_mul] at this
        rw [← hx]
        refine valAt_congr (by simp; omega) (by omega) fun j hj => ?_
        have := extract_at c 0 (n * L.sz) (i * L.sz + j)
        rw [Nat.zero_add, Nat.zero_add] at this
        rw [this, if_pos (by omega)]
  obtain ⟨old, ho1, ho2, ho3⟩ := hold
  have hnc := nextcap_le (show cap < n + m by omega)
  have hnb : ¬ (Builtin.nextslicecap (n + m) cap * by' > 2 ^ 48) := by
    have := Nat.mul_le_mul_right by' hnc; omega
  obtain ⟨new2, hn1', hn2', hn3', hn4'⟩ := first_cells (P := P) (w := w.drew) (cap := cap2) (h := h2) hle hsz he
  let nc := (Question.appendCap (n + m) cap e).cut (w.tape w.drawn (.appendCap (n + m) cap e))
  have hnc2 : n + m ≤ nc := by show n + m ≤ (n + m) + _; omega
  have hzr := ZeroOf.run (P := P) (T := e) (z := z)
  refine ⟨some w.heap.size, nc, w.drew.alloc (.cells (old ++ new2 ++ Builtin.zeroCells z.cells (nc - (n + m))) e), ?_, ⟨hnc2, hnm, fun hh => (by cases hh), fun b' hb' => ?_⟩, rfl, _, rfl⟩
  · have hn' : ¬ (n + m ≤ cap) := hfit
    have h63' : ¬ (9223372036854775807 < ((n : Int) + (m : Int))) := by omega
    have h48' : ¬ (281474976710656 < Builtin.nextslicecap (n + m) cap * ti.bytes) := by rw [htb]; simpa using hnb
    have htis : ti.size = L.sz := by
      obtain ⟨ti', k1, k2⟩ := hL.info
      rw [hti] at k1; cases k1; exact k2
    simp only [slV] at ho1 ⊢
    simp [Builtin.append_, run_underlying' hsl, Go.sizeOf, typeInfo, zeroValue, hti, htz, htis, Builtin.lenOf, hn', h63', h48', Question.forced, hn1', ho1, newRow]
    exact ⟨rfl, rfl⟩
  · cases hb'
    refine ⟨_, view_alloc_self w.drew _ _ _, ?_, fun i hi => ?_⟩
    · simp only [Array.size_append, ho2, hn2', Builtin.zeroCells, Array.size_map, Array.size_range, hzs, ← Nat.add_mul]
      congr 1; omega
    · have key : ∀ (k : Nat), k < (n + m) * L.sz → (old ++ new2 ++ Builtin.zeroCells z.cells (nc - (n + m)))[k]? = if k < n * L.sz then old[k]? else new2[k - n * L.sz]? := by
        intro k hk
        rw [Nat.add_mul] at hk
        rw [Array.getElem?_append_left (by simp only [Array.size_append]; omega), Array.getElem?_append]
        simp only [ho2]
      have hsz2 : (n + m) * L.sz ≤ (old ++ new2 ++ Builtin.zeroCells z.cells (nc - (n + m))).size := by
        simp only [Array.size_append, ho2, hn2', Nat.add_mul]; omega
      have hi2 : i * L.sz + L.sz ≤ (n + m) * L.sz := by
        have := Nat.mul_le_mul_right L.sz (show i + 1 ≤ n + m by omega); rwa [Nat.succ_mul] at this
      by_cases hin : i < n
      · simp only [hin, if_true]
        obtain ⟨x, hx, hp⟩ := ho3 i hin
        refine ⟨x, ?_, hp⟩
        have e2 : i * L.sz + L.sz ≤ n * L.sz := by
          have := Nat.mul_le_mul_right L.sz (show i + 1 ≤ n by omega); rwa [Nat.succ_mul] at this
        rw [← hx]
        exact valAt_congr (by omega) (by omega) fun j hj => by rw [key _ (by omega), if_pos (by omega)]
      · simp only [hin, if_false]
        obtain ⟨x, hx, hp⟩ := hn4' (i - n) (by omega)
        refine ⟨x, ?_, (ψ _).mono h12 hp⟩
        have e1 : i * L.sz = n * L.sz + (i - n) * L.sz := by rw [← Nat.add_mul]; congr 1; omega
        have e2 : (i - n) * L.sz + L.sz ≤ m * L.sz := by
          have := Nat.mul_le_mul_right L.sz (show (i - n) + 1 ≤ m by omega); rwa [Nat.succ_mul] at this
        rw [← hx]
        refine valAt_congr (by omega) (by omega) fun j hj => ?_
        rw [key _ (by omega), if_neg (by omega)]; congr 1; omega
theorem s_appendG {T e : TypeId} {L : Lay} {z : Value} {by' : Nat} [hS : SliceOf P T e] [hL : LayOf P e L] [hZ : ZeroOf P e z by'] [hFz : Flat (one z) L] {x y : Operand} {sv : Option Nat} {n cap m : Nat} {φ ψ : Nat → VT} [hF : ∀ q, Flat (ψ q) L] (j : Nat)
    (hx : evalT Γ x = some (one (slV sv n cap))) (hM : M[j]? = some (sliO sv e L cap n φ)) (hy : evalT Γ y = some (slT L m ψ)) (hsz : 0 < L.sz) (hb : (2 * (n + m) + 1000) * by' ≤ 2 ^ 48) (hnm : n + m ≤ 2 ^ 48) (hgrow : cap < n + m) :
    StepO P E Γ M ⟨d, .call ⟨.builtin .append, #[x, y], #[T, T]⟩, ty, pos, af, gd⟩ (slT L (n + m) (fun q => if q < n then φ q else ψ (q - n))) := by
  refine StepO.ofRun' fun a w hB hf => ?_
  have h1 : a.eval x = slV sv n cap := hf x _ (by simp [Op.operands, Call.operands]) hx
  obtain ⟨ad, cap2, h2, h3, h4, he⟩ := hf y _ (by simp [Op.operands, Call.operands]) hy
  have ho := own_get hB hM
  obtain ⟨z1, _, _⟩ := hFz.ok z (fun _ => none) rfl
  obtain ⟨sv', cap', w', hr, hp, rfl, c', rfl⟩ := run_appendG (P := P) (T := T) (e := e) (rt := ty) (cap2 := cap2) hsz z1 ho (hid_le _ _) he hb hnm (Hp.le_refl _) hgrow
  have hx2 : Ext w (w.drew.alloc (.cells c' e)) := (Ext.drew w).trans (Ext.alloc w.drew _)
  refine ⟨slV (some w.heap.size) (n + m) cap', _, ?_, hx2, ?_⟩
  · simp only [execOp, resolve, invoke, builtin, Sem.run_bind, Sem.run_pure, Result.andThen_ok, List.map_toArray, List.map_cons, List.map_nil, h1, h2, hr]
  · refine Own.freeze hp (Base.hv_ext hx2) (fun b hb' => ?_)
    cases hb'
    have hn : w.heap.size ∉ E.O ++ blks M := fun h => by have := hB.ex _ h; omega
    simp only [hv, hid, if_neg hn]
end
end Tor
