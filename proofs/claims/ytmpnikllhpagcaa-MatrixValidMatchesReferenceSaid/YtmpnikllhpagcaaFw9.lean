/-
  Rules for append, slice literals, arrays in variables.
  No condition: general theorems over any program.
-/
import Derived.Test.YtmpnikllhpagcaaFw8
set_option linter.unusedVariables false
set_option linter.unusedSimpArgs false
set_option linter.unusedSectionVars false
namespace Tor
open Go Go.RowKit

section
variable {P : Program} {E : Env} {D : List Deferred} {Γ : Ctx} {M : Mem} {Q : Exit → Act → World → Prop}
variable {ops : Array Oper} {i : Nat} {ty : TypeId} {pos : String} {af : Array Edge} {os : List Oper} {K : List Deferred → Ctx → Mem → Prop} {d : Option Tmp} {gd : Option (Nat × Bool)} {dr : Bool} {op : Op}

theorem valAt_le {L : Lay} {c : Array Value} {o : Nat} {x : Value} (h : valAt L c o = some x) : o + L.sz ≤ c.size := by
  cases L with
  | one => have := (Array.getElem?_eq_some_iff.1 h).1; simp only [Lay.sz]; omega
  | agg n => simp only [valAt] at h; split at h
             · assumption
             · cases h
theorem valAt_congr {L : Lay} {c c' : Array Value} {o o' : Nat} (h1 : o + L.sz ≤ c.size) (h2 : o' + L.sz ≤ c'.size) (h : ∀ j, j < L.sz → c[o + j]? = c'[o' + j]?) : valAt L c o = valAt L c' o' := by
  cases L with
  | one => have := h 0 (by simp [Lay.sz]); rw [Nat.add_zero, Nat.add_zero] at this; exact this
  | agg n =>
    simp only [valAt, Lay.sz] at *
    rw [if_pos h1, if_pos h2]
    congr 2
    apply Array.ext_getElem?; intro j
    rw [extract_at, extract_at]
    split
    · rename_i hj; exact h j hj
    · rfl
theorem valAt_cell {L : Lay} {c : Array Value} {o j : Nat} {x : Value} (h : valAt L c o = some x) (hx : x.cells.all (·.oneCell') = true) (hs : x.cells.size = L.sz) (h0 : valAt L x.cells 0 = some x) (hj : j < L.sz) : ∃ y, c[o + j]? = some y ∧ y.oneCell' = true := by
  cases L with
  | one =>
    simp only [Lay.sz] at *
    have : j = 0 := by omega
    subst this
    refine ⟨x, h, ?_⟩
    simp only [valAt] at h0
    exact (Array.all_eq_true_iff_forall_mem.1 hx) x (Array.mem_of_getElem? h0)
  | agg n =>
    simp only [valAt, Lay.sz] at *
    split at h
    · rename_i hle
      cases h
      simp only [Value.cells] at hx
      have e := extract_at c o n j
      rw [if_pos hj] at e
      have hlt : o + j < c.size := by omega
      refine ⟨c[o + j], by simp [hlt], ?_⟩
      refine (Array.all_eq_true_iff_forall_mem.1 hx) _ (Array.mem_of_getElem? (i := j) ?_)
      rw [e]; simp [hlt]
    · cases h

/-- The cells of a slice, one behind the other. -/
theorem first_cells {L : Lay} {w : World} {h : Hp} (hle : Hp.le h (view w)) {a : Option Addr} {m cap : Nat} {ψ : Nat → VT} [hF : ∀ q, Flat (ψ q) L] (hsz : 0 < L.sz)
    (he : ∀ i, i < m → ∃ b o c T f x, a = some ⟨b, o, none⟩ ∧ h b = some (c, T, f) ∧ valAt L c (o + i * L.sz) = some x ∧ (ψ i).p x h) :
    ∃ new : Array Value, (Builtin.firstCells L.sz m (.slice a m cap)).run P w = .ok new w ∧ new.size = m * L.sz ∧ new.all (·.oneCell') = true ∧ ∀ i, i < m → ∃ x, valAt L new (i * L.sz) = some x ∧ (ψ i).p x h := by
  by_cases hm : m = 0
  · subst hm
    refine ⟨#[], ?_, by simp, by simp, fun i hi => by omega⟩
    cases a with
    | none => simp [Builtin.firstCells]
    | some ad => simp [Builtin.firstCells, loadCells, loadCellsFrom]
  · obtain ⟨b, o, c, T, f, x0, rfl, hb, hx0, _⟩ := he 0 (by omega)
    have hc : view w b = some (c, T, f) := hle _ _ hb
    have hel : ∀ i, i < m → ∃ x, valAt L c (o + i * L.sz) = some x ∧ (ψ i).p x h := by
      intro i hi
      obtain ⟨b', o', c', T', f', x, h1, h2, h3, h4⟩ := he i hi
      simp only [Option.some.injEq, Addr.mk.injEq, and_true] at h1
      obtain ⟨rfl, rfl⟩ := h1
      rw [hb] at h2; cases h2
      exact ⟨x, h3, h4⟩
    have hcell : ∀ k, k < m * L.sz → ∃ y, c[o + k]? = some y ∧ y.oneCell' = true := by
      intro k hk
      have hq : k / L.sz < m := Nat.div_lt_of_lt_mul (by rw [Nat.mul_comm]; exact hk)
      obtain ⟨x, hx, hp⟩ := hel (k / L.sz) hq
      obtain ⟨f1, f2, f3⟩ := (hF (k / L.sz)).ok _ _ hp
      obtain ⟨y, hy, ho⟩ := valAt_cell (j := k % L.sz) hx f2 f1 f3 (Nat.mod_lt _ hsz)
      refine ⟨y, ?_, ho⟩
      have : o + k / L.sz * L.sz + k % L.sz = o + k := by
        have := Nat.div_add_mod k L.sz; rw [Nat.mul_comm] at this; omega
      rw [this] at hy; exact hy
    have hfit : o + m * L.sz ≤ c.size := by
      obtain ⟨x, hx, _⟩ := hel (m - 1) (by omega)
      have := valAt_le hx
      have e : m * L.sz = (m - 1) * L.sz + L.sz := by
        have : m = (m - 1) + 1 := by omega
        conv => lhs; rw [this, Nat.succ_mul]
      omega
    refine ⟨c.extract o (o + m * L.sz), ?_, by simp; omega, ?_, fun i hi => ?_⟩
    · have hl := run_loadCells (P := P) w ⟨b, o, none⟩ (m * L.sz) (fun j => c.getD (o + j) undef) (fun j hj => by
        rw [addr_add, view_cell hc, Array.getD_eq_getD_getElem?]
        have : o + j < c.size := by omega
        simp [this])
      have hE : ((List.range (m * L.sz)).map fun j => c.getD (o + j) undef).toArray = c.extract o (o + m * L.sz) := by
        apply Array.ext
        · simp; omega
        · intro i h1 h2
          simp at h1
          have : o + i < c.size := by omega
          simp [Array.getD_eq_getD_getElem?, this]
      rw [hE] at hl
      exact hl
    · rw [Array.all_eq_true_iff_forall_mem]
      intro y hy
      obtain ⟨k, hk⟩ := Array.mem_iff_getElem?.1 hy
      rw [extract_at] at hk
      split at hk
      · rename_i hk'
        obtain ⟨y', h1, h2⟩ := hcell k hk'
        rw [h1] at hk; cases hk; exact h2
      · cases hk
    · obtain ⟨x, hx, hp⟩ := hel i hi
      refine ⟨x, ?_, hp⟩
      have hi2 : i * L.sz + L.sz ≤ m * L.sz := by
        have := Nat.mul_le_mul_right L.sz (show i + 1 ≤ m by omega); rwa [Nat.succ_mul] at this
      rw [← hx]
      refine valAt_congr (by simp; omega) (by omega) fun j hj => ?_
      rw [extract_at, if_pos (by omega)]; congr 1; omega

theorem growBy_le (need : Nat) : ∀ (r c : Nat), c ≤ 2 * need + 1000 → (c < need → True) → Builtin.growBy need r c ≤ 2 * need + 1000
  | 0, c, h, _ => h
  | r + 1, c, h, _ => by
    rw [Builtin.growBy]
    split
    · exact h
    · exact growBy_le need r _ (by omega) (fun _ => trivial)
theorem nextcap_le {need cap : Nat} (h : cap < need) : Builtin.nextslicecap need cap ≤ 2 * need + 1000 := by
  unfold Builtin.nextslicecap
  split
  · omega
  · split
    · omega
    · exact growBy_le need 4 cap (by omega) (fun _ => trivial)

theorem drew_view (w : World) : view w.drew = view w := rfl
theorem Ext.drew (w : World) : Ext w w.drew := (Below.refl _ _).drew

/-- append. -/
theorem run_append {T e : TypeId} {L : Lay} {z : Value} {by' : Nat} [hS : SliceOf P T e] [hL : LayOf P e L] [hZ : ZeroOf P e z by'] {ψ : Nat → VT} [hF : ∀ q, Flat (ψ q) L] {w : World} {h h2 : Hp} {sv : Option Nat} {n cap m cap2 : Nat} {φ : Nat → VT} {a : Option Addr} {rt : TypeId}
    (hsz : 0 < L.sz) (hzs : z.cells.size = L.sz) (ho : (sliO sv e L cap n φ).p (view w) h) (hle : Hp.le h2 (view w))
    (he : ∀ i, i < m → ∃ b o c T f x, a = some ⟨b, o, none⟩ ∧ h2 b = some (c, T, f) ∧ valAt L c (o + i * L.sz) = some x ∧ (ψ i).p x h2)
    (hb : (2 * (n + m) + 1000) * by' ≤ 2 ^ 48) (hnm : n + m ≤ 2 ^ 48) (h12 : Hp.le h2 h) :
    ∃ sv' cap' w', (Builtin.append_ #[T, T] rt #[slV sv n cap, .slice a m cap2]).run P w = .ok (slV sv' (n + m) cap') w' ∧ (sliO sv' e L cap' (n + m) (fun i => if i < n then φ i else ψ (i - n))).p (view w') h ∧
      ((sv' = sv ∧ (w' = w ∨ ∃ b c', sv = some b ∧ w' = w.setRow b c')) ∨ (sv' = some w.heap.size ∧ ∃ c', w' = w.drew.alloc (.cells c' e))) := by
  obtain ⟨g1, g2, g3, g4⟩ := ho
  obtain ⟨ti, hti, htz, htb⟩ := hZ.info
  have hsl := hS.und
  have hund : (underlying T).run P w = .ok (.slice e) w := run_underlying' hsl w
  obtain ⟨new, hn1, hn2, hn3, hn4⟩ := first_cells (P := P) (cap := cap2) hle hsz he
  have hsize := run_sizeOf' (P := P) (T := e) (L := L) w
  have hnew' : ∀ i, i < m → ∃ x, valAt L new (i * L.sz) = some x ∧ (ψ i).p x h := fun i hi => let ⟨x, hx, hp⟩ := hn4 i hi; ⟨x, hx, (ψ i).mono h12 hp⟩
  have hmat : (match (TypeDesc.slice e) with | .int _ => true | _ => false) = false := rfl
  by_cases hfit : n + m ≤ cap
  · -- there is room
    cases sv with
    | none =>
      have hc0 : cap = 0 := g3 rfl
      have hm0 : m = 0 := by omega
      have hn0 : n = 0 := by omega
      subst hm0 hn0 hc0
      refine ⟨none, 0, w, ?_, ⟨by omega, by omega, fun _ => rfl, fun b hb => by cases hb⟩, .inl ⟨rfl, .inl rfl⟩⟩
      simp [Builtin.append_, slV, hund, hsize, Builtin.lenOf, hn1]
    | some b =>
      obtain ⟨c, hc, hcs, hce⟩ := g4 b rfl
      have hrm : n * L.sz + new.size ≤ c.size := by
        rw [hn2, hcs, ← Nat.add_mul]; exact Nat.mul_le_mul_right _ hfit
      have hst := run_storeCells_at (P := P) b (n * L.sz) e new.toList 0 c w (view_some hc) (by simp; omega) (fun x hx => (Array.all_eq_true_iff_forall_mem.1 hn3) x (by simpa using hx))
      simp only [Nat.add_zero, Array.length_toList] at hst
      refine ⟨some b, cap, w.setRow b (splice c (n * L.sz) new), ?_, ⟨hfit, hnm, fun hh => (by cases hh), fun b' hb' => ?_⟩, .inl ⟨rfl, .inr ⟨b, _, rfl, rfl⟩⟩⟩
      · simp [Builtin.append_, slV, hund, hsize, Builtin.lenOf, hn1, hfit, addr_add, hst, splice]
      · cases hb'
        refine ⟨_, view_setRow hc, by rw [splice_size hrm]; exact hcs, fun i hi => ?_⟩
        by_cases hin : i < n
        · simp only [hin, if_true]
          obtain ⟨x, hx, hp⟩ := hce i hin
          refine ⟨x, ?_, hp⟩
          rw [valAt_splice_ne hrm]; · exact hx
          left
          have := Nat.mul_le_mul_right L.sz (show i + 1 ≤ n by omega); rwa [Nat.succ_mul] at this
        · simp only [hin, if_false]
          obtain ⟨x, hx, hp⟩ := hnew' (i - n) (by omega)
          refine ⟨x, ?_, hp⟩
          rw [← hx]
          have e1 : i * L.sz = n * L.sz + (i - n) * L.sz := by rw [← Nat.add_mul]; congr 1; omega
          have e2 : (i - n) * L.sz + L.sz ≤ m * L.sz := by
            have := Nat.mul_le_mul_right L.sz (show (i - n) + 1 ≤ m by omega); rwa [Nat.succ_mul] at this
          refine valAt_congr (by rw [splice_size hrm]; omega) (by omega) fun j hj => ?_
          rw [splice_at hrm, if_pos (by omega)]; congr 1; omega
  · -- a new array
    have hold : ∃ old : Array Value, (Builtin.firstCells L.sz n (slV sv n cap)).run P w.drew = .ok old w.drew ∧ old.size = n * L.sz ∧ ∀ i, i < n → ∃ x, valAt L old (i * L.sz) = some x ∧ (φ i).p x h := by
      cases sv with
      | none =>
        have hc0 : cap = 0 := g3 rfl
        have hn0 : n = 0 := by omega
        subst hn0
        exact ⟨#[], by simp [Builtin.firstCells, slV], by simp, fun i hi => by omega⟩
      | some b =>
        obtain ⟨c, hc, hcs, hce⟩ := g4 b rfl
        have hcn : n * L.sz ≤ c.size := by rw [hcs]; exact Nat.mul_le_mul_right _ g1
        refine ⟨c.extract 0 (n * L.sz), ?_, by simp; omega, fun i hi => ?_⟩
        · have hc' : view w.drew b = some (c, e, (0, 0)) := hc
          have hl := run_loadCells (P := P) w.drew ⟨b, 0, none⟩ (n * L.sz) (fun j => c.getD j undef) (fun j hj => by
            rw [addr_add, view_cell hc', Array.getD_eq_getD_getElem?, Nat.zero_add]
            have : j < c.size := by omega
            simp [this])
          have hE : ((List.range (n * L.sz)).map fun j => c.getD j undef).toArray = c.extract 0 (n * L.sz) := by
            apply Array.ext
            · simp; omega
            · intro i h1 h2
              simp at h1
              have : i < c.size := by omega
              simp [Array.getD_eq_getD_getElem?, this]
          rw [hE] at hl
          exact hl
        · obtain ⟨x, hx, hp⟩ := hce i hi
          refine ⟨x, ?_, hp⟩
          have e2 : i * L.sz + L.sz ≤ n * L.sz := by
            have := Nat.mul_le_mul_right L.sz (show i + 1 ≤ n by omega); rwa [Nat.succ_mul] at this
          rw [← hx]
          refine valAt_congr (by simp; omega) (by omega) fun j hj => ?_
          have := extract_at c 0 (n * L.sz) (i * L.sz + j)
          rw [Nat.zero_add, Nat.zero_add] at this
          rw [this, if_pos (by omega)]
    obtain ⟨old, ho1, ho2, ho3⟩ := hold
    have hnc := nextcap_le (show cap < n + m by omega)
    have hnb : ¬ (Builtin.nextslicecap (n + m) cap * by' > 2 ^ 48) := by
      have := Nat.mul_le_mul_right by' hnc; omega
    obtain ⟨new2, hn1', hn2', hn3', hn4'⟩ := first_cells (P := P) (w := w.drew) (cap := cap2) (h := h2) hle hsz he
    let nc := (Question.appendCap (n + m) cap e).cut (w.tape w.drawn (.appendCap (n + m) cap e))
    have hnc2 : n + m ≤ nc := by show n + m ≤ (n + m) + _; omega
    have hzr := ZeroOf.run (P := P) (T := e) (z := z)
    refine ⟨some w.heap.size, nc, w.drew.alloc (.cells (old ++ new2 ++ Builtin.zeroCells z.cells (nc - (n + m))) e), ?_, ⟨hnc2, hnm, fun hh => (by cases hh), fun b' hb' => ?_⟩, .inr ⟨rfl, _, rfl⟩⟩
    · have hn' : ¬ (n + m ≤ cap) := hfit
      have h63' : ¬ (9223372036854775807 < ((n : Int) + (m : Int))) := by omega
      have h48' : ¬ (281474976710656 < Builtin.nextslicecap (n + m) cap * ti.bytes) := by rw [htb]; simpa using hnb
      have htis : ti.size = L.sz := by
        obtain ⟨ti', k1, k2⟩ := hL.info
        rw [hti] at k1; cases k1; exact k2
      simp only [slV] at ho1 ⊢
      simp [Builtin.append_, run_underlying' hsl, Go.sizeOf, typeInfo, zeroValue, hti, htz, htis, Builtin.lenOf, hn', h63', h48', Question.forced, hn1', ho1, newRow]
      exact ⟨rfl, rfl⟩
    · cases hb'
      refine ⟨_, view_alloc_self w.drew _ _ _, ?_, fun i hi => ?_⟩
      · simp only [Array.size_append, ho2, hn2', Builtin.zeroCells, Array.size_map, Array.size_range, hzs, ← Nat.add_mul]
        congr 1; omega
      · have key : ∀ (k : Nat), k < (n + m) * L.sz → (old ++ new2 ++ Builtin.zeroCells z.cells (nc - (n + m)))[k]? = if k < n * L.sz then old[k]? else new2[k - n * L.sz]? := by
          intro k hk
          rw [Nat.add_mul] at hk
          rw [Array.getElem?_append_left (by simp only [Array.size_append]; omega), Array.getElem?_append]
          simp only [ho2]
        have hsz2 : (n + m) * L.sz ≤ (old ++ new2 ++ Builtin.zeroCells z.cells (nc - (n + m))).size := by
          simp only [Array.size_append, ho2, hn2', Nat.add_mul]; omega
        have hi2 : i * L.sz + L.sz ≤ (n + m) * L.sz := by
          have := Nat.mul_le_mul_right L.sz (show i + 1 ≤ n + m by omega); rwa [Nat.succ_mul] at this
        by_cases hin : i < n
        · simp only [hin, if_true]
          obtain ⟨x, hx, hp⟩ := ho3 i hin
          refine ⟨x, ?_, hp⟩
          have e2 : i * L.sz + L.sz ≤ n * L.sz := by
            have := Nat.mul_le_mul_right L.sz (show i + 1 ≤ n by omega); rwa [Nat.succ_mul] at this
          rw [← hx]
          exact valAt_congr (by omega) (by omega) fun j hj => by rw [key _ (by omega), if_pos (by omega)]
        · simp only [hin, if_false]
          obtain ⟨x, hx, hp⟩ := hn4' (i - n) (by omega)
          refine ⟨x, ?_, (ψ _).mono h12 hp⟩
          have e1 : i * L.sz = n * L.sz + (i - n) * L.sz := by rw [← Nat.add_mul]; congr 1; omega
          have e2 : (i - n) * L.sz + L.sz ≤ m * L.sz := by
            have := Nat.mul_le_mul_right L.sz (show (i - n) + 1 ≤ m by omega); rwa [Nat.succ_mul] at this
          rw [← hx]
          refine valAt_congr (by omega) (by omega) fun j hj => ?_
          rw [key _ (by omega), if_neg (by omega)]; congr 1; omega

/-- A block of the call's own gives way to a new one. -/
theorem St.renew {a : Act} {w : World} (hS : St E D Γ M a w) {j : Nat} {o o' : Own} (hM : M[j]? = some o) {c : Array Value} {T : TypeId} (hbl : o'.bl = [w.heap.size])
    (hp : o'.p (view (w.drew.alloc (.cells c T))) (hv E M w)) {d : Nat} (hd : d < E.N) {v : Value} {ψ : VT} (hv' : ψ.p v (hv E M w)) :
    St E D ((d, ψ) :: Γ) (M.set j o') (a.put (some d) v) (w.drew.alloc (.cells c T)) := by
  have k : Ext w w.drew := Ext.drew w
  have hS' : St E D Γ M a w.drew := ⟨hS.base.ext k, hS.sz, hS.df, fun t φ h => φ.mono (Base.hv_ext k) (hS.tm t φ h)⟩
  have h1 := hS'.alloc (o := o') (c := c) (T := T) (d := d) (v := v) (ψ := ψ) hbl hp hd hv'
  -- the entry is moved from the front to its place
  have hlt := (List.getElem?_eq_some_iff.1 hM).1
  have hmem : ∀ q ∈ M.set j o', q ∈ o' :: M := by
    intro q hq
    rcases List.mem_or_eq_of_mem_set hq with h | h
    · exact List.mem_cons_of_mem _ h
    · subst h; exact List.mem_cons_self
  have hblk : ∀ {M : Mem} {j : Nat}, j < M.length → ∀ b, b ∈ blks (M.set j o') → b ∈ blks (o' :: M) := by
    intro M j hj b hb
    obtain ⟨q, hq, hbq⟩ := List.mem_flatMap.1 hb
    rcases List.mem_or_eq_of_mem_set hq with h | h
    · exact List.mem_flatMap.2 ⟨q, List.mem_cons_of_mem _ h, hbq⟩
    · subst h; exact List.mem_flatMap.2 ⟨_, List.mem_cons_self, hbq⟩
  have hnd : ∀ {M : Mem} {j : Nat}, j < M.length → (blks (o' :: M)).Nodup → (blks (M.set j o')).Nodup := by
    intro M
    induction M with
    | nil => intro j hj; simp at hj
    | cons x M ih =>
      intro j hj hn
      simp only [blks_cons] at hn
      rw [← List.append_assoc, List.nodup_append, List.nodup_append] at hn
      obtain ⟨⟨n1, n2, n3⟩, n4, n5⟩ := hn
      cases j with
      | zero =>
        simp only [List.set_cons_zero, blks_cons, List.nodup_append]
        exact ⟨n1, n4, fun a ha b hb => n5 a (List.mem_append.2 (.inl ha)) b hb⟩
      | succ j =>
        simp only [List.set_cons_succ, blks_cons, List.nodup_append]
        have hj' : j < M.length := by simpa using hj
        refine ⟨n2, ih hj' ?_, fun a ha b hb => ?_⟩
        · simp only [blks_cons, List.nodup_append]
          exact ⟨n1, n4, fun a ha b hb => n5 a (List.mem_append.2 (.inl ha)) b hb⟩
        · have := hblk hj' b hb
          simp only [blks_cons, List.mem_append] at this
          rcases this with h | h
          · exact fun e => n3 b h a ha e.symm
          · exact n5 a (List.mem_append.2 (.inr ha)) b h
  have hle : Hp.le (hv E (o' :: M) (w.drew.alloc (.cells c T))) (hv E (M.set j o') (w.drew.alloc (.cells c T))) := hv_sub fun b hb => hblk hlt b hb
  refine ⟨⟨fun q hq => q.loc (fun _ _ => rfl) hle (h1.base.mem q (hmem q hq)), hnd hlt h1.base.nd, fun b hb => h1.base.dis b (hblk hlt b hb), fun b hb => h1.base.lo b (hblk hlt b hb), fun b hb => h1.base.ex b ?_, h1.base.fr⟩, h1.sz, h1.df, fun t φ h => φ.mono hle (h1.tm t φ h)⟩
  rcases List.mem_append.1 hb with h | h
  · exact List.mem_append.2 (.inl h)
  · exact List.mem_append.2 (.inr (hblk hlt b h))

theorem a_append {T e : TypeId} {L : Lay} {z : Value} {by' : Nat} [hS : SliceOf P T e] [hL : LayOf P e L] [hZ : ZeroOf P e z by'] [hFz : Flat (one z) L] {x y : Operand} {sv : Option Nat} {n cap m d : Nat} {φ ψ : Nat → VT} [hF : ∀ q, Flat (ψ q) L] (j : Nat)
    (hx : evalT Γ x = some (one (slV sv n cap))) (hM : M[j]? = some (sliO sv e L cap n φ)) (hy : evalT Γ y = some (slT L m ψ)) (hsz : 0 < L.sz) (hb : (2 * (n + m) + 1000) * by' ≤ 2 ^ 48) (hnm : n + m ≤ 2 ^ 48)
    (hi : ops[i]? = some ⟨some d, .call ⟨.builtin .append, #[x, y], #[T, T]⟩, ty, pos, af, none⟩) (hd : d < E.N)
    (h : ∀ sv' cap', Run P E ops false (i + 1) D ((d, one (slV sv' (n + m) cap')) :: Γ) (M.set j (sliO sv' e L cap' (n + m) (fun q => if q < n then φ q else ψ (q - n)))) os K) :
    Run P E ops false i D Γ M (⟨some d, .call ⟨.builtin .append, #[x, y], #[T, T]⟩, ty, pos, af, none⟩ :: os) K := by
  refine Run.one (K' := fun D' Γ' M' => ∃ sv' cap', D' = D ∧ Γ' = (d, one (slV sv' (n + m) cap')) :: Γ ∧ M' = M.set j (sliO sv' e L cap' (n + m) (fun q => if q < n then φ q else ψ (q - n)))) rfl (fun a w hSt => ?_) (fun D' Γ' M' ⟨sv', cap', h1, h2, h3⟩ => by subst h1 h2 h3; exact h sv' cap') hi
  have h1 : a.eval x = slV sv n cap := evalT_p hSt hx
  obtain ⟨ad, cap2, h2, h3, h4, he⟩ := evalT_p hSt hy
  have ho := own_get hSt.base hM
  obtain ⟨z1, _, _⟩ := hFz.ok z (fun _ => none) rfl
  obtain ⟨sv', cap', w', hr, hp, hw⟩ := run_append (P := P) (T := T) (e := e) (rt := ty) (cap2 := cap2) hsz z1 ho (hid_le _ _) he hb hnm (Hp.le_refl _)
  refine ⟨.ok (.value (slV sv' (n + m) cap')) w', ?_, D, _, _, ⟨sv', cap', rfl, rfl, rfl⟩, ?_⟩
  · simp only [execOp, resolve, invoke, builtin, Sem.run_bind, Sem.run_pure, Result.andThen_ok, List.map_toArray, List.map_cons, List.map_nil, h1, h2, hr]
  · show St E D _ _ (a.put (some d) _) _
    rcases hw with ⟨rfl, hw⟩ | ⟨hs, c', rfl⟩
    · have hSt2 : St E D Γ (M.set j (sliO sv' e L cap' (n + m) (fun q => if q < n then φ q else ψ (q - n)))) a w' := by
        refine hSt.own hM rfl ?_ ?_ ?_ ?_ ?_ hp
        · intro k hk
          rcases hw with rfl | ⟨b, c', hb', rfl⟩
          · rfl
          · exact setRow_other _ _ _ _ (by intro e'; apply hk; simp [sliO, hb', e'])
        all_goals (rcases hw with rfl | ⟨b, c', hb', rfl⟩ <;> first | rfl | exact setRow_size _ _ _)
      exact hSt2.put (Ext.refl _) hd rfl
    · exact hSt.renew hM (by simp [sliO, hs]) hp hd rfl

/-! ### Slice literals -/
def flatAll (L : Lay) : List VT → Prop
  | [] => True
  | φ :: φs => (∀ v h, φ.p v h → v.cells.size = L.sz ∧ v.cells.all (·.oneCell') = true ∧ valAt L v.cells 0 = some v) ∧ flatAll L φs
inductive PartsOk (Γ : Ctx) (L : Lay) : Nat → List (Nat × Operand) → List VT → Prop
  | nil {k} : PartsOk Γ L k [] []
  | cons {k x r φ φs} [hF : Flat φ L] : evalT Γ x = some φ → PartsOk Γ L (k + 1) r φs → PartsOk Γ L k ((k, x) :: r) (φ :: φs)
theorem PartsOk.len {L : Lay} {k : Nat} {r : List (Nat × Operand)} {φs : List VT} (h : PartsOk Γ L k r φs) : φs.length = r.length := by
  induction h with
  | nil => rfl
  | cons _ _ ih => simp [ih]
theorem parts_fill {L : Lay} {a : Act} {h : Hp} {m : Nat} {r : List (Nat × Operand)} {φs : List VT} {k : Nat} (hp : PartsOk Γ L k r φs) :
    ∀ (c : Array Value), (∀ x φ, x ∈ r.map (·.2) → evalT Γ x = some φ → φ.p (a.eval x) h) → c.size = m → k * L.sz + r.length * L.sz ≤ m →
    ∃ c', Instr.fill (fun i => some (i * L.sz, L.sz)) c (r.map fun (i, x) => (i, a.eval x)) = some c' ∧ c'.size = m ∧
      (∀ q, q < k → valAt L c' (q * L.sz) = valAt L c (q * L.sz)) ∧ ∀ q φ, φs[q]? = some φ → ∃ x, valAt L c' ((k + q) * L.sz) = some x ∧ φ.p x h := by
  induction hp with
  | nil => intro c _ hs _; exact ⟨c, rfl, hs, fun _ _ => rfl, fun q φ e => by simp at e⟩
  | @cons k x r φ φs hF hx hr ih =>
    intro c hf hs hle
    have hpv := hf x φ (by simp) hx
    obtain ⟨f1, f2, f3⟩ := hF.ok _ _ hpv
    simp only [List.length_cons, Nat.add_mul, Nat.one_mul] at hle
    have hfit : k * L.sz + (a.eval x).cells.size ≤ c.size := by rw [f1, hs]; omega
    obtain ⟨c', k1, k2, k3, k4⟩ := ih (splice c (k * L.sz) (a.eval x).cells) (fun y ψ hy he => hf y ψ (by simp at hy ⊢; exact .inr hy) he) (by rw [splice_size hfit]; exact hs) (by rw [Nat.add_mul, Nat.one_mul]; omega)
    refine ⟨c', ?_, k2, fun q hq => ?_, fun q ψ e => ?_⟩
    · simp only [List.map_cons, Instr.fill]
      rw [if_neg (by simp [f1]; omega), foldl_splice _ _ _ hfit]; exact k1
    · rw [k3 q (by omega), valAt_splice_ne hfit]
      left
      have := Nat.mul_le_mul_right L.sz (show q + 1 ≤ k by omega); rwa [Nat.succ_mul] at this
    · cases q with
      | zero =>
        simp at e; subst e
        refine ⟨a.eval x, ?_, hpv⟩
        rw [Nat.add_zero, k3 k (by omega)]; exact valAt_splice (by rw [hs]; omega) f1 f3
      | succ q =>
        simp at e
        obtain ⟨v, hv1, hv2⟩ := k4 q ψ e
        exact ⟨v, by rw [show k + (q + 1) = k + 1 + q by omega]; exact hv1, hv2⟩
theorem run_buildSlice {T e : TypeId} {L : Lay} {z : Value} {by' n : Nat} [hS : SliceOf P T e] [hL : LayOf P e L] [hZ : ZeroOf P e z by'] {parts : Array (Nat × Value)} {c' : Array Value} {w : World} (hn : n * L.sz ≤ 2 ^ 24) (hzs : z.cells.size = L.sz)
    (h : Instr.fill (fun i => some (i * L.sz, L.sz)) (copies z.cells (n * L.sz)) parts.toList = some c') :
    (Instr.buildSlice T n parts).run P w = .ok (.slice (some ⟨w.heap.size, 0, none⟩) n n) (w.alloc (.cells c' e)) := by
  unfold Instr.buildSlice
  have hn' : ¬ (n * L.sz > 2 ^ 24) := by omega
  simp only [Sem.run_bind, run_underlying' hS.und, Result.andThen_ok, run_sizeOf' (L := L), if_neg hn', Sem.run_pure]
  by_cases h0 : n * L.sz = 0
  · simp only [if_pos h0, Sem.run_bind, Sem.run_pure, Result.andThen_ok]
    have e0 : (Array.range (n * L.sz)).map (fun x => (#[] : Array Value)[x % (#[] : Array Value).size]!) = copies z.cells (n * L.sz) := by rw [h0]; simp [copies]
    rw [e0, h]
    simp only [Sem.run_bind, run_newRow, Result.andThen_ok, Sem.run_pure]
  · have hz := ZeroOf.run (P := P) (T := e) (z := z) w
    simp only [if_neg h0, Sem.run_bind, hz, Result.andThen_ok, Sem.run_pure]
    have e0 : (Array.range (n * L.sz)).map (fun x => z.cells[x % z.cells.size]!) = copies z.cells (n * L.sz) := rfl
    rw [e0, h]
    simp only [Sem.run_bind, run_newRow, Result.andThen_ok, Sem.run_pure]
theorem alloc_le {w : World} {c : Array Value} {T : TypeId} (hb : Base E M w) : hid (E.O ++ blks M) (view (w.alloc (.cells c T))) w.heap.size = some (c, T, (0, 0)) :=
  hid_of (fun h => by have := hb.ex _ h; omega) (view_alloc_self w c T _)
/-- A slice literal that is only read. -/
theorem s_buildSlice {T e : TypeId} {L : Lay} {z : Value} {by' n : Nat} [hS : SliceOf P T e] [hL : LayOf P e L] [hZ : ZeroOf P e z by'] [hFz : Flat (one z) L] {parts : Array (Nat × Operand)} {φs : List VT}
    (h : PartsOk Γ L 0 parts.toList φs) (hn : parts.size = n) (hsm : n * L.sz ≤ 2 ^ 24) (hsz : 0 < L.sz) : StepO P E Γ M ⟨d, .buildSlice T n parts, ty, pos, af, gd⟩ (slT L n (fun q => φs.getD q anyT)) :=
  StepO.ofRun' fun a w hb hf => by
    obtain ⟨z1, _, _⟩ := hFz.ok z (fun _ => none) rfl
    have hlen := h.len
    have hn48 : n ≤ 2 ^ 24 := by
      have := Nat.le_mul_of_pos_right n hsz; omega
    obtain ⟨c', k1, k2, _, k4⟩ := parts_fill (a := a) (h := hv E M w) (m := n * L.sz) h (copies z.cells (n * L.sz)) (fun x φ hx he => hf x φ (by simpa [Op.operands] using hx) he) (copies_size _ _) (by simp [hn])
    have hr := run_buildSlice (P := P) (T := T) (w := w) (parts := parts.map fun (i, x) => (i, a.eval x)) hsm z1 (by rw [Array.toList_map]; exact k1)
    refine ⟨.slice (some ⟨w.heap.size, 0, none⟩) n n, w.alloc (.cells c' e), ?_, Ext.alloc w _, ?_⟩
    · simp only [execOp, Sem.run_bind, hr, Result.andThen_ok, Sem.run_pure]
    · refine ⟨_, _, rfl, Nat.le_refl _, by omega, fun q hq => ?_⟩
      have hq' : q < φs.length := by rw [hlen]; simp [hn]; exact hq
      obtain ⟨x, hx, hp⟩ := k4 q φs[q] (by simp [hq'])
      refine ⟨w.heap.size, 0, c', e, (0, 0), x, rfl, alloc_le hb, by simpa using hx, ?_⟩
      have : φs.getD q anyT = φs[q] := by simp [List.getD, hq']
      show (φs.getD q anyT).p x _
      rw [this]; exact (φs[q]).mono (Base.hv_ext (Ext.alloc w _)) hp
/-- A slice literal of the call's own. -/
theorem a_buildSlice {T e : TypeId} {L : Lay} {z : Value} {by' n d : Nat} [hS : SliceOf P T e] [hL : LayOf P e L] [hZ : ZeroOf P e z by'] [hFz : Flat (one z) L] {parts : Array (Nat × Operand)} {φs : List VT}
    (h : PartsOk Γ L 0 parts.toList φs) (hn : parts.size = n) (hsm : n * L.sz ≤ 2 ^ 24) (hsz : 0 < L.sz) (hi : ops[i]? = some ⟨some d, .buildSlice T n parts, ty, pos, af, none⟩) (hd : d < E.N)
    (hr : ∀ b, Run P E ops false (i + 1) D ((d, one (slV (some b) n n)) :: Γ) (sliO (some b) e L n n (fun q => φs.getD q anyT) :: M) os K) :
    Run P E ops false i D Γ M (⟨some d, .buildSlice T n parts, ty, pos, af, none⟩ :: os) K := by
  refine Run.one (K' := fun D' Γ' M' => ∃ b, D' = D ∧ Γ' = (d, one (slV (some b) n n)) :: Γ ∧ M' = sliO (some b) e L n n (fun q => φs.getD q anyT) :: M) rfl (fun a w hSt => ?_) (fun D' Γ' M' ⟨b, h1, h2, h3⟩ => by subst h1 h2 h3; exact hr b) hi
  obtain ⟨z1, _, _⟩ := hFz.ok z (fun _ => none) rfl
  have hlen := h.len
  have hn48 : n ≤ 2 ^ 24 := by
    have := Nat.le_mul_of_pos_right n hsz; omega
  obtain ⟨c', k1, k2, _, k4⟩ := parts_fill (a := a) (h := hv E M w) (m := n * L.sz) h (copies z.cells (n * L.sz)) (fun x φ hx he => evalT_p hSt he) (copies_size _ _) (by simp [hn])
  have hr' := run_buildSlice (P := P) (T := T) (w := w) (parts := parts.map fun (i, x) => (i, a.eval x)) hsm z1 (by rw [Array.toList_map]; exact k1)
  refine ⟨.ok (.value (slV (some w.heap.size) n n)) (w.alloc (.cells c' e)), ?_, D, _, _, ⟨w.heap.size, rfl, rfl, rfl⟩, ?_⟩
  · simp only [execOp, Sem.run_bind, hr', Result.andThen_ok, Sem.run_pure]; rfl
  · refine hSt.alloc (o := sliO (some w.heap.size) e L n n (fun q => φs.getD q anyT)) rfl ⟨Nat.le_refl _, by omega, (fun h => by cases h), fun b hb => ?_⟩ hd rfl
    cases hb
    refine ⟨c', view_alloc_self w _ _ _, k2, fun q hq => ?_⟩
    have hq' : q < φs.length := by rw [hlen]; simp [hn]; exact hq
    obtain ⟨x, hx, hp⟩ := k4 q φs[q] (by simp [hq'])
    have : φs.getD q anyT = φs[q] := by simp [List.getD, hq']
    exact ⟨x, by simpa using hx, by show (φs.getD q anyT).p x _; rw [this]; exact hp⟩
end
end Tor
namespace Tor
open Go Go.RowKit
section
variable {P : Program} {E : Env} {D : List Deferred} {Γ : Ctx} {M : Mem} {ops : Array Oper} {i : Nat} {ty : TypeId} {pos : String} {af : Array Edge} {os : List Oper} {K : List Deferred → Ctx → Mem → Prop}
/-- A struct variable, by its parts. -/
theorem a_allocS {T : TypeId} {m d : Nat} {z : Array Value} {pl : List (Nat × Lay)} [hB : BuildOf P T m z pl] (hz : (pl.all fun q => (valAt q.2 z q.1).isSome) = true) (hi : ops[i]? = some ⟨some d, .alloc T, ty, pos, af, none⟩) (hd : Nat.ble (d + 1) E.N = true)
    (h : ∀ b, Run P E ops false (i + 1) D ((d, one (.pointer (some ⟨b, 0, none⟩))) :: Γ) (boxO b T m (zeroC z pl) :: M) os K) :
    Run P E ops false i D Γ M (⟨some d, .alloc T, ty, pos, af, none⟩ :: os) K := by
  refine Run.one (K' := fun D' Γ' M' => ∃ b, D' = D ∧ Γ' = (d, one (.pointer (some ⟨b, 0, none⟩))) :: Γ ∧ M' = boxO b T m (zeroC z pl) :: M) rfl (fun a w hS => ?_) (fun D' Γ' M' ⟨b, h1, h2, h3⟩ => by subst h1 h2 h3; exact h b) hi
  refine ⟨.ok (.value (.pointer (some ⟨w.heap.size, 0, none⟩))) (w.alloc (.cells z T)), ?_, D, _, _, ⟨w.heap.size, rfl, rfl, rfl⟩, ?_⟩
  · have hz := hB.zero w
    simp [execOp, Instr.alloc, Sem.run_bind, hz, newVar, newRow, newObj, Sem.run, Value.cells]
  · exact hS.alloc (o := boxO w.heap.size T m (zeroC z pl)) rfl ⟨z, view_alloc_self w _ _ _, hB.zs, hB.zo, zeroC_ok hz⟩ (ltN hd) rfl
theorem leN {a b : Nat} (h : Nat.ble a b = true) : a ≤ b := Nat.le_of_ble_eq_true h
end
end Tor
namespace Tor
open Go Go.RowKit
section
variable {P : Program} {E : Env} {D : List Deferred} {Γ : Ctx} {M : Mem} {Q : Exit → Act → World → Prop}
theorem J_and {c : Code} {t : Nat} {F : Prop} {φ : VT} (ht : look Γ t = some (andT F φ)) (h : F → J P E D ((t, φ) :: Γ) M c Q) : J P E D Γ M c Q :=
  J_fact ht (fun _ _ h => h.1) fun hF => J_retype ht (fun _ _ h => h.2) (h hF)
/-- The contract of a function that only computes and makes memory. -/
def Ok (P : Program) (f : FuncId) (φs : List VT) (ψ : VT) : Prop :=
  ∀ (w : World) (O : List Nat) (vs : List Value), (∀ b ∈ O, b < w.heap.size) → tupP φs vs (hid O (view w)) → Calls P f vs.toArray w (Ret O ψ w)
theorem Ok.enter {f : FuncId} {fn : Func} {c : Code} {N : Nat} {φs : List VT} {ψ : VT} (hf : P.funcs[f]? = some fn) (hb : fn.body = some c) (hN : fn.ntmps = N) (hle : Nat.ble φs.length N = true)
    (h : ∀ (w : World) (O : List Nat), J P ⟨w, O, [], N⟩ [] (argCtx 0 φs) [] c (bodyPost P fn (Ret O ψ w))) : Ok P f φs ψ :=
  fun w O vs hO hv => Tor.enter hf hb hN hO hv (Nat.le_of_ble_eq_true hle) (h w O)
def leAll : List VT → List VT → Prop
  | [], [] => True
  | φ :: φs, ψ :: ψs => VT.le φ ψ ∧ leAll φs ψs
  | _, _ => False
theorem leAll_p {h : Hp} : ∀ {φs ψs : List VT} {vs : List Value}, leAll φs ψs → tupP φs vs h → tupP ψs vs h
  | [], [], _, _, hp => hp
  | _ :: _, _ :: _, _ :: _, ⟨h1, h2⟩, ⟨p1, p2⟩ => ⟨h1 _ _ p1, leAll_p h2 p2⟩
  | [], _ :: _, _, h, _ => h.elim
  | _ :: _, [], _, h, _ => h.elim
theorem leAll_refl : ∀ φs : List VT, leAll φs φs
  | [] => trivial
  | _ :: φs => ⟨VT.le_refl _, leAll_refl φs⟩
theorem Ok.le {f : FuncId} {φs φs' : List VT} {ψ ψ' : VT} (h : Ok P f φs ψ) (hl : leAll φs' φs) (hr : VT.le ψ ψ') : Ok P f φs' ψ' :=
  fun w O vs hO hv => (h w O vs hO (leAll_p hl hv)).mono fun e w' ⟨v, h1, h2, h3⟩ => ⟨v, h1, hr _ _ h2, h3⟩
variable {d : Option Tmp} {ty : TypeId} {pos : String} {af : Array Edge} {gd : Option (Nat × Bool)}
theorem s_callk {f : FuncId} [hF : Fn P f] {xs : Array Operand} {ats : Array TypeId} {φs φs' : List VT} {ψ : VT} (h : Ok P f φs' ψ) (hx : evalL Γ xs.toList = some φs) (hle : leAll φs φs') :
    StepO P E Γ M ⟨d, .call ⟨.value (.func f), xs, ats⟩, ty, pos, af, gd⟩ ψ :=
  s_call hx fun w vs hO hp => h w _ vs hO (leAll_p hle hp)
theorem andT_le {F : Prop} {φ ψ : VT} (h : F → VT.le φ ψ) : VT.le (andT F φ) ψ := fun v g ⟨h1, h2⟩ => h h1 v g h2
theorem le_andT {F : Prop} {φ ψ : VT} (hF : F) (h : VT.le φ ψ) : VT.le φ (andT F ψ) := fun v g h2 => ⟨hF, h v g h2⟩
theorem exT_le {α : Type} {φ : α → VT} {ψ : VT} (h : ∀ x, VT.le (φ x) ψ) : VT.le (exT φ) ψ := fun v g ⟨x, hx⟩ => h x v g hx
theorem le_exT {α : Type} {φ : VT} {ψ : α → VT} (x : α) (h : VT.le φ (ψ x)) : VT.le φ (exT ψ) := fun v g h2 => ⟨x, h v g h2⟩
theorem le_eq {φ ψ : VT} (h : φ = ψ) : VT.le φ ψ := h ▸ VT.le_refl _
theorem aggT_le {m : Nat} {cs cs' : Comps} (h : ∀ q ∈ cs', ∃ ψ, (q.1, q.2.1, ψ) ∈ cs ∧ VT.le ψ q.2.2) : VT.le (aggT m cs) (aggT m cs') :=
  fun v g ⟨c, h1, h2, h3, h4⟩ => ⟨c, h1, h2, h3, fun q hq => let ⟨ψ, h5, h6⟩ := h q hq; let ⟨x, h7, h8⟩ := h4 _ h5; ⟨x, h7, h6 _ _ h8⟩⟩
end
end Tor
