/-
  Rules for single operations over contexts.
  No condition: general theorems over any program.
-/
import Derived.Test.YtmpnikllhpagcaaFw2
set_option linter.unusedVariables false
set_option linter.unusedSimpArgs false
namespace Tor
open Go Go.RowKit

/-! ### What a program says of its types -/
def dAgg : TypeDesc → Bool
  | .struct _ | .array _ _ => true
  | _ => false
def Lay.isAgg : Lay → Bool
  | .one => false
  | .agg _ => true
class LayOf (P : Program) (T : TypeId) (L : outParam Lay) : Prop where
  sz : (P.info? T).map (·.size) = some L.sz
  ag : (P.underlying T).map dAgg = some L.isAgg
class ZeroOf (P : Program) (T : TypeId) (z : outParam Value) (bytes : outParam Nat) : Prop where
  zb : (P.info? T).map (fun i => (i.zero, i.bytes)) = some (some z, bytes)
class SliceOf (P : Program) (T : TypeId) (e : outParam TypeId) : Prop where
  und : P.underlying T = some (.slice e)
class ArrayOf (P : Program) (T : TypeId) (n : outParam Nat) (e : outParam TypeId) : Prop where
  und : P.underlying T = some (.array n e)
class IntOf (P : Program) (T : TypeId) (k : outParam IntKind) : Prop where
  und : P.underlying T = some (.int k)
class FieldOf (P : Program) (T : TypeId) (i : Nat) (off : outParam Nat) (L : outParam Lay) : Prop where
  ex : ∃ fs f, P.underlying T = some (.struct fs) ∧ fs[i]? = some f ∧ f.offset = off ∧ LayOf P f.type L ∧ L.sz ≠ 0
def fieldInfo (P : Program) (T : TypeId) (i : Nat) : Option (Nat × TypeId) :=
  match P.underlying T with
  | some (.struct fs) => (fs[i]?).map fun f => (f.offset, f.type)
  | _ => none
theorem FieldOf.by_info {P : Program} {T : TypeId} {i off : Nat} {ft : TypeId} {L : Lay} (hL : LayOf P ft L) (h : fieldInfo P T i = some (off, ft)) (hs : L.sz ≠ 0) : FieldOf P T i off L where
  ex := by
    unfold fieldInfo at h
    split at h
    · rename_i fs hfs
      cases hf : fs[i]? with
      | none => rw [hf] at h; cases h
      | some f =>
        rw [hf] at h; simp only [Option.map_some, Option.some.injEq, Prod.mk.injEq] at h
        obtain ⟨h1, h2⟩ := h
        subst h2
        exact ⟨fs, f, hfs, hf, h1, hL, hs⟩
    · cases h

section
variable {P : Program} {E : Env} {Γ : Ctx} {M : Mem} {d : Option Tmp} {ty : TypeId} {pos : String} {af : Array Edge} {gd : Option (Nat × Bool)}

theorem LayOf.info {T : TypeId} {L : Lay} (h : LayOf P T L) : ∃ i, P.info? T = some i ∧ i.size = L.sz := by
  have := h.sz
  cases hi : P.info? T with
  | none => rw [hi] at this; cases this
  | some i => rw [hi] at this; exact ⟨i, rfl, by simpa using this⟩
theorem LayOf.und {T : TypeId} {L : Lay} (h : LayOf P T L) : ∃ d, P.underlying T = some d ∧ dAgg d = L.isAgg := by
  have := h.ag
  cases hi : P.underlying T with
  | none => rw [hi] at this; cases this
  | some i => rw [hi] at this; exact ⟨i, rfl, by simpa using this⟩
theorem ZeroOf.info {T : TypeId} {z : Value} {b : Nat} (h : ZeroOf P T z b) : ∃ i, P.info? T = some i ∧ i.zero = some z ∧ i.bytes = b := by
  have := h.zb
  cases hi : P.info? T with
  | none => rw [hi] at this; cases this
  | some i => rw [hi] at this; simp at this; exact ⟨i, rfl, this.1, this.2⟩

/-! ### Runs of the model's small steps -/
theorem run_typeInfo {T : TypeId} {i : TypeInfo} (h : P.info? T = some i) (w : World) : (typeInfo T).run P w = .ok i w := by
  simp [typeInfo, program, h, Sem.run, pure, Bind.bind, Sem.bind]
theorem run_underlying' {T : TypeId} {d : TypeDesc} (h : P.underlying T = some d) (w : World) : (underlying T).run P w = .ok d w := by
  simp [underlying, program, h, Sem.run, pure, Bind.bind, Sem.bind]

theorem addr_add {b o n : Nat} : (⟨b, o, none⟩ : Addr).add n = ⟨b, o + n, none⟩ := by
  unfold Addr.add; split <;> simp_all

theorem run_isAgg {T : TypeId} {L : Lay} [h : LayOf P T L] (w : World) : (isAgg T).run P w = .ok L.isAgg w := by
  obtain ⟨d, hd, hL⟩ := h.und
  unfold isAgg
  rw [Sem.run_bind, run_underlying' hd w]
  cases d <;> simp_all [dAgg]
theorem run_sizeOf' {T : TypeId} {L : Lay} [h : LayOf P T L] (w : World) : (Go.sizeOf T).run P w = .ok L.sz w := by
  obtain ⟨i, hi, hs⟩ := h.info
  simp [Go.sizeOf, Sem.run_bind, run_typeInfo hi, hs]

theorem run_loadVar' {T T' : TypeId} {L : Lay} [h : LayOf P T L] {w : World} {b o : Nat} {c : Array Value} {f : Nat × Nat} {x : Value}
    (hb : view w b = some (c, T', f)) (hx : valAt L c o = some x) : (loadVar T ⟨b, o, none⟩).run P w = .ok x w := by
  unfold loadVar
  rw [Sem.run_bind, run_isAgg (L := L)]
  cases L with
  | one =>
    have : w.cell? ⟨b, o, none⟩ = some x := by rw [view_cell hb]; exact hx
    simp [Lay.isAgg, run_load, this]
  | agg n =>
    simp only [valAt] at hx
    split at hx
    · rename_i hle
      cases hx
      have hl := run_loadCells (P := P) w ⟨b, o, none⟩ n (fun j => c.getD (o + j) undef) (fun j hj => by
        rw [addr_add, view_cell hb, Array.getD_eq_getD_getElem?]
        have : o + j < c.size := by omega
        simp [this])
      have he : ((List.range n).map fun j => c.getD (o + j) undef).toArray = c.extract o (o + n) := by
        apply Array.ext
        · simp; omega
        · intro i h1 h2
          simp at h1
          have : o + i < c.size := by omega
          simp [Array.getD_eq_getD_getElem?, this]
      rw [he] at hl
      simp only [Lay.isAgg, Result.andThen_ok, if_true, Sem.run_bind, run_sizeOf' (L := .agg n), Lay.sz, hl, Sem.run_pure]
    · cases hx

/-- A row with some cells exchanged. -/
def splice (c : Array Value) (o : Nat) (vs : Array Value) : Array Value := (c.toList.take o ++ vs.toList ++ c.toList.drop (o + vs.size)).toArray
theorem splice_size {c vs : Array Value} {o : Nat} (h : o + vs.size ≤ c.size) : (splice c o vs).size = c.size := by
  simp [splice]; omega
theorem splice_at {c vs : Array Value} {o : Nat} (h : o + vs.size ≤ c.size) (j : Nat) : (splice c o vs)[j]? = if o ≤ j ∧ j < o + vs.size then vs[j - o]? else c[j]? := by
  have hm : min o c.size = o := by omega
  simp only [splice, List.getElem?_toArray, List.getElem?_append, List.length_take, List.length_append, Array.length_toList, List.getElem?_take, List.getElem?_drop, Array.getElem?_toList, hm]
  by_cases h1 : j < o + vs.size
  · rw [if_pos h1]
    by_cases h2 : j < o
    · rw [if_pos h2, if_pos h2, if_neg (by omega)]
    · rw [if_neg h2, if_pos (by omega)]
  · rw [if_neg h1, if_neg (by omega)]; congr 1; omega
theorem extract_at (c : Array Value) (o n j : Nat) : (c.extract o (o + n))[j]? = if j < n then c[o + j]? else none := by
  rw [Array.getElem?_extract]
  by_cases h1 : j < n
  · rw [if_pos h1]
    by_cases h2 : o + j < c.size
    · rw [if_pos (by omega)]
    · rw [if_neg (by omega), Array.getElem?_eq_none (by omega)]
  · rw [if_neg h1, if_neg (by omega)]

theorem run_storeVar' {T T' : TypeId} {L : Lay} [h : LayOf P T L] {w : World} {b o : Nat} {c : Array Value} {v : Value}
    (hb : view w b = some (c, T', (0, 0))) (hs : v.cells.size = L.sz) (ho : o + L.sz ≤ c.size) (h1 : v.cells.all (·.oneCell') = true) :
    (storeVar T ⟨b, o, none⟩ v).run P w = .ok () (w.setRow b (splice c o v.cells)) := by
  unfold storeVar
  rw [Sem.run_bind, run_sizeOf' (L := L)]
  simp only [Result.andThen_ok, hs, ne_eq, not_true, if_false]
  have := run_storeCells_at (P := P) b o T' v.cells.toList 0 c w (view_some hb) (by simp; omega) (fun x hx => (Array.all_eq_true_iff_forall_mem.1 h1) x (by simpa using hx))
  simp only [Nat.add_zero, Array.length_toList] at this
  simpa [splice] using this

/-! ### Values by their cells -/
theorem valAt_splice {L : Lay} {c : Array Value} {o : Nat} {v : Value} (ho : o + L.sz ≤ c.size) (hs : v.cells.size = L.sz) (hv : valAt L v.cells 0 = some v) :
    valAt L (splice c o v.cells) o = some v := by
  cases L with
  | one =>
    simp only [valAt, Lay.sz] at *
    rw [splice_at (by omega), if_pos (by omega)]; simpa using hv
  | agg n =>
    simp only [valAt, Lay.sz] at *
    have h1 : 0 + n ≤ v.cells.size := by omega
    rw [if_pos h1] at hv
    rw [splice_size (by omega), if_pos ho]
    have he : v.cells.extract 0 n = v.cells := by
      apply Array.ext_getElem?; intro i
      have := extract_at v.cells 0 n i
      rw [Nat.zero_add] at this
      rw [this]; split
      · rw [Nat.zero_add]
      · rw [Array.getElem?_eq_none (by omega)]
    rw [← hv, Nat.zero_add, he]; congr 2
    apply Array.ext_getElem?; intro i
    rw [extract_at, splice_at (by omega)]
    by_cases h2 : i < n
    · rw [if_pos h2, if_pos (by omega)]; congr 1; omega
    · rw [if_neg h2, Array.getElem?_eq_none (by omega)]

theorem valAt_splice_ne {L' : Lay} {c vs : Array Value} {o o' : Nat} (ho : o + vs.size ≤ c.size) (hd : o' + L'.sz ≤ o ∨ o + vs.size ≤ o') :
    valAt L' (splice c o vs) o' = valAt L' c o' := by
  cases L' with
  | one =>
    simp only [valAt, Lay.sz] at *
    rw [splice_at ho, if_neg (by omega)]
  | agg n =>
    simp only [valAt, Lay.sz] at *
    rw [splice_size ho]
    split
    · congr 2
      apply Array.ext_getElem?; intro i
      rw [extract_at, extract_at]
      split
      · rw [splice_at ho, if_neg (by omega)]
      · rfl
    · rfl
end
end Tor
