/-
  Rules for the operations that make or write memory of the call's own.
  No condition: general theorems over any program.
-/
import Derived.Test.YtmpnikllhpagcaaFw5
set_option linter.unusedVariables false
set_option linter.unusedSimpArgs false
set_option linter.unusedSectionVars false
namespace Tor
open Go Go.RowKit

section
variable {P : Program} {E : Env} {D : List Deferred} {Γ : Ctx} {M : Mem} {Q : Exit → Act → World → Prop}

theorem blks_set : ∀ {M : Mem} {i : Nat} {o o' : Own}, M[i]? = some o → o'.bl = o.bl → blks (M.set i o') = blks M
  | [], _, _, _, h, _ => by simp at h
  | x :: M, 0, o, o', h, e => by simp at h; subst h; simp [e]
  | x :: M, i + 1, o, o', h, e => by simp at h; simp [blks_set h e]
theorem mem_of_get {M : Mem} {i : Nat} {o : Own} (h : M[i]? = some o) : o ∈ M := List.mem_of_getElem? h
theorem blks_mem {M : Mem} {o : Own} (h : o ∈ M) {b : Nat} (hb : b ∈ o.bl) : b ∈ blks M := List.mem_flatMap.2 ⟨o, h, hb⟩
/-- Two own entries at different places have no block in common. -/
theorem blks_apart : ∀ {M : Mem} {i j : Nat} {o o' : Own}, (blks M).Nodup → M[i]? = some o → M[j]? = some o' → i ≠ j → ∀ b, b ∈ o.bl → b ∉ o'.bl
  | [], _, _, _, _, _, h, _, _, _, _ => by simp at h
  | x :: M, 0, 0, _, _, _, _, _, h, _, _ => absurd rfl h
  | x :: M, 0, j + 1, o, o', hn, hi, hj, _, b, hb => by
    simp at hi hj; subst hi
    rw [blks_cons, List.nodup_append] at hn
    intro h; exact hn.2.2 b hb b (blks_mem (mem_of_get hj) h) rfl
  | x :: M, i + 1, 0, o, o', hn, hi, hj, _, b, hb => by
    simp at hi hj; subst hj
    rw [blks_cons, List.nodup_append] at hn
    intro h; exact hn.2.2 b h b (blks_mem (mem_of_get hi) hb) rfl
  | x :: M, i + 1, j + 1, o, o', hn, hi, hj, hne, b, hb => by
    simp at hi hj
    rw [blks_cons, List.nodup_append] at hn
    exact blks_apart hn.2.1 hi hj (by omega) b hb

theorem view_eq {w w' : World} {b : Nat} (h : w'.heap[b]? = w.heap[b]?) : view w' b = view w b := by unfold view; rw [h]

/-- Own memory is written. -/
theorem St.own {a : Act} {w w' : World} (hS : St E D Γ M a w) {i : Nat} {o o' : Own} (hM : M[i]? = some o) (hbl : o'.bl = o.bl)
    (hb : ∀ k, k ∉ o.bl → w'.heap[k]? = w.heap[k]?) (hsz : w'.heap.size = w.heap.size) (hos : w'.os = w.os) (ht : w'.tape = w.tape) (hout : w'.output = w.output)
    (hp : o'.p (view w') (hv E M w)) : St E D Γ (M.set i o') a w' := by
  have e1 : blks (M.set i o') = blks M := blks_set hM hbl
  have e2 : hv E (M.set i o') w' = hv E M w := by
    unfold hv; rw [e1]; funext b; unfold hid
    by_cases h : b ∈ E.O ++ blks M
    · rw [if_pos h, if_pos h]
    · rw [if_neg h, if_neg h]
      exact view_eq (hb b fun hk => h (List.mem_append.2 (.inr (blks_mem (mem_of_get hM) hk))))
  refine ⟨⟨?_, by rw [e1]; exact hS.base.nd, by rw [e1]; exact hS.base.dis, by rw [e1]; exact hS.base.lo, by rw [e1, hsz]; exact hS.base.ex, ?_⟩, hS.sz, hS.df, ?_⟩
  · intro q hq
    rw [show hid (E.O ++ blks (M.set i o')) (view w') = hv E M w from e2]
    obtain ⟨j, hj⟩ := List.mem_iff_getElem?.1 hq
    rw [List.getElem?_set] at hj
    by_cases hij : i = j
    · subst hij
      have hlt := (List.getElem?_eq_some_iff.1 hM).1
      simp [hlt] at hj; subst hj; exact hp
    · simp [hij] at hj
      refine q.loc (fun b hbq => (view_eq (hb b fun hk => ?_)).symm) (Hp.le_refl _) (hS.base.mem q (mem_of_get hj))
      exact blks_apart hS.base.nd hM hj hij b hk hbq
  · have hf := hS.base.fr
    exact ⟨hos.trans hf.os, ht.trans hf.tape, hout.trans hf.output, by rw [hsz]; exact hf.size, fun k hk hn => by
      have hko : k ∉ o.bl := fun h => by
        rcases hS.base.lo k (blks_mem (mem_of_get hM) h) with h' | h'
        · omega
        · exact hn h'
      rw [hb k hko]; exact hf.block k hk hn⟩
  · intro t φ h; rw [e2]; exact hS.tm t φ h

theorem setRow_other (w : World) (g : Nat) (c : Array Value) (k : Nat) (h : k ≠ g) : (w.setRow g c).heap[k]? = w.heap[k]? := by
  simp only [World.setRow, Array.getElem?_modify]
  rw [if_neg (by omega)]
theorem view_setRow {w : World} {g : Nat} {c c' : Array Value} {T : TypeId} {f : Nat × Nat} (h : view w g = some (c, T, f)) : view (w.setRow g c') g = some (c', T, f) :=
  view_of (setRow_heap w g c c' T f (view_some h))
theorem setRow_size (w : World) (g : Nat) (c : Array Value) : (w.setRow g c).heap.size = w.heap.size := by simp [World.setRow]

/-- A new block of the call's own. -/
theorem St.alloc {a : Act} {w : World} (hS : St E D Γ M a w) {o : Own} {c : Array Value} {T : TypeId} (hbl : o.bl = [w.heap.size])
    (hp : o.p (view (w.alloc (.cells c T))) (hv E M w)) {d : Nat} (hd : d < E.N) {v : Value} {ψ : VT} (hv' : ψ.p v (hv E M w)) :
    St E D ((d, ψ) :: Γ) (o :: M) (a.put (some d) v) (w.alloc (.cells c T)) := by
  have hx : Ext w (w.alloc (.cells c T)) := Ext.alloc w _
  have hnew : ∀ b ∈ E.O ++ blks M, b < w.heap.size := hS.base.ex
  have hle : Hp.le (hv E M w) (hv E (o :: M) (w.alloc (.cells c T))) := by
    intro b x e
    obtain ⟨h1, h2⟩ := hid_some e
    refine hid_of ?_ (hx.view _ _ h2)
    intro hb
    have hlt := view_lt h2
    rw [blks_cons, hbl] at hb
    rcases List.mem_append.1 hb with h | h
    · exact h1 (List.mem_append.2 (.inl h))
    · rcases List.mem_append.1 h with h | h
      · simp at h; omega
      · exact h1 (List.mem_append.2 (.inr h))
  have hb' := hS.base.ext hx
  have hmap : ∀ b ∈ blks (o :: M), b = w.heap.size ∨ b ∈ blks M := by
    intro b hb; rw [blks_cons, hbl] at hb
    rcases List.mem_append.1 hb with h | h
    · simp at h; exact .inl h
    · exact .inr h
  refine ⟨⟨?_, ?_, ?_, ?_, ?_, hb'.fr⟩, by simp [Act.put, hS.sz], hS.df, ?_⟩
  · intro q hq
    rcases List.mem_cons.1 hq with rfl | hq
    · exact q.loc (fun _ _ => rfl) hle hp
    · exact q.loc (fun b hb => (view_eq (hx.block b (hS.base.ex b (List.mem_append.2 (.inr (blks_mem hq hb)))))).symm) hle (hS.base.mem q hq)
  · rw [blks_cons, hbl, List.nodup_append]
    refine ⟨by simp, hS.base.nd, fun x hx y hy => ?_⟩
    simp at hx; subst hx
    have := hnew y (List.mem_append.2 (.inr hy)); omega
  · intro b hb
    rcases hmap b hb with rfl | h
    · intro hO; have := hnew _ (List.mem_append.2 (.inl hO)); omega
    · exact hS.base.dis b h
  · intro b hb
    rcases hmap b hb with rfl | h
    · exact .inl hS.base.fr.size
    · exact hS.base.lo b h
  · intro b hb
    have : (w.alloc (.cells c T)).heap.size = w.heap.size + 1 := by simp
    rw [this]
    rcases List.mem_append.1 hb with h | h
    · have := hnew b (List.mem_append.2 (.inl h)); omega
    · rcases hmap b h with rfl | h
      · omega
      · have := hnew b (List.mem_append.2 (.inr h)); omega
  · intro t φ h
    rw [look_cons] at h
    split at h
    · rename_i e; cases h; rw [← e, getD_put_self (by rw [hS.sz]; exact hd)]; exact ψ.mono hle hv'
    · rename_i e; rw [getD_put_ne e]; exact φ.mono hle (hS.tm t φ h)

/-- Own memory that is no longer written becomes memory that is only read. -/
theorem Own.freeze {w : World} {sv : Option Nat} {T : TypeId} {L : Lay} {cap n : Nat} {φ : Nat → VT} {h h' : Hp} (ho : (sliO sv T L cap n φ).p (view w) h) (hle : Hp.le h h') (hb : ∀ b, sv = some b → view w b = h' b) :
    (slT L n φ).p (slV sv n cap) h' := by
  obtain ⟨h1, h2, h3, h4⟩ := ho
  cases sv with
  | none =>
    have hc := h3 rfl
    exact ⟨none, cap, rfl, h1, h2, fun i hi => by omega⟩
  | some b =>
    obtain ⟨c, hc, hs, he⟩ := h4 b rfl
    refine ⟨some ⟨b, 0, none⟩, cap, rfl, h1, h2, fun i hi => ?_⟩
    obtain ⟨x, hx, hp⟩ := he i hi
    exact ⟨b, 0, c, T, (0, 0), x, rfl, by rw [← hb b rfl]; exact hc, by rw [Nat.zero_add]; exact hx, (φ i).mono hle hp⟩

theorem blks_erase : ∀ {M : Mem} {i : Nat}, (blks (M.eraseIdx i)).Sublist (blks M)
  | [], _ => by simp
  | x :: M, 0 => by simp
  | x :: M, i + 1 => by simp only [List.eraseIdx_cons_succ, blks_cons]; exact List.Sublist.append_left blks_erase _
theorem erase_subM : ∀ (M : Mem) (i : Nat), SubM M (M.eraseIdx i)
  | [], _ => .nil
  | _ :: M, 0 => .drop (SubM.refl M)
  | _ :: M, i + 1 => .keep (Own.le_refl _) (erase_subM M i)
theorem blks_erase_not : ∀ {M : Mem} {i : Nat} {o : Own}, (blks M).Nodup → M[i]? = some o → ∀ b ∈ o.bl, b ∉ blks (M.eraseIdx i)
  | [], _, _, _, h, _, _ => by simp at h
  | x :: M, 0, o, hn, h, b, hb => by
    simp at h; subst h
    rw [blks_cons, List.nodup_append] at hn
    simp only [List.eraseIdx_cons_zero]; intro h'; exact hn.2.2 b hb b h' rfl
  | x :: M, i + 1, o, hn, h, b, hb => by
    simp at h
    rw [blks_cons, List.nodup_append] at hn
    simp only [List.eraseIdx_cons_succ, blks_cons, List.mem_append, not_or]
    exact ⟨fun h' => hn.2.2 b h' b (blks_mem (mem_of_get h) hb) rfl, blks_erase_not hn.2.1 h b hb⟩

theorem St_freeze {t i : Nat} {sv : Option Nat} {T : TypeId} {L : Lay} {cap n : Nat} {φ : Nat → VT} (ht : look Γ t = some (one (slV sv n cap))) (hM : M[i]? = some (sliO sv T L cap n φ))
    {a : Act} {w : World} (hS : St E D Γ M a w) : St E D ((t, slT L n φ) :: Γ) (M.eraseIdx i) a w := by
  refine ⟨hS.base.sub (erase_subM M i), hS.sz, hS.df, fun s ψ hs => ?_⟩
  have hle : Hp.le (hv E M w) (hv E (M.eraseIdx i) w) := hv_sub fun b hb => blks_erase.subset hb
  rw [look_cons] at hs
  split at hs
  · rename_i e; subst e; cases hs
    have hval : a.tmps.getD t undef = slV sv n cap := hS.tm t _ ht
    rw [hval]
    refine Own.freeze (own_get hS.base hM) hle (fun b hb => ?_)
    have hbM : b ∈ blks M := blks_mem (mem_of_get hM) (by simp [sliO, hb])
    have hn : b ∉ E.O ++ blks (M.eraseIdx i) := by
      rw [List.mem_append, not_or]
      exact ⟨hS.base.dis b hbM, blks_erase_not hS.base.nd hM b (by simp [sliO, hb])⟩
    simp only [hv, hid, if_neg hn]
  · exact ψ.mono hle (hS.tm s ψ hs)

theorem J_freeze {c : Code} {t i : Nat} {b : Option Nat} {T : TypeId} {L : Lay} {cap n : Nat} {φ : Nat → VT} (ht : look Γ t = some (one (slV b n cap))) (hM : M[i]? = some (sliO b T L cap n φ))
    (h : J P E D ((t, slT L n φ) :: Γ) (M.eraseIdx i) c Q) : J P E D Γ M c Q := fun a w hS => h a w (St_freeze ht hM hS)
theorem PJ_freeze {e : Exit} {t i : Nat} {b : Option Nat} {T : TypeId} {L : Lay} {cap n : Nat} {φ : Nat → VT} (ht : look Γ t = some (one (slV b n cap))) (hM : M[i]? = some (sliO b T L cap n φ))
    (h : PJ E D ((t, slT L n φ) :: Γ) (M.eraseIdx i) e Q) : PJ E D Γ M e Q := fun a w hS => h a w (St_freeze ht hM hS)

theorem Run_freeze {ops : Array Oper} {i : Nat} {os : List Oper} {K : List Deferred → Ctx → Mem → Prop} {t j : Nat} {b : Option Nat} {T : TypeId} {L : Lay} {cap n : Nat} {φ : Nat → VT} (ht : look Γ t = some (one (slV b n cap))) (hM : M[j]? = some (sliO b T L cap n φ))
    (h : Run P E ops false i D ((t, slT L n φ) :: Γ) (M.eraseIdx j) os K) : Run P E ops false i D Γ M os K := .conv (fun a w hS => St_freeze ht hM hS) h

/-! ### Operations -/
variable {ops : Array Oper} {i : Nat} {ty : TypeId} {pos : String} {af : Array Edge} {os : List Oper} {K : List Deferred → Ctx → Mem → Prop}

/-- The operation at the head is carried out. -/
theorem Run.one {o : Oper} {K' : List Deferred → Ctx → Mem → Prop} (hg : o.guard = none)
    (h : ∀ a w, St E D Γ M a w → ∃ r, (execOp a.eval o).run P w = r ∧ (match r with
      | .ok (.value v) w' => ∃ D' Γ' M', K' D' Γ' M' ∧ St E D' Γ' M' (a.put o.dst v) w'
      | .ok .skip w' => ∃ D' Γ' M', K' D' Γ' M' ∧ St E D' Γ' M' (a.put o.dst undef) w'
      | _ => False))
    (hr : ∀ D' Γ' M', K' D' Γ' M' → Run P E ops false (i + 1) D' Γ' M' os K) (hi : ops[i]? = some o) : Run P E ops false i D Γ M (o :: os) K := by
  refine .act (K' := K') (fun a w hS next Q hn => ?_) hr
  obtain ⟨r, hr', hm⟩ := h a w hS
  simp only [wpOp, hi, wanted_none hg, if_true]
  refine .inl ?_
  unfold Oper.wp; rw [hr']
  cases r with
  | halt x w' => exact hm.elim
  | ok n w' =>
    cases n with
    | value v => obtain ⟨D', Γ', M', hK, hS'⟩ := hm; exact hn D' Γ' M' _ _ hK hS'
    | skip => obtain ⟨D', Γ', M', hK, hS'⟩ := hm; exact hn D' Γ' M' _ _ hK hS'
    | _ => exact hm.elim

theorem cells_one {v : Value} (h : v.oneCell' = true) : v.cells = #[v] := by cases v <;> first | rfl | simp [Value.oneCell'] at h

class Flat (φ : VT) (L : outParam Lay) : Prop where
  ok : ∀ v h, φ.p v h → v.cells.size = L.sz ∧ v.cells.all (·.oneCell') = true ∧ valAt L v.cells 0 = some v
instance {k : IntKind} {n : Int} : Flat (one (.int k n)) .one := ⟨fun v h e => by cases e; simp [Value.cells, Lay.sz, Value.oneCell', valAt]⟩
instance {b : Bool} : Flat (one (.bool b)) .one := ⟨fun v h e => by cases e; simp [Value.cells, Lay.sz, Value.oneCell', valAt]⟩
instance {a : Option Addr} : Flat (one (.pointer a)) .one := ⟨fun v h e => by cases e; simp [Value.cells, Lay.sz, Value.oneCell', valAt]⟩
instance {a : Option Addr} {n c : Nat} : Flat (one (.slice a n c)) .one := ⟨fun v h e => by cases e; simp [Value.cells, Lay.sz, Value.oneCell', valAt]⟩
instance {s : Option Nat} {n c : Nat} : Flat (one (slV s n c)) .one := ⟨fun v h e => by cases e; simp [slV, Value.cells, Lay.sz, Value.oneCell', valAt]⟩
instance {f : Go.Fn} {a b : Array Value} : Flat (one (.func f a b)) .one := ⟨fun v h e => by cases e; simp [Value.cells, Lay.sz, Value.oneCell', valAt]⟩
instance {L : Lay} {n : Nat} {φ : Nat → VT} : Flat (slT L n φ) .one := ⟨fun v h ⟨a, cap, e, _⟩ => by subst e; simp [Value.cells, Lay.sz, Value.oneCell', valAt]⟩
instance {L : Lay} {φ : VT} : Flat (ptrT L φ) .one := ⟨fun v h ⟨b, o, c, T, f, x, e, _⟩ => by subst e; simp [Value.cells, Lay.sz, Value.oneCell', valAt]⟩
instance {m : Nat} {cs : Comps} : Flat (aggT m cs) (.agg m) := ⟨fun v h ⟨c, e, hs, ha, _⟩ => by subst e; subst hs; simp only [Value.cells, Lay.sz, valAt]; exact ⟨trivial, ha, by simp⟩⟩
instance {α : Type} {φ : α → VT} {L : Lay} [h : ∀ x, Flat (φ x) L] : Flat (exT φ) L := ⟨fun v g ⟨x, hx⟩ => (h x).ok v g hx⟩
instance {F : Prop} {φ : VT} {L : Lay} [h : Flat φ L] : Flat (andT F φ) L := ⟨fun v g ⟨_, hx⟩ => h.ok v g hx⟩

theorem flat_one {c : Array Value} {m : Nat} (hs : c.size = m) (ha : c.all (·.oneCell') = true) : Flat (one (.agg c)) (.agg m) := ⟨fun v h e => by cases e; subst hs; simp only [Value.cells, Lay.sz, valAt]; exact ⟨trivial, ha, by simp⟩⟩
theorem ZeroOf.run {T : TypeId} {z : Value} {b : Nat} [h : ZeroOf P T z b] (w : World) : (zeroValue T).run P w = .ok z w := by
  obtain ⟨i, hi, hz, _⟩ := h.info
  simp [zeroValue, Sem.run_bind, run_typeInfo hi, hz]

/-- new, a variable: its zero. -/
theorem a_alloc {T : TypeId} {z : Value} {by' : Nat} {L : Lay} {d : Nat} [ZeroOf P T z by'] [hF : Flat (one z) L] (hi : ops[i]? = some ⟨some d, .alloc T, ty, pos, af, none⟩) (hd : d < E.N)
    (h : ∀ b, Run P E ops false (i + 1) D ((d, one (.pointer (some ⟨b, 0, none⟩))) :: Γ) (boxO b T L.sz [(0, L, one z)] :: M) os K) :
    Run P E ops false i D Γ M (⟨some d, .alloc T, ty, pos, af, none⟩ :: os) K := by
  refine Run.one (K' := fun D' Γ' M' => ∃ b, D' = D ∧ Γ' = (d, one (.pointer (some ⟨b, 0, none⟩))) :: Γ ∧ M' = boxO b T L.sz [(0, L, one z)] :: M) rfl (fun a w hS => ?_) (fun D' Γ' M' ⟨b, h1, h2, h3⟩ => by subst h1 h2 h3; exact h b) hi
  refine ⟨.ok (.value (.pointer (some ⟨w.heap.size, 0, none⟩))) (w.alloc (.cells z.cells T)), ?_, D, _, _, ⟨w.heap.size, rfl, rfl, rfl⟩, ?_⟩
  · have hz := ZeroOf.run (P := P) (T := T) w
    simp [execOp, Instr.alloc, Sem.run_bind, hz, newVar, newRow, newObj, Sem.run]
  · obtain ⟨h1, h2, h3⟩ := hF.ok z (fun _ => none) rfl
    refine hS.alloc (o := boxO w.heap.size T L.sz [(0, L, one z)]) rfl ⟨z.cells, view_alloc_self w _ _ _, h1, h2, ?_⟩ hd rfl
    intro q hq; simp at hq; subst hq; exact ⟨z, h3, rfl⟩
/-- A parameter or variable with a first value. -/
theorem a_box {T : TypeId} {x : Operand} {φ : VT} {L : Lay} {d : Nat} [hF : Flat φ L] (hx : evalT Γ x = some φ) (hi : ops[i]? = some ⟨some d, .box T x, ty, pos, af, none⟩) (hd : d < E.N)
    (h : ∀ b, Run P E ops false (i + 1) D ((d, one (.pointer (some ⟨b, 0, none⟩))) :: Γ) (boxO b T L.sz [(0, L, φ)] :: M) os K) :
    Run P E ops false i D Γ M (⟨some d, .box T x, ty, pos, af, none⟩ :: os) K := by
  refine Run.one (K' := fun D' Γ' M' => ∃ b, D' = D ∧ Γ' = (d, one (.pointer (some ⟨b, 0, none⟩))) :: Γ ∧ M' = boxO b T L.sz [(0, L, φ)] :: M) rfl (fun a w hS => ?_) (fun D' Γ' M' ⟨b, h1, h2, h3⟩ => by subst h1 h2 h3; exact h b) hi
  have hp := evalT_p hS hx
  refine ⟨.ok (.value (.pointer (some ⟨w.heap.size, 0, none⟩))) (w.alloc (.cells (a.eval x).cells T)), ?_, D, _, _, ⟨w.heap.size, rfl, rfl, rfl⟩, ?_⟩
  · simp [execOp, Instr.box, Sem.run_bind, newVar, newRow, newObj, Sem.run]
  · obtain ⟨h1, h2, h3⟩ := hF.ok _ _ hp
    refine hS.alloc (o := boxO w.heap.size T L.sz [(0, L, φ)]) rfl ⟨(a.eval x).cells, view_alloc_self w _ _ _, h1, h2, ?_⟩ hd rfl
    intro q hq; simp at hq; subst hq; exact ⟨_, h3, hp⟩
/-- A struct is boxed by its parts. -/
theorem a_boxS {T : TypeId} {x : Operand} {m : Nat} {cs : Comps} {d : Nat} (hx : evalT Γ x = some (aggT m cs)) (hi : ops[i]? = some ⟨some d, .box T x, ty, pos, af, none⟩) (hd : d < E.N)
    (h : ∀ b, Run P E ops false (i + 1) D ((d, one (.pointer (some ⟨b, 0, none⟩))) :: Γ) (boxO b T m cs :: M) os K) :
    Run P E ops false i D Γ M (⟨some d, .box T x, ty, pos, af, none⟩ :: os) K := by
  refine Run.one (K' := fun D' Γ' M' => ∃ b, D' = D ∧ Γ' = (d, one (.pointer (some ⟨b, 0, none⟩))) :: Γ ∧ M' = boxO b T m cs :: M) rfl (fun a w hS => ?_) (fun D' Γ' M' ⟨b, h1, h2, h3⟩ => by subst h1 h2 h3; exact h b) hi
  obtain ⟨c, hc, hs, ha, hcs⟩ := evalT_p hS hx
  refine ⟨.ok (.value (.pointer (some ⟨w.heap.size, 0, none⟩))) (w.alloc (.cells c T)), ?_, D, _, _, ⟨w.heap.size, rfl, rfl, rfl⟩, ?_⟩
  · simp [execOp, Instr.box, Sem.run_bind, newVar, newRow, newObj, Sem.run, hc, Value.cells]
  · exact hS.alloc (o := boxO w.heap.size T m cs) rfl ⟨c, view_alloc_self w _ _ _, hs, ha, hcs⟩ hd rfl

def setC : Comps → Nat → VT → Comps
  | [], _, _ => []
  | (k, l, v) :: r, t, ψ => bif Nat.beq k t then (k, l, ψ) :: r else (k, l, v) :: setC r t ψ
/-- The parts of a variable lie apart. -/
def apartC : Comps → Bool
  | [] => true
  | (k, l, _) :: r => r.all (fun q => decide (k + l.sz ≤ q.1) || decide (q.1 + q.2.1.sz ≤ k)) && apartC r
theorem setC_ok {c vs : Array Value} {h : Hp} {o : Nat} {L : Lay} {φ ψ : VT} {v : Value} (hle : o + vs.size ≤ c.size) (hvs : vs.size = L.sz) (hv : valAt L (splice c o vs) o = some v) (hp : ψ.p v h) :
    ∀ {cs : Comps}, apartC cs = true → lookC cs o = some (L, φ) → compsP cs c h → compsP (setC cs o ψ) (splice c o vs) h
  | [], _, hl, _ => by cases hl
  | (k, l, u) :: r, ha, hl, hc => by
    simp only [apartC, Bool.and_eq_true, List.all_eq_true, Bool.or_eq_true, decide_eq_true_eq] at ha
    rw [lookC] at hl; rw [setC]
    by_cases e : Nat.beq k o = true
    · rw [e] at hl ⊢; simp only [cond_true, Option.some.injEq, Prod.mk.injEq] at hl ⊢
      have hk := Nat.eq_of_beq_eq_true e; subst hk
      obtain ⟨rfl, rfl⟩ := hl
      intro q hq
      rcases List.mem_cons.1 hq with rfl | hq
      · exact ⟨v, hv, hp⟩
      · obtain ⟨x, hx, hpx⟩ := hc q (List.mem_cons_of_mem _ hq)
        refine ⟨x, ?_, hpx⟩
        rw [valAt_splice_ne hle]; · exact hx
        have := ha.1 q hq; omega
    · have e' : Nat.beq k o = false := by cases h' : Nat.beq k o with | true => exact absurd h' e | false => rfl
      rw [e'] at hl ⊢; simp only [cond_false] at hl ⊢
      intro q hq
      rcases List.mem_cons.1 hq with rfl | hq
      · obtain ⟨x, hx, hpx⟩ := hc (k, l, u) List.mem_cons_self
        refine ⟨x, ?_, hpx⟩
        have hm := lookC_mem hl
        have := ha.1 _ hm
        simp only at this hx ⊢
        rw [valAt_splice_ne hle]; · exact hx
        omega
      · exact setC_ok hle hvs hv hp ha.2 hl (fun q hq => hc q (List.mem_cons_of_mem _ hq)) q hq

theorem splice_all {c vs : Array Value} {o : Nat} (h1 : c.all (·.oneCell') = true) (h2 : vs.all (·.oneCell') = true) : (splice c o vs).all (·.oneCell') = true := by
  simp only [splice, Array.all_eq_true_iff_forall_mem, List.mem_toArray, List.mem_append] at *
  rintro x ((h | h) | h)
  · exact h1 x (by simpa using List.mem_of_mem_take h)
  · exact h2 x (by simpa using h)
  · exact h1 x (by simpa using List.mem_of_mem_drop h)

/-- A part of an own variable is written. -/
theorem a_storeB {T T' : TypeId} {x y : Operand} {b o m : Nat} {cs : Comps} {L : Lay} {φ ψ : VT} [hL : LayOf P T L] [hF : Flat ψ L] (j : Nat) (hx : evalT Γ x = some (one (.pointer (some ⟨b, o, none⟩)))) (hy : evalT Γ y = some ψ)
    (hM : M[j]? = some (boxO b T' m cs)) (hl : lookC cs o = some (L, φ)) (ha : apartC cs = true) (hle : o + L.sz ≤ m) (hi : ops[i]? = some ⟨none, .store T x y, ty, pos, af, none⟩)
    (h : Run P E ops false (i + 1) D Γ (M.set j (boxO b T' m (setC cs o ψ))) os K) : Run P E ops false i D Γ M (⟨none, .store T x y, ty, pos, af, none⟩ :: os) K := by
  refine Run.one (K' := fun D' Γ' M' => D' = D ∧ Γ' = Γ ∧ M' = M.set j (boxO b T' m (setC cs o ψ))) rfl (fun a w hS => ?_) (fun D' Γ' M' ⟨h1, h2, h3⟩ => by subst h1 h2 h3; exact h) hi
  have h1 : a.eval x = .pointer (some ⟨b, o, none⟩) := evalT_p hS hx
  have h2 := evalT_p hS hy
  obtain ⟨f1, f2, f3⟩ := hF.ok _ _ h2
  obtain ⟨c, hc, hs, hall, hcs⟩ := own_get hS.base hM
  have hst := run_storeVar' (P := P) (T := T) (L := L) (o := o) hc f1 (by omega) f2
  refine ⟨.ok .skip (w.setRow b (splice c o (a.eval y).cells)), ?_, D, Γ, _, ⟨rfl, rfl, rfl⟩, ?_⟩
  · simp only [execOp, h1, Instr.storeAt, Instr.sureAddr, Sem.run_bind, Sem.run_pure, Result.andThen_ok, hst]
  · show St E D Γ _ a _
    refine hS.own hM rfl (fun k hk => setRow_other _ _ _ _ (by intro e; exact hk (by simp [boxO, e]))) (setRow_size _ _ _) rfl rfl rfl ?_
    refine ⟨_, view_setRow hc, by rw [splice_size (by omega)]; exact hs, splice_all hall f2, setC_ok (by omega) f1 (valAt_splice (by omega) f1 f3) h2 ha hl hcs⟩
/-- An own variable is written whole. -/
theorem a_storeW {T T' : TypeId} {x y : Operand} {b m : Nat} {cs cs' : Comps} [hL : LayOf P T (.agg m)] (j : Nat) (hx : evalT Γ x = some (one (.pointer (some ⟨b, 0, none⟩)))) (hy : evalT Γ y = some (aggT m cs'))
    (hM : M[j]? = some (boxO b T' m cs)) (hi : ops[i]? = some ⟨none, .store T x y, ty, pos, af, none⟩)
    (h : Run P E ops false (i + 1) D Γ (M.set j (boxO b T' m cs')) os K) : Run P E ops false i D Γ M (⟨none, .store T x y, ty, pos, af, none⟩ :: os) K := by
  refine Run.one (K' := fun D' Γ' M' => D' = D ∧ Γ' = Γ ∧ M' = M.set j (boxO b T' m cs')) rfl (fun a w hS => ?_) (fun D' Γ' M' ⟨h1, h2, h3⟩ => by subst h1 h2 h3; exact h) hi
  have h1 : a.eval x = .pointer (some ⟨b, 0, none⟩) := evalT_p hS hx
  obtain ⟨c', hc', hs', ha', hcs'⟩ := evalT_p hS hy
  obtain ⟨c, hc, hs, hall, hcs⟩ := own_get hS.base hM
  have hst := run_storeVar' (P := P) (T := T) (L := .agg m) (v := a.eval y) (o := 0) hc (by rw [hc']; exact hs') (by simp [Lay.sz, hs]) (by rw [hc']; exact ha')
  have hsp : splice c 0 (a.eval y).cells = c' := by
    rw [hc']; show splice c 0 c' = c'
    apply Array.ext_getElem?; intro k
    rw [splice_at (by omega)]
    by_cases hk : k < c'.size
    · rw [if_pos (by omega)]; rfl
    · rw [if_neg (by omega), Array.getElem?_eq_none (by omega), Array.getElem?_eq_none (by omega)]
  refine ⟨.ok .skip (w.setRow b c'), ?_, D, Γ, _, ⟨rfl, rfl, rfl⟩, ?_⟩
  · simp only [execOp, h1, Instr.storeAt, Instr.sureAddr, Sem.run_bind, Sem.run_pure, Result.andThen_ok, hst, hsp]
  · show St E D Γ _ a _
    refine hS.own hM rfl (fun k hk => setRow_other _ _ _ _ (by intro e; exact hk (by simp [boxO, e]))) (setRow_size _ _ _) rfl rfl rfl ?_
    exact ⟨c', view_setRow hc, hs', ha', hcs'⟩
/-- An element of an own row is written. -/
theorem a_storeE {T T' : TypeId} {x y : Operand} {b k cap n : Nat} {φ : Nat → VT} {L : Lay} {ψ : VT} [hL : LayOf P T L] [hF : Flat ψ L] (j : Nat) (hx : evalT Γ x = some (eP b k L.sz)) (hy : evalT Γ y = some ψ)
    (hM : M[j]? = some (sliO (some b) T' L cap n φ)) (hk : k < n) (hi : ops[i]? = some ⟨none, .store T x y, ty, pos, af, none⟩)
    (h : Run P E ops false (i + 1) D Γ (M.set j (sliO (some b) T' L cap n (upd φ k ψ))) os K) : Run P E ops false i D Γ M (⟨none, .store T x y, ty, pos, af, none⟩ :: os) K := by
  refine Run.one (K' := fun D' Γ' M' => D' = D ∧ Γ' = Γ ∧ M' = M.set j (sliO (some b) T' L cap n (upd φ k ψ))) rfl (fun a w hS => ?_) (fun D' Γ' M' ⟨h1, h2, h3⟩ => by subst h1 h2 h3; exact h) hi
  have h1 : a.eval x = .pointer (some ⟨b, k * L.sz, none⟩) := evalT_p hS hx
  have h2 := evalT_p hS hy
  obtain ⟨f1, f2, f3⟩ := hF.ok _ _ h2
  obtain ⟨g1, g2, g3, g4⟩ := own_get hS.base hM
  obtain ⟨c, hc, hs, he⟩ := g4 b rfl
  have hmul : ∀ q, q < cap → q * L.sz + L.sz ≤ cap * L.sz := fun q hq => by
    have := Nat.mul_le_mul_right L.sz (show q + 1 ≤ cap by omega); rwa [Nat.succ_mul] at this
  have hfit : k * L.sz + L.sz ≤ c.size := by rw [hs]; exact hmul k (by omega)
  have hst := run_storeVar' (P := P) (T := T) (L := L) (o := k * L.sz) hc f1 hfit f2
  refine ⟨.ok .skip (w.setRow b (splice c (k * L.sz) (a.eval y).cells)), ?_, D, Γ, _, ⟨rfl, rfl, rfl⟩, ?_⟩
  · simp only [execOp, h1, Instr.storeAt, Instr.sureAddr, Sem.run_bind, Sem.run_pure, Result.andThen_ok, hst]
  · show St E D Γ _ a _
    refine hS.own hM rfl (fun k' hk' => setRow_other _ _ _ _ (by intro e; exact hk' (by simp [sliO, e]))) (setRow_size _ _ _) rfl rfl rfl ?_
    refine ⟨g1, g2, g3, fun b' hb' => ?_⟩
    cases hb'
    refine ⟨_, view_setRow hc, by rw [splice_size (by omega)]; exact hs, fun q hq => ?_⟩
    unfold upd
    by_cases e : q = k
    · subst e; rw [if_pos rfl]; exact ⟨_, valAt_splice hfit f1 f3, h2⟩
    · rw [if_neg e]
      obtain ⟨v, hv, hp⟩ := he q hq
      refine ⟨v, ?_, hp⟩
      rw [valAt_splice_ne (by omega)]; · exact hv
      rw [f1]
      rcases Nat.lt_or_ge q k with h' | h'
      · left
        have := Nat.mul_le_mul_right L.sz (show q + 1 ≤ k by omega); rwa [Nat.succ_mul] at this
      · right
        have := Nat.mul_le_mul_right L.sz (show k + 1 ≤ q by omega); rwa [Nat.succ_mul] at this
end
end Tor
