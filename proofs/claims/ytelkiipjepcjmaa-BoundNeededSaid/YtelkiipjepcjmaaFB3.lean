/-
  Theorems that the proofs of laws of this seat rest on.
  No condition.
-/
import Derived.Test.YtelkiipjepcjmaaFB2
import Derived.RangeFuncFrom
import Derived.RangeFuncLeaves
import Derived.Test.YtelkiipjepcjmaaProg
set_option linter.unusedVariables false
set_option linter.unusedSimpArgs false
section
namespace Tor
open Go Go.RowKit Go.Proofs
section
variable {P : Program} {E : Env} {Γ : Ctx} {M : Mem} {D : List Deferred} {ops : Array Oper} {i : Nat} {op : Op} {ty : TypeId} {pos : String} {af : Array Edge} {os : List Oper} {K : List Deferred → Ctx → Mem → Prop}
theorem sn0 {dr : Bool} {d t j : Nat} {b want : Bool} (hg : guardT ops ⟨some d, op, ty, pos, af, some (j, want)⟩ = some (some t, want)) (hb : look Γ t = some (one (.bool b))) (hne : (b == want) = false) (hd : Nat.ble (d + 1) E.N = true)
    (hi : ops[i]? = some ⟨some d, op, ty, pos, af, some (j, want)⟩) (hr : Run P E ops dr (i + 1) D ((d, one undef) :: Γ) M os K) : Run P E ops dr i D Γ M (⟨some d, op, ty, pos, af, some (j, want)⟩ :: os) K :=
  .step (.guardedN hg hb hne rfl (ltN hd)) hr
end
end Tor
end
section
namespace Tor
open Go Go.RowKit
section
variable {P : Program} {E : Env} {ops : Array Oper}
def okAnyG (n : Nat) (F : List Nat) (ops : Array Oper) : Bool :=
  decide (n ≤ ops.size) && (F.all fun i => decide (i < n)) &&
  ((List.range ops.size).all fun j =>
    (match ops[j]? with | some o => o.after.all (fun e => !Region.binds .any e || decide (e.on < j)) | none => true) &&
    ((List.range j).all fun i => predN 6 ops i j || (decide (j < n) && !clash ops i j) || (F.contains i && decide (n ≤ j))))
theorem okG_pre {n : Nat} {F : List Nat} (h : okAnyG n F ops = true) {i j : Nat} (hij : i < j) (hj : j < ops.size) : predN 6 ops i j = true ∨ (j < n ∧ clash ops i j = false) ∨ (i ∈ F ∧ n ≤ j) := by
  simp only [okAnyG, Bool.and_eq_true, List.all_eq_true, List.mem_range] at h
  have := (h.2 j hj).2 i hij
  simp only [Bool.or_eq_true, Bool.and_eq_true, decide_eq_true_eq, Bool.not_eq_true', List.contains_iff_mem] at this
  rcases this with (h | h) | h
  · exact .inl h
  · exact .inr (.inl h)
  · exact .inr (.inr h)
theorem okG_on {n : Nat} {F : List Nat} (h : okAnyG n F ops = true) {j : Nat} {o : Oper} (ho : ops[j]? = some o) {e : Edge} (he : e ∈ o.after) (hb : Region.binds .any e = true) : e.on < j := by
  simp only [okAnyG, Bool.and_eq_true, List.all_eq_true, List.mem_range] at h
  have hj : j < ops.size := by
    rcases Nat.lt_or_ge j ops.size with h | h
    · exact h
    · rw [Array.getElem?_eq_none h] at ho; cases ho
  have := (h.2 j hj).1
  rw [ho] at this
  simp only [Array.all_eq_true'] at this
  have := this e he
  simpa [hb] using this
theorem ready_neG {n : Nat} {F : List Nat} (hok : okAnyG n F ops = true) {l : Array Bool} (hs : l.size = ops.size) {j : Nat} (hj : j < ops.size) (hl : l.getD j false = false) : ∃ i, i ∈ Region.ready .any ops l := by
  induction j using Nat.strongRecOn with
  | _ j ih =>
    by_cases h : j ∈ Region.ready .any ops l
    · exact ⟨j, h⟩
    · have ho : ops[j]? = some ops[j] := by simp [hj]
      rw [mem_ready] at h
      have h1 : l.getD j true = false := by rw [getD_tf (by omega) true false]; exact hl
      have h2 : ¬ ∀ e ∈ ops[j].after, Region.binds .any e = true → l.getD e.on false = true := fun hall => h ⟨h1, _, ho, hall⟩
      obtain ⟨e, h2⟩ := Classical.not_forall.1 h2
      obtain ⟨he, h2⟩ := Classical.not_imp.1 h2
      obtain ⟨hb, h2⟩ := Classical.not_imp.1 h2
      have hlt := okG_on hok ho he hb
      exact ih e.on hlt (by omega) (by simpa using h2)
def readyIn (ops : Array Oper) (rem : List Nat) : List Nat := rem.filter fun i => rem.all fun k => !predB ops k i
def DeadOk (P : Program) (E : Env) (ops : Array Oper) (dead : List Nat) (Γ : Ctx) (M : Mem) : Prop :=
  ∀ i ∈ dead, ∃ o d ψ, ops[i]? = some o ∧ StepG P E Γ M ops o ((d, ψ) :: Γ) ∧ look Γ d = none
theorem DeadOk.nil {Γ : Ctx} {M : Mem} : DeadOk P E ops [] Γ M := fun _ h => nomatch h
def GameP (P : Program) (E : Env) (ops : Array Oper) (D : List Deferred) (dead : List Nat) (Γ1 : Ctx) (M1 : Mem) : Nat → List Nat → Ctx → Mem → Prop
  | 0, rem, Γ, M => DeadOk P E ops dead Γ M ∧ rem = [] ∧ SubG Γ Γ1 ∧ SubM M M1
  | f + 1, rem, Γ, M => DeadOk P E ops dead Γ M ∧ ((rem = [] ∧ SubG Γ Γ1 ∧ SubM M M1) ∨ (rem ≠ [] ∧ ∀ i ∈ readyIn ops rem, ∃ o, ops[i]? = some o ∧ Run P E ops false i D Γ M [o] (fun D' Γ' M' => D' = D ∧ GameP P E ops D dead Γ1 M1 f (rem.filter (· != i)) Γ' M')))
theorem game_end {D : List Deferred} {dead : List Nat} {Γ1 Γ : Ctx} {M1 M : Mem} {f : Nat} (hg : SubG Γ Γ1) (hm : SubM M M1) (hd : DeadOk P E ops dead Γ M) : GameP P E ops D dead Γ1 M1 f [] Γ M := by
  cases f with
  | zero => exact ⟨hd, rfl, hg, hm⟩
  | succ f => exact ⟨hd, .inl ⟨rfl, hg, hm⟩⟩
theorem game_one {D : List Deferred} {dead : List Nat} {Γ1 Γ : Ctx} {M1 M : Mem} {f : Nat} {rem rem' : List Nat} {i : Nat} {o : Oper} (hr : readyIn ops rem = [i]) (ho : ops[i]? = some o) (he : rem.filter (· != i) = rem')
    (h : Run P E ops false i D Γ M [o] (fun D' Γ' M' => D' = D ∧ GameP P E ops D dead Γ1 M1 f rem' Γ' M')) (hd : DeadOk P E ops dead Γ M) : GameP P E ops D dead Γ1 M1 (f + 1) rem Γ M := by
  refine ⟨hd, .inr ⟨fun e => ?_, fun j hj => ?_⟩⟩
  · rw [e] at hr; cases hr
  · rw [hr] at hj
    rcases List.mem_cons.1 hj with rfl | hj
    · exact ⟨o, ho, he ▸ h⟩
    · cases hj
theorem game_two {D : List Deferred} {dead : List Nat} {Γ1 Γ : Ctx} {M1 M : Mem} {f : Nat} {rem rem' rem'' : List Nat} {i j : Nat} {o o' : Oper} (hr : readyIn ops rem = [i, j]) (ho : ops[i]? = some o) (ho' : ops[j]? = some o') (he : rem.filter (· != i) = rem') (he' : rem.filter (· != j) = rem'')
    (h : Run P E ops false i D Γ M [o] (fun D' Γ' M' => D' = D ∧ GameP P E ops D dead Γ1 M1 f rem' Γ' M')) (h' : Run P E ops false j D Γ M [o'] (fun D' Γ' M' => D' = D ∧ GameP P E ops D dead Γ1 M1 f rem'' Γ' M')) (hd : DeadOk P E ops dead Γ M) : GameP P E ops D dead Γ1 M1 (f + 1) rem Γ M := by
  refine ⟨hd, .inr ⟨fun e => ?_, fun k hk => ?_⟩⟩
  · rw [e] at hr; cases hr
  · rw [hr] at hk
    rcases List.mem_cons.1 hk with rfl | hk
    · exact ⟨o, ho, he ▸ h⟩
    · rcases List.mem_cons.1 hk with rfl | hk
      · exact ⟨o', ho', he' ▸ h'⟩
      · cases hk
theorem game_three {D : List Deferred} {dead : List Nat} {Γ1 Γ : Ctx} {M1 M : Mem} {f : Nat} {rem r1 r2 r3 : List Nat} {i j k : Nat} {o o' o'' : Oper} (hr : readyIn ops rem = [i, j, k]) (ho : ops[i]? = some o) (ho' : ops[j]? = some o') (ho'' : ops[k]? = some o'') (he : rem.filter (· != i) = r1) (he' : rem.filter (· != j) = r2) (he'' : rem.filter (· != k) = r3)
    (h : Run P E ops false i D Γ M [o] (fun D' Γ' M' => D' = D ∧ GameP P E ops D dead Γ1 M1 f r1 Γ' M')) (h' : Run P E ops false j D Γ M [o'] (fun D' Γ' M' => D' = D ∧ GameP P E ops D dead Γ1 M1 f r2 Γ' M')) (h'' : Run P E ops false k D Γ M [o''] (fun D' Γ' M' => D' = D ∧ GameP P E ops D dead Γ1 M1 f r3 Γ' M')) (hd : DeadOk P E ops dead Γ M) : GameP P E ops D dead Γ1 M1 (f + 1) rem Γ M := by
  refine ⟨hd, .inr ⟨fun e => ?_, fun q hq => ?_⟩⟩
  · rw [e] at hr; cases hr
  · rw [hr] at hq
    rcases List.mem_cons.1 hq with rfl | hq
    · exact ⟨o, ho, he ▸ h⟩
    · rcases List.mem_cons.1 hq with rfl | hq
      · exact ⟨o', ho', he' ▸ h'⟩
      · rcases List.mem_cons.1 hq with rfl | hq
        · exact ⟨o'', ho'', he'' ▸ h''⟩
        · cases hq
theorem Run.zero {D : List Deferred} {Γ : Ctx} {M : Mem} {os : List Oper} {i : Nat} {dr : Bool} {K : List Deferred → Ctx → Mem → Prop} (h : Run P E ops dr i D Γ M os K) : os = [] → ∀ a w, St E D Γ M a w → ∃ D' Γ' M', K D' Γ' M' ∧ St E D' Γ' M' a w := by
  induction h with
  | nil hK => intro _ a w hS; exact ⟨_, _, _, hK, hS⟩
  | step _ _ _ => intro e; cases e
  | conv hc _ ih => intro e a w hS; exact ih e a w (hc a w hS)
  | act _ _ _ => intro e; cases e
theorem Run.single {D : List Deferred} {Γ : Ctx} {M : Mem} {os : List Oper} {i : Nat} {dr : Bool} {K : List Deferred → Ctx → Mem → Prop} (h : Run P E ops dr i D Γ M os K) : ∀ o, os = [o] → ops[i]? = some o → ∀ (next : Act → World → Prop) (Q : Exit → Act → World → Prop),
    (∀ D' Γ' M' a w, K D' Γ' M' → St E D' Γ' M' a w → next a w) → ∀ a w, St E D Γ M a w → wpOp P ops Q i next a w := by
  induction h with
  | nil hK => intro o e; cases e
  | @step dr i D Γ M o os K Γ' hs hr _ =>
    intro o' e ho next Q hn a w hS
    cases e
    obtain ⟨d, ψ, _, hN, rfl, hrun⟩ := hs.run ho
    refine hrun a w hS.base (hS.names _) next Q fun v w' k hv' => ?_
    obtain ⟨D', Γ', M', hK, hS'⟩ := hr.zero rfl _ _ (hS.put k hN hv')
    exact hn _ _ _ _ _ hK hS'
  | conv hc _ ih => intro o e ho next Q hn a w hS; exact ih o e ho next Q hn a w (hc a w hS)
  | @act i D Γ M o os K K' hs hr _ =>
    intro o' e ho next Q hn a w hS
    cases e
    refine hs a w hS next Q fun D' Γ' M' a' w' hK hS' => ?_
    obtain ⟨D2, Γ2, M2, hK2, hS2⟩ := (hr D' Γ' M' hK).zero rfl _ _ hS'
    exact hn _ _ _ _ _ hK2 hS2
theorem Lst.set {l : Array Bool} (hl : Lst ops l) {i : Nat} (hi : i ∈ Region.ready .any ops l) : Lst ops (l.setIfInBounds i true) := by
  have hi1 := ready_lt hi
  have hsz := hl.size
  refine ⟨by simpa using hsz, fun j hj i' hp => ?_⟩
  rw [getD_set (by omega)] at hj ⊢
  split
  · rfl
  · split at hj
    · rename_i h1; subst h1; exact ready_pred hi hp
    · exact hl.closed j hj i' hp
theorem game_run {n : Nat} {F : List Nat} (hok : okAnyG n F ops = true) {D : List Deferred} {dead : List Nat} {Γ1 : Ctx} {M1 : Mem} {Q : Exit → Act → World → Prop} (hQ : ∀ a w, St E D Γ1 M1 a w → Q .normal a w) :
    ∀ (fuel f : Nat) (rem : List Nat) (Γ : Ctx) (M : Mem) (l : Array Bool) (a : Act) (w : World), GameP P E ops D dead Γ1 M1 f rem Γ M → Lst ops l → left ops l ≤ fuel →
      (∀ j, j < ops.size → l.getD j false = false → j ∈ rem ∨ j ∈ dead) → (∀ j ∈ rem, l.getD j false = false ∧ j < ops.size) → St E D Γ M a w → wpAny P .any ops Q fuel l a w := by
  have fin : ∀ {f : Nat} {rem : List Nat} {Γ : Ctx} {M : Mem} {a : Act} {w : World}, GameP P E ops D dead Γ1 M1 f rem Γ M → rem = [] → St E D Γ M a w → Q .normal a w := by
    intro f rem Γ M a w hG e hS
    cases f with
    | zero => exact hQ _ _ (hS.sub hG.2.2.1 hG.2.2.2)
    | succ f =>
      rcases hG.2 with h | h
      · exact hQ _ _ (hS.sub h.2.1 h.2.2)
      · exact absurd e h.1
  have hnil : ∀ {rem : List Nat} {l : Array Bool}, Lst ops l → Region.ready .any ops l = [] → (∀ j ∈ rem, l.getD j false = false ∧ j < ops.size) → rem = [] := by
    intro rem l hl hr h2
    rcases rem with _ | ⟨j, rem⟩
    · rfl
    · obtain ⟨h3, h4⟩ := h2 j List.mem_cons_self
      obtain ⟨i, hi⟩ := ready_neG hok hl.size h4 h3
      rw [hr] at hi; cases hi
  intro fuel
  induction fuel with
  | zero =>
    intro f rem Γ M l a w hG hl hleft h1 h2 hS
    have hr : Region.ready .any ops l = [] := by
      rw [List.eq_nil_iff_forall_not_mem]
      intro j hj
      have hlj : l.getD j false = false := by
        have := (mem_ready.1 hj).1
        rw [getD_tf (by have := hl.size; have := ready_lt hj; omega) true false] at this; exact this
      have := left_set (ops := ops) hl.size (ready_lt hj) hlj
      omega
    exact ⟨hr, fin hG (hnil hl hr h2) hS⟩
  | succ fuel ih =>
    intro f rem Γ M l a w hG hl hleft h1 h2 hS
    refine ⟨fun hr => fin hG (hnil hl hr h2) hS, fun i hi => ?_⟩
    have hi1 := ready_lt hi
    have hsz := hl.size
    have hi2 : l.getD i false = false := by
      have := (mem_ready.1 hi).1
      rw [getD_tf (by omega) true false] at this; exact this
    have hl' := hl.set hi
    have hleft' := left_set (ops := ops) hsz hi1 hi2
    by_cases him : i ∈ rem
    · cases f with
      | zero => rw [hG.2.1] at him; cases him
      | succ f =>
        rcases hG.2 with h | h
        · rw [h.1] at him; cases him
        · have hir : i ∈ readyIn ops rem := by
            unfold readyIn
            refine List.mem_filter.2 ⟨him, ?_⟩
            simp only [List.all_eq_true, Bool.not_eq_true']
            intro k hk
            rw [← Bool.not_eq_true]; intro hp
            have := ready_pred hi hp
            rw [(h2 k hk).1] at this; cases this
          obtain ⟨o, ho, hrun⟩ := h.2 i hir
          refine hrun.single o rfl ho _ Q (fun D' Γ' M' a' w' hK hS' => ?_) a w hS
          obtain ⟨rfl, hG'⟩ := hK
          refine ih f _ Γ' M' _ a' w' hG' hl' (by omega) (fun j hj hlj => ?_) (fun j hj => ?_) hS'
          · rw [getD_set (by omega)] at hlj
            split at hlj
            · cases hlj
            · rename_i hne
              rcases h1 j hj hlj with h3 | h3
              · exact .inl (List.mem_filter.2 ⟨h3, by simpa using fun e => hne e.symm⟩)
              · exact .inr h3
          · obtain ⟨h3, h4⟩ := List.mem_filter.1 hj
            have hne : i ≠ j := fun e => by simp [e] at h4
            rw [getD_set (by omega), if_neg hne]
            exact h2 j h3
    · have hid : i ∈ dead := by
        rcases h1 i hi1 hi2 with h | h
        · exact absurd h him
        · exact h
      have hDk : DeadOk P E ops dead Γ M := by
        cases f with
        | zero => exact hG.1
        | succ f => exact hG.1
      obtain ⟨o, d, ψ, ho, hs, hnd⟩ := hDk i hid
      obtain ⟨d', ψ', _, hN, heq, hrun⟩ := hs.run ho
      cases heq
      refine hrun a w hS.base (hS.names _) _ Q fun v w' k hv' => ?_
      have hS' := hS.put k hN hv'
      refine ih f rem Γ M _ _ w' hG hl' (by omega) (fun j hj hlj => ?_) (fun j hj => ?_) (hS'.sub (fun t φ ht => ⟨φ, ?_, VT.le_refl _⟩) (SubM.refl _))
      · rw [getD_set (by omega)] at hlj
        split at hlj
        · cases hlj
        · exact h1 j hj hlj
      · have hne : i ≠ j := fun e => him (e ▸ hj)
        rw [getD_set (by omega), if_neg hne]
        exact h2 j hj
      · rw [look_cons, if_neg]
        · exact ht
        · intro e; subst e; rw [hnd] at ht; cases ht
def subsL : List Nat → List (List Nat)
  | [] => [[]]
  | x :: xs => (subsL xs).map (x :: ·) ++ subsL xs
theorem mem_subsL (p : Nat → Bool) : ∀ l : List Nat, l.filter p ∈ subsL l
  | [] => List.mem_cons_self
  | x :: xs => by
    have ih := mem_subsL p xs
    rw [List.filter_cons]
    unfold subsL
    split
    · exact List.mem_append.2 (.inl (List.mem_map.2 ⟨_, ih, rfl⟩))
    · exact List.mem_append.2 (.inr ih)
def EntryP (P : Program) (E : Env) (ops : Array Oper) (D : List Deferred) (dead : List Nat) (Γ1 : Ctx) (M1 : Mem) (f n : Nat) (live : List Nat) (Γ : Ctx) (M : Mem) : Prop :=
  ∀ S ∈ subsL live, ∃ Γe, SubG Γ Γe ∧ ((S ++ dead).all fun i => match dstOf ops i with | some d => (look Γe d).isNone | none => true) = true ∧ GameP P E ops D dead Γ1 M1 f (S ++ List.range' n (ops.size - n)) Γe M
theorem wpAny_runG {n : Nat} {live dead : List Nat} (hok : okAnyG n (live ++ dead) ops = true) {G : Nat → Ctx} {M : Mem} {D : List Deferred} (hG : ∀ j o, j < n → ops[j]? = some o → StepG P E (G j) M ops o (G (j + 1)))
    {Q : Exit → Act → World → Prop} {Γ1 : Ctx} {M1 : Mem} {f : Nat} (hE : EntryP P E ops D dead Γ1 M1 f n live (G n) M) (hQ : ∀ a w, St E D Γ1 M1 a w → Q .normal a w) :
    ∀ (fuel : Nat) (l : Array Bool) (a : Act) (w : World), Lst ops l → left ops l ≤ fuel → Base E M w → a.tmps.size = E.N → a.defers = D → Inv E ops n G M l a w →
      (∃ i, i < n ∧ i ∉ live ++ dead ∧ l.getD i false = false) → wpAny P .any ops Q fuel l a w := by
  have hn : n ≤ ops.size := by simp only [okAnyG, Bool.and_eq_true] at hok; exact of_decide_eq_true hok.1.1
  have hF : ∀ i ∈ live ++ dead, i < n := by
    simp only [okAnyG, Bool.and_eq_true, List.all_eq_true, decide_eq_true_eq] at hok; exact hok.1.2
  have late : ∀ {l : Array Bool}, Lst ops l → ∀ {i0 : Nat}, i0 < n → i0 ∉ live ++ dead → l.getD i0 false = false → ∀ j, n ≤ j → j < ops.size → l.getD j false = false := by
    intro l hl i0 h1 h2 h3 j h4 h5
    rw [← Bool.not_eq_true]; intro hlj
    rcases okG_pre hok (i := i0) (j := j) (by omega) h5 with hp | ⟨hp, _⟩ | ⟨hp, _⟩
    · have := clsT hl _ j hlj i0 hp; rw [this] at h3; cases h3
    · omega
    · exact h2 hp
  intro fuel
  induction fuel with
  | zero =>
    intro l a w hl hleft _ _ _ _ ⟨i, hi, _, hil⟩
    have := left_set (ops := ops) hl.size (i := i) (by omega) hil
    omega
  | succ fuel ih =>
    intro l a w hl hleft hbase hsz hdf hinv ⟨i0, hi0, hi0F, hil0⟩
    have hls := hl.size
    have hlt0 := late hl hi0 hi0F hil0
    refine ⟨fun hr => ?_, fun i hi => ?_⟩
    · obtain ⟨i, hi⟩ := ready_neG hok hls (j := i0) (by omega) hil0
      rw [hr] at hi; cases hi
    · have hi1 := ready_lt hi
      have hi2 : l.getD i false = false := by
        have := (mem_ready.1 hi).1
        rw [getD_tf (by omega) true false] at this; exact this
      have hin : i < n := by
        rcases Nat.lt_or_ge i n with h' | h'
        · exact h'
        · rcases okG_pre hok (i := i0) (j := i) (by omega) hi1 with hp | ⟨hp, _⟩ | ⟨hp, _⟩
          · have := rdyT hl hi hp; rw [this] at hil0; cases hil0
          · omega
          · exact absurd hp hi0F
      have ho : ops[i]? = some ops[i] := by simp [hi1]
      obtain ⟨d, ψ, hd, hN, hΓ, hrun⟩ := (hG i _ hin ho).run ho
      have hdi : dstOf ops i = some d := by simp [dstOf, ho, hd]
      refine hrun a w hbase (fun t φ ht hlk => ?_) _ Q fun v w' k hv' => ?_
      · refine hinv i (by omega) t φ hlk (fun j hj hdj => ?_) (fun j hj hjs hdj => ?_)
        · rcases okG_pre hok hj hi1 with hp | ⟨_, hp⟩ | ⟨_, hp⟩
          · exact rdyT hl hi hp
          · rw [clash_name hdj (by simpa [namesOf, ho] using ht)] at hp; cases hp
          · omega
        · rcases Nat.lt_or_ge i j with h' | h'
          · rw [← Bool.not_eq_true]; intro hlj
            rcases okG_pre hok h' hjs with hp | ⟨_, hp⟩ | ⟨_, hp⟩
            · have := clsT hl _ j hlj i hp; rw [this] at hi2; cases hi2
            · rw [clash_name' hdj (by simpa [namesOf, ho] using ht)] at hp; cases hp
            · have := hlt0 j hp hjs; rw [hlj] at this; cases this
          · have : j = i := by omega
            subst this; exact hi2
      · have hl' := hl.set hi
        have hbase' := hbase.ext k
        have hsz' : (a.put (some d) v).tmps.size = E.N := by simp [Act.put, hsz]
        have hinv' : Inv E ops n G M (l.setIfInBounds i true) (a.put (some d) v) w' := by
          intro k' hk' t φ hlk hlo hhi
          by_cases htd : d = t
          · subst htd
            have hik : i < k' := by
              rcases Nat.lt_or_ge i k' with h' | h'
              · exact h'
              · have := hhi i h' hi1 hdi; rw [getD_set (by omega)] at this; simp at this
            have hno : ∀ j, i + 1 ≤ j → j < k' → dstOf ops j ≠ some d := by
              intro j h1 h2 hdj
              have h3 := hlo j h2 hdj
              rw [getD_set (by omega), if_neg (by omega)] at h3
              rcases okG_pre hok (i := i) (j := j) (by omega) (by omega) with hp | ⟨_, hp⟩ | ⟨_, hp⟩
              · have := clsT hl _ j h3 i hp; rw [this] at hi2; cases hi2
              · rw [clash_dst hdi hdj] at hp; cases hp
              · omega
            rw [look_between hG hn (i := i + 1) (by omega) hk' hno, hΓ, look_cons, if_pos rfl] at hlk
            cases hlk
            rw [getD_put_self (by rw [hsz]; exact hN)]; exact hv'
          · rw [getD_put_ne htd]
            refine φ.mono (Base.hv_ext k) (hinv k' hk' t φ hlk (fun j hj hdj => ?_) (fun j hj hjs hdj => ?_))
            · have := hlo j hj hdj; rw [getD_set (by omega)] at this
              split at this
              · rename_i h1; subst h1; rw [hdi] at hdj; cases hdj; exact absurd rfl htd
              · exact this
            · have := hhi j hj hjs hdj; rw [getD_set (by omega)] at this
              split at this
              · cases this
              · exact this
        have hleft' := left_set (ops := ops) hls hi1 hi2
        by_cases hmore : ∃ i', i' < n ∧ i' ∉ live ++ dead ∧ (l.setIfInBounds i true).getD i' false = false
        · exact ih _ _ _ hl' (by omega) hbase' hsz' hdf hinv' hmore
        · have hall : ∀ j, j < n → j ∉ live ++ dead → (l.setIfInBounds i true).getD j false = true := by
            intro j hj hjF; rw [← Bool.not_eq_false]; intro h; exact hmore ⟨j, hj, hjF, h⟩
          have hlate : ∀ j, n ≤ j → j < ops.size → (l.setIfInBounds i true).getD j false = false := by
            intro j hj hjs
            rw [getD_set (by omega), if_neg (by omega)]
            exact hlt0 j hj hjs
          obtain ⟨Γe, hsub, hdn, hgame⟩ := hE _ (mem_subsL (fun j => !(l.setIfInBounds i true).getD j false) live)
          have hSt : St E D Γe M (a.put (some d) v) w' := by
            refine ⟨hbase', hsz', hdf, fun t φ hlk => ?_⟩
            obtain ⟨φ0, h0, hle⟩ := hsub t φ hlk
            refine hle _ _ (hinv' n (Nat.le_refl _) t φ0 h0 (fun j hj hdj => ?_) (fun j hj hjs _ => hlate j hj hjs))
            have hnotin : j ∉ (live.filter fun j => !(l.setIfInBounds i true).getD j false) ++ dead := by
              intro hmem
              have := List.all_eq_true.1 hdn j hmem
              rw [hdj] at this
              simp only [Option.isNone_iff_eq_none] at this
              rw [hlk] at this; cases this
            by_cases hjF : j ∈ live ++ dead
            · rcases List.mem_append.1 hjF with h | h
              · rw [← Bool.not_eq_false]; intro hf
                exact hnotin (List.mem_append.2 (.inl (List.mem_filter.2 ⟨h, by rw [hf]; rfl⟩)))
              · exact absurd (List.mem_append.2 (.inr h)) hnotin
            · exact hall j hj hjF
          refine game_run hok hQ fuel f _ Γe M _ _ w' hgame hl' (by omega) (fun j hj hlj => ?_) (fun j hj => ?_) hSt
          · rcases Nat.lt_or_ge j n with h | h
            · by_cases hjF : j ∈ live ++ dead
              · rcases List.mem_append.1 hjF with h' | h'
                · exact .inl (List.mem_append.2 (.inl (List.mem_filter.2 ⟨h', by rw [hlj]; rfl⟩)))
                · exact .inr h'
              · rw [hall j h hjF] at hlj; cases hlj
            · exact .inl (List.mem_append.2 (.inr (List.mem_range'_1.2 ⟨h, by omega⟩)))
          · rcases List.mem_append.1 hj with h | h
            · obtain ⟨h1, h2⟩ := List.mem_filter.1 h
              exact ⟨by simpa using h2, Nat.lt_of_lt_of_le (hF j (List.mem_append.2 (.inl h1))) hn⟩
            · obtain ⟨h1, h2⟩ := List.mem_range'_1.1 h
              exact ⟨hlate j h1 (by omega), by omega⟩
theorem J_regG {D : List Deferred} {Γ : Ctx} {M : Mem} {id : Nat} {Q : Exit → Act → World → Prop} (n f : Nat) (live dead : List Nat) {Γ1 : Ctx} {M1 : Mem} (hm : P.follows .mixedOrders = true) (hok : okAnyG n (live ++ dead) ops = true) (h0 : decide (0 < n) && !(live ++ dead).contains 0 = true)
    (h : Run P E ops true 0 D Γ M (ops.toList.take n) (fun D' Γ' M' => EntryP P E ops D dead Γ1 M1 f n live Γ' M')) (hk : PJ E D Γ1 M1 .normal Q) : J P E D Γ M (.region id ops true) Q := by
  intro a w hS
  have hn : n ≤ ops.size := by simp only [okAnyG, Bool.and_eq_true] at hok; exact of_decide_eq_true hok.1.1
  simp only [Bool.and_eq_true, decide_eq_true_eq, Bool.not_eq_true', ← Bool.not_eq_true, List.contains_iff_mem] at h0
  refine reg_any_in hm ?_
  have k : Ext w { w with drawn := w.drawn + 1 } := ⟨rfl, rfl, rfl, Nat.le_refl _, fun _ _ => rfl⟩
  obtain ⟨G, hG0, hK, hG⟩ := h.chain rfl
  have hlen : (ops.toList.take n).length = n := by simp [hn]
  rw [hlen, Nat.zero_add] at hK
  refine wpAny_runG (D := D) hok (G := G) (M := M) (Q := nrm Q) (fun j o hj ho => ?_) hK (fun a w hS => hk a w hS) ops.size _ a _ ⟨by simp, fun j hj => ?_⟩ ?_ (hS.base.ext k) hS.sz hS.df ?_ ⟨0, h0.1, h0.2, ?_⟩
  · have := hG j o (by rw [List.getElem?_take, if_pos hj]; simpa using ho)
    simpa using this
  · simp [Array.getD_eq_getD_getElem?, Array.getElem?_replicate] at hj; split at hj <;> simp at hj
  · unfold left; refine Nat.le_trans (List.length_filter_le _ _) (by simp)
  · intro k' hk' t φ hlk hlo _
    have hno : ∀ j, 0 ≤ j → j < k' → dstOf ops j ≠ some t := by
      intro j _ hj hd
      have := hlo j hj hd
      simp [Array.getD_eq_getD_getElem?, Array.getElem?_replicate] at this; split at this <;> simp at this
    rw [look_between (fun j o hj ho => by have := hG j o (by rw [List.getElem?_take, if_pos hj]; simpa using ho); simpa using this) hn (Nat.zero_le _) hk' hno, hG0] at hlk
    exact φ.mono (Base.hv_ext k) (hS.tm t φ hlk)
  · simp [Array.getD_eq_getD_getElem?, Array.getElem?_replicate]; split <;> rfl
theorem pj_fall {D : List Deferred} {Γ : Ctx} {M : Mem} {fn : Func} {R : Ending → World → Prop} (h : PJ E D Γ M .ret (bodyPost P fn R)) : PJ E D Γ M .normal (bodyPost P fn R) := fun a w hS => h a w hS
end
section
variable {P : Program} {E : Env} {ops : Array Oper}
theorem entry3 {D : List Deferred} {dead : List Nat} {x y z : Nat} {Γ1 Γ Γa Γb Γc Γd Γe Γf Γg Γh : Ctx} {M1 M : Mem} {f n : Nat} {rem : List Nat} (hr : List.range' n (ops.size - n) = rem)
    (ha : SubG Γ Γa) (ha' : ((x :: y :: z :: dead).all fun i => match dstOf ops i with | some d => (look Γa d).isNone | none => true) = true)
    (hb : SubG Γ Γb) (hb' : ((x :: y :: dead).all fun i => match dstOf ops i with | some d => (look Γb d).isNone | none => true) = true)
    (hc : SubG Γ Γc) (hc' : ((x :: z :: dead).all fun i => match dstOf ops i with | some d => (look Γc d).isNone | none => true) = true)
    (hd : SubG Γ Γd) (hd' : ((x :: dead).all fun i => match dstOf ops i with | some d => (look Γd d).isNone | none => true) = true)
    (he : SubG Γ Γe) (he' : ((y :: z :: dead).all fun i => match dstOf ops i with | some d => (look Γe d).isNone | none => true) = true)
    (hf : SubG Γ Γf) (hf' : ((y :: dead).all fun i => match dstOf ops i with | some d => (look Γf d).isNone | none => true) = true)
    (hg : SubG Γ Γg) (hg' : ((z :: dead).all fun i => match dstOf ops i with | some d => (look Γg d).isNone | none => true) = true)
    (hh : SubG Γ Γh) (hh' : (dead.all fun i => match dstOf ops i with | some d => (look Γh d).isNone | none => true) = true)
    (h1 : GameP P E ops D dead Γ1 M1 f (x :: y :: z :: rem) Γa M) (h2 : GameP P E ops D dead Γ1 M1 f (x :: y :: rem) Γb M) (h3 : GameP P E ops D dead Γ1 M1 f (x :: z :: rem) Γc M) (h4 : GameP P E ops D dead Γ1 M1 f (x :: rem) Γd M)
    (h5 : GameP P E ops D dead Γ1 M1 f (y :: z :: rem) Γe M) (h6 : GameP P E ops D dead Γ1 M1 f (y :: rem) Γf M) (h7 : GameP P E ops D dead Γ1 M1 f (z :: rem) Γg M) (h8 : GameP P E ops D dead Γ1 M1 f rem Γh M) : EntryP P E ops D dead Γ1 M1 f n [x, y, z] Γ M := fun S hS => by
  have hS' : S = [x, y, z] ∨ S = [x, y] ∨ S = [x, z] ∨ S = [x] ∨ S = [y, z] ∨ S = [y] ∨ S = [z] ∨ S = [] := by simpa [subsL] using hS
  rcases hS' with rfl | rfl | rfl | rfl | rfl | rfl | rfl | rfl
  · exact ⟨Γa, ha, ha', hr ▸ h1⟩
  · exact ⟨Γb, hb, hb', hr ▸ h2⟩
  · exact ⟨Γc, hc, hc', hr ▸ h3⟩
  · exact ⟨Γd, hd, hd', hr ▸ h4⟩
  · exact ⟨Γe, he, he', hr ▸ h5⟩
  · exact ⟨Γf, hf, hf', hr ▸ h6⟩
  · exact ⟨Γg, hg, hg', hr ▸ h7⟩
  · exact ⟨Γh, hh, hh', hr ▸ h8⟩
end
end Tor
end
section
set_option linter.unusedSectionVars false
namespace Tor
open Go Go.RowKit
section
variable {P : Program} {E : Env} {D : List Deferred} {Γ : Ctx} {M : Mem} {Q : Exit → Act → World → Prop}
def dfO (b : Nat) : Own where
  bl := [b]
  p g _ := g b = some (.deferred (some []))
  loc := fun he _ H => (he _ (by simp)).symm.trans H
abbrev coll (b : Nat) : Deferred := { target := .collected b, args := #[] }
class CellO (o : Own) : Prop where
  h : ∀ g k, o.p g k → ∀ b ∈ o.bl, ∃ c T f, g b = some (.cells c T f)
theorem vw_cells {g : RH} {b : Nat} {c : Array Value} {T : TypeId} {f : Nat × Nat} (e : vw g b = some (c, T, f)) : g b = some (.cells c T f) := by
  unfold vw at e; split at e
  · rename_i h; cases e; exact h
  · cases e
instance {b : Nat} {T : TypeId} {m : Nat} {cs : Comps} : CellO (boxO b T m cs) := ⟨fun g k ⟨c, h, _⟩ b' hb => by
  rw [show b' = b by simpa [boxO] using hb]; exact ⟨_, _, _, vw_cells h⟩⟩
instance {sv : Option Nat} {T : TypeId} {L : Lay} {cap n : Nat} {φ : Nat → VT} : CellO (sliO sv T L cap n φ) := ⟨fun g k ⟨_, _, _, h⟩ b hb => by
  obtain ⟨c, hc, _⟩ := h b (by simpa [sliO] using hb); exact ⟨_, _, _, vw_cells hc⟩⟩
class CellM (M : Mem) : Prop where
  h : ∀ o ∈ M, CellO o
instance : CellM [] := ⟨fun o h => by cases h⟩
instance {o : Own} {M : Mem} [ho : CellO o] [hM : CellM M] : CellM (o :: M) := ⟨fun x h => by
  rcases List.mem_cons.1 h with rfl | h
  · exact ho
  · exact hM.h x h⟩
theorem CellM.get {M : Mem} (hc : CellM M) {E : Env} {w : World} (hB : Base E M w) {b : Nat} (hb : b ∈ blks M) : ∃ c T f, w.heap[b]? = some (Obj.cells c T f) := by
  obtain ⟨o, ho, hbo⟩ := List.mem_flatMap.1 hb
  exact (hc.h o ho).h _ _ (hB.mem o ho) b hbo
theorem St.grown {a : Act} {W W' : World} {row : Option Nat} {B : Nat} (hc : CellM M) (hS : St E D Γ M a W) (hg : W.grownBy W' row) (hB : E.w0.heap.size ≤ B)
    (hr : ∀ r, row = some r → B ≤ r ∧ ∃ o : Obj, W.heap[r]? = some o ∧ o.isCells = false) : St E D Γ M a W' := by
  have hk : ∀ b c T f, W.heap[b]? = some (Obj.cells c T f) → W'.heap[b]? = W.heap[b]? := fun b c T f e => grownBy_keeps_cells hg (fun r e => (hr r e).2) e rfl
  have hle : Hp.le (hv E M W) (hv E M W') := hid_mono fun b x e => by
    obtain ⟨c, T, f⟩ := x
    have := view_some e
    exact view_of ((hk _ _ _ _ this).trans this)
  refine ⟨⟨fun o ho => o.loc (fun b hb => ?_) hle (hS.base.mem o ho), hS.base.nd, hS.base.dis, hS.base.lo, fun b hb => Nat.lt_of_lt_of_le (hS.base.ex b hb) hg.size, ?_⟩, hS.sz, hS.df, fun t φ h => φ.mono hle (hS.tm t φ h)⟩
  · obtain ⟨c, T, f, e⟩ := (hc.h o ho).h _ _ (hS.base.mem o ho) b hb
    exact (hk b c T f e).symm
  · have hf := hS.base.fr
    refine ⟨hg.os.trans hf.os, hg.tape.trans hf.tape, hg.output.trans hf.output, Nat.le_trans hf.size hg.size, fun k hk hn => (hg.block k (Nat.lt_of_lt_of_le hk hf.size) fun e => ?_).trans (hf.block k hk hn)⟩
    have := (hr k e.symm).1
    omega
theorem St.from_ {a : Act} {w W : World} {M0 : Mem} {r : Option Nat} (hB : Base E M0 w) (hS : St ⟨w, E.O, blks M0, E.N, r⟩ D Γ M a W) : St E D Γ M a W :=
  ⟨⟨hS.base.mem, hS.base.nd, hS.base.dis, fun b hb => (hS.base.lo b hb).elim (fun h => .inl (Nat.le_trans hB.fr.size h)) (fun h => hB.lo b h), hS.base.ex,
    hB.fr.trans' hS.base.fr fun x hx => hB.lo x hx⟩, hS.sz, hS.df, hS.tm⟩
theorem St.slots {a a' : Act} {W W' : World} {M' : Mem} {r : Option Nat} {Γ' : Ctx} (hS : St E D Γ M a W) (hS' : St ⟨W, E.O, blks M, E.N, r⟩ [] Γ' M' a' W') : St E D Γ M' a W' := by
  have hle : Hp.le (hv E M W) (hv E M' W') := by
    intro b x e
    obtain ⟨h1, h2⟩ := hid_some e
    have hlt := view_lt h2
    have hnM : b ∉ blks M := fun h => h1 (List.mem_append.2 (.inr h))
    refine hid_of (fun h => ?_) (by rw [view_eq (hS'.base.fr.block b hlt hnM)]; exact h2)
    rcases List.mem_append.1 h with h | h
    · exact h1 (List.mem_append.2 (.inl h))
    · rcases hS'.base.lo b h with h3 | h3
      · have h3 : W.heap.size ≤ b := h3
        omega
      · exact hnM h3
  have hB := (hS'.from_ hS.base).base
  exact ⟨hB, hS.sz, hS.df, fun t φ h => φ.mono hle (hS.tm t φ h)⟩
structure KeepsH (n : Nat) (O : List Nat) (W W' : World) : Prop where
  os : W'.os = W.os
  tape : W'.tape = W.tape
  output : W'.output = W.output
  size : W.heap.size ≤ W'.heap.size
  block : ∀ b, b < n → b ∉ O → W'.heap[b]? = W.heap[b]?
def OkY {α : Type} (P : Program) (gf : FuncId) (cs : List VT) (enc : α → Value) (S Sp : List α → Prop) (N : Nat) : Prop :=
  ∀ (w : World) (O : List Nat) (ca : List Value), (∀ b ∈ O, b < w.heap.size) → tupP cs ca (hid O (view w)) → SeqStopsK Fence.wide 8 P gf ca.toArray (fun x => #[enc x]) (KeepsH w.heap.size O) S Sp N w
def rPost {α σ : Type} (E : Env) (Ms : σ → Mem) (ok : List α → σ → Prop) (okx : Option Nat → List α → σ → Prop) (pre : List α) : Exit → Act → World → Prop
  | .normal, a, w => ∃ s, ok pre s ∧ St E [] [] (Ms s) a w
  | .ret, a, w => ∃ s, okx none pre s ∧ St E [] [] (Ms s) a w
  | .exit id, a, w => ∃ s, okx (some id) pre s ∧ St E [] [] (Ms s) a w
  | _, _, _ => False
theorem wpIn_any_n {r : Option Nat} {n m : Nat} {c : Code} {a : Act} {w : World} (h : c.wpIn (fen r) n P Q a w) : c.wpIn (fen r) m P Q a w :=
  fun b k cs hro hb _ => h b k cs hro hb (fun d hd => by rw [fen_depth] at hd; cases hd)
theorem St.mark {a : Act} {W : World} {b : Nat} (hc : CellM M) (hS : St E D Γ M a W) (hb : E.w0.heap.size ≤ b) (hO : b ∉ E.O) (hh : W.heap[b]? = some (.deferred (some []))) :
    St E (coll b :: D) Γ (dfO b :: M) { a with defers := coll b :: a.defers } W := by
  have hn : b ∉ blks M := fun h => by obtain ⟨c, T, f, e⟩ := hc.get hS.base h; rw [hh] at e; cases e
  have hlt : b < W.heap.size := (Array.getElem?_eq_some_iff.1 hh).1
  have hle : Hp.le (hv E M W) (hv E (dfO b :: M) W) := by
    intro x y e
    obtain ⟨h1, h2⟩ := hid_some e
    refine hid_of (fun h => ?_) h2
    have hx : x ≠ b := fun e => by subst e; unfold view at h2; rw [hh] at h2; cases h2
    simp only [List.mem_append, blks_cons, dfO, List.mem_singleton] at h
    rcases h with h | h | h
    · exact h1 (List.mem_append.2 (.inl h))
    · exact hx h
    · exact h1 (List.mem_append.2 (.inr h))
  refine ⟨⟨?_, ?_, ?_, ?_, ?_, hS.base.fr⟩, hS.sz, by simp [hS.df], fun t φ h => φ.mono hle (hS.tm t φ h)⟩
  · intro o ho
    rcases List.mem_cons.1 ho with rfl | ho
    · exact hh
    · exact o.loc (fun _ _ => rfl) hle (hS.base.mem o ho)
  · show (b :: blks M).Nodup
    exact List.nodup_cons.2 ⟨hn, hS.base.nd⟩
  · intro x hx
    rcases List.mem_cons.1 (show x ∈ b :: blks M from hx) with rfl | h
    · exact hO
    · exact hS.base.dis x h
  · intro x hx
    rcases List.mem_cons.1 (show x ∈ b :: blks M from hx) with rfl | h
    · exact .inl hb
    · exact hS.base.lo x h
  · intro x hx
    rcases List.mem_append.1 hx with h | h
    · exact hS.base.ex x (List.mem_append.2 (.inl h))
    · rcases List.mem_cons.1 (show x ∈ b :: blks M from h) with rfl | h
      · exact hlt
      · exact hS.base.ex x (List.mem_append.2 (.inr h))
theorem J_range {α σ : Type} {g : Operand} {p q id : Nat} {T : TypeId} {pos : String} {body : Code} {gf : FuncId} {cs : List VT} {enc : α → Value} {S Sp : List α → Prop} {N : Nat} [hF : Fn P gf]
    (hit : OkY P gf cs enc S Sp N) (Ms : σ → Mem) [hc : ∀ s, CellM (Ms s)] (ok : List α → σ → Prop) (okx : Option Nat → List α → σ → Prop) (s0 : σ) (hE : E.R = none) (hg : evalT Γ g = some (cloT gf cs)) (h0 : ok [] s0) (hm : SubM M (Ms s0))
    (hp : Nat.ble (p + 1) E.N = true) (hq : Nat.ble (q + 1) E.N = true) (hnd : noDef body = true)
    (hround : ∀ (l : Nat) (W : World) (pre : List α) (x : α) (s : σ), ok pre s → pre.length < N →
      J P ⟨W, E.O, blks (Ms s), E.N, some l⟩ [] ((q, one (enc x)) :: (p, one (enc x)) :: Γ) (Ms s) body (rPost ⟨W, E.O, blks (Ms s), E.N, some l⟩ Ms ok okx (pre ++ [x])))
    (hdone : ∀ (xs : List α) (s : σ) (b : Nat), S xs → ok xs s → PJ E [coll b] Γ (dfO b :: Ms s) .normal Q)
    (hret : ∀ (pre : List α) (s : σ) (b : Nat), Sp pre → okx none pre s → PJ E [coll b] Γ (dfO b :: Ms s) .ret Q)
    (hexit : ∀ (id : Nat) (pre : List α) (s : σ) (b : Nat), Sp pre → okx (some id) pre s → PJ E [coll b] Γ (dfO b :: Ms s) (.exit id) Q) :
    J P E [] Γ M (.rangeFunc g #[p] (.region id #[⟨some q, .assign (.tmp p), T, pos, #[], none⟩] false) body) Q := by
  intro a w hS _
  rw [hE]
  show Code.wpIn Fence.wide 9 P _ Q a w
  obtain ⟨ca, hg0, hca⟩ := evalT_p hS hg
  have hp := Nat.le_of_ble_eq_true hp
  have hq := Nat.le_of_ble_eq_true hq
  have hS0 : St ⟨w, E.O, blks M, E.N, none⟩ [] Γ M a w := ⟨⟨hS.base.mem, hS.base.nd, hS.base.dis, fun b hb => .inr hb, hS.base.ex, Fr.refl _ _⟩, hS.sz, hS.df, hS.tm⟩
  have hdf : a.defers = [] := hS.df
  have own : ∀ (s : σ), OwnFrom (β := Unit) w.heap.size (fun _ W => St ⟨w, E.O, blks M, E.N, none⟩ [] Γ (Ms s) a W) := fun s _ W W' row hs hgr hr => St.grown (hc s) hs hgr (Nat.le_refl _) hr
  have fin : ∀ (s : σ) (b : Nat) (W : World), w.heap.size ≤ b → W.heap[b]? = some (.deferred (some [])) → St ⟨w, E.O, blks M, E.N, none⟩ [] Γ (Ms s) a W →
      St E [coll b] Γ (dfO b :: Ms s) { a with defers := coll b :: a.defers } W := fun s b W hb hh hs =>
    St.mark (hc s) (hs.from_ hS.base) (Nat.le_trans hS.base.fr.size hb) (fun h => by have := hS.base.ex b (List.mem_append.2 (.inl h)); omega) hh
  refine wpIn_rangeFunc_ownF (F := Fence.wide) (n := 9) rfl (by omega) hg0 trivial (fun args w => hF.run args w) (hit w _ ca hS.base.ex hca)
    (fun h k => ⟨k.os.trans h.os, k.tape.trans h.tape, k.output.trans h.output, Nat.le_trans h.size k.size, fun b hb hn => (k.block b hb hn).trans (h.block b hb hn)⟩)
    (fun W l o o' hl hW _ _ => ⟨rfl, rfl, rfl, by simp, fun b hb _ => World.putObj_heap_other (by omega)⟩) (Below.refl _ _) (fun _ => rfl)
    (fun pre W => ∃ s, ok pre s ∧ St ⟨w, E.O, blks M, E.N, none⟩ [] Γ (Ms s) a W)
    (fun c pre W => match c with
      | .ret => ∃ s, okx none pre s ∧ St ⟨w, E.O, blks M, E.N, none⟩ [] Γ (Ms s) a W
      | .exit id => ∃ s, okx (some id) pre s ∧ St ⟨w, E.O, blks M, E.N, none⟩ [] Γ (Ms s) a W
      | _ => False)
    ?_ ?_ ⟨s0, h0, hS0.sub (SubG.refl _) hm⟩ (fun x => ({ tmps := a.tmps.setIfInBounds p (enc x), defers := [] } : Act).put (some q) (enc x)) ?_ ?_ ?_ ?_
  · rintro pre W W' row ⟨s, hs, hSs⟩ hgr hr
    exact ⟨s, hs, own s () W W' row hSs hgr hr⟩
  · rintro c pre W W' row hs hgr hr
    cases c <;> first
      | exact hs.elim
      | (obtain ⟨s, hs, hSs⟩ := hs; exact ⟨s, hs, own s () W W' row hSs hgr hr⟩)
  · intro l x W K hK
    refine wpIn_region (F := fen (some l)) (wpOps_in (r := some l) (.inr (by simp [noDefO])) (fun ⟨_, _, h⟩ => h) _ _ _ ?_)
    have hv' : (a.tmps.setIfInBounds p (enc x)).getD p undef = enc x := by
      have := hS.sz
      simp [Array.getD_eq_getD_getElem?, show p < a.tmps.size by omega]
    have e : List.range 1 = [0] := rfl
    simp [wpOps, e, Oper.wp, Region.wanted, execOp, Act.eval, hv', Oper.upon, Exit.then]
    exact .inl hK
  · rintro l pre x W ⟨s, hs, hSs⟩ hlen
    have hsz := hSs.sz
    have hS1 : St ⟨W, E.O, blks (Ms s), E.N, some l⟩ [] Γ (Ms s) { tmps := a.tmps, defers := [] } W :=
      ⟨⟨hSs.base.mem, hSs.base.nd, hSs.base.dis, fun b hb => .inr hb, hSs.base.ex, Fr.refl _ _⟩, hSs.sz, rfl, hSs.tm⟩
    have hS2 := (hS1.put (Ext.refl W) (d := p) hp (ψ := one (enc x)) (v := enc x) rfl).put (Ext.refl W) (d := q) hq (ψ := one (enc x)) (v := enc x) rfl
    have hb := wpIn_any_n (m := 7) (hround l W pre x s hs hlen _ W hS2 (.inr hnd))
    refine wpIn_mono hb ?_
    have keep : ∀ (s' : σ) (a' : Act) (W' : World), St ⟨W, E.O, blks (Ms s), E.N, some l⟩ [] [] (Ms s') a' W' → KeepsOthers W W' ∧ KeepsH w.heap.size (E.O ++ blks M) W W' ∧ St ⟨w, E.O, blks M, E.N, none⟩ [] Γ (Ms s') a W' := by
      intro s' a' W' h'
      refine ⟨⟨h'.base.fr.size, fun k o hk ho => (h'.base.fr.block k (Array.getElem?_eq_some_iff.1 hk).1 fun hm' => ?_).trans hk⟩, ⟨h'.base.fr.os, h'.base.fr.tape, h'.base.fr.output, h'.base.fr.size, fun b hb hn => h'.base.fr.block b (Nat.lt_of_lt_of_le hb hSs.base.fr.size) fun hm' => ?_⟩, hSs.slots h'⟩
      · obtain ⟨c, T, f, e⟩ := (hc s).get hSs.base hm'
        rw [hk] at e; cases e; cases ho
      · rcases hSs.base.lo b hm' with h3 | h3
        · have h3 : w.heap.size ≤ b := h3
          omega
        · exact hn (List.mem_append.2 (.inr h3))
    rintro e a' W' hp'
    cases e with
    | normal => obtain ⟨s', h1, h2⟩ := hp'; obtain ⟨k1, k2, k3⟩ := keep s' a' W' h2; exact ⟨k1, k2, s', h1, k3⟩
    | ret => obtain ⟨s', h1, h2⟩ := hp'; obtain ⟨k1, k2, k3⟩ := keep s' a' W' h2; exact ⟨k1, s', h1, k3⟩
    | exit id => obtain ⟨s', h1, h2⟩ := hp'; obtain ⟨k1, k2, k3⟩ := keep s' a' W' h2; exact ⟨k1, s', h1, k3⟩
    | goto t => exact hp'.elim
    | panic ch => exact hp'.elim
    | outgrown => exact hp'.elim
  · rintro b xs W hb hxs ⟨s, hs, hSs⟩ hh
    exact hdone xs s b hxs hs _ W (fin s b W hb hh hSs)
  · rintro b c pre W hb hpre hx hh
    cases c <;> first
      | exact hx.elim
      | (obtain ⟨s, hs, hSs⟩ := hx; exact wpIn_ret (hret pre s b hpre hs _ W (fin s b W hb hh hSs)))
      | (obtain ⟨s, hs, hSs⟩ := hx; exact wpIn_exit (hexit _ pre s b hpre hs _ W (fin s b W hb hh hSs)))
/-! ### The end of a round -/
section
variable {α σ : Type} {Ms : σ → Mem} {ok : List α → σ → Prop} {okx : Option Nat → List α → σ → Prop} {pre : List α}
theorem pj_rnext (s : σ) (h : ok pre s) (hm : SubM M (Ms s)) : PJ E [] Γ M .normal (rPost E Ms ok okx pre) := fun a w hS => ⟨s, h, hS.sub .nil hm⟩
theorem pj_rret (s : σ) (h : okx none pre s) (hm : SubM M (Ms s)) : PJ E [] Γ M .ret (rPost E Ms ok okx pre) := fun a w hS => ⟨s, h, hS.sub .nil hm⟩
theorem pj_rexit {id : Nat} (s : σ) (h : okx (some id) pre s) (hm : SubM M (Ms s)) : PJ E [] Γ M (.exit id) (rPost E Ms ok okx pre) := fun a w hS => ⟨s, h, hS.sub .nil hm⟩
end
/-! ### The functions that range -/
theorem pj_mark {b : Nat} {fn : Func} {R : Ending → World → Prop} (h : PJ E [] Γ M .ret (bodyPost P fn R)) : PJ E [coll b] Γ (dfO b :: M) .ret (bodyPostM Fence.wide 9 P fn R) := by
  intro a w hS
  show LeavesInM Fence.wide 9 P fn a.tmps R a.defers .returning w
  rw [hS.df]
  have hh : w.heap[b]? = some (.deferred (some [])) := hS.base.mem (dfO b) (by simp)
  have hnd := List.nodup_cons.1 (show (b :: blks M).Nodup from hS.base.nd)
  have hbO : b ∉ E.O := hS.base.dis b (by simp [dfO])
  have hne : ∀ k, k ≠ b → (w.putObj b (.deferred none)).heap[k]? = w.heap[k]? := fun k hk => World.putObj_heap_other hk
  have hle : Hp.le (hv E (dfO b :: M) w) (hv E M (w.putObj b (.deferred none))) := by
    intro x y e
    obtain ⟨h1, h2⟩ := hid_some e
    have hx : x ≠ b := fun e => h1 (List.mem_append.2 (.inr (by simp [dfO, e])))
    refine hid_of (fun h => h1 ?_) (by rw [view_eq (hne x hx)]; exact h2)
    rcases List.mem_append.1 h with h | h
    · exact List.mem_append.2 (.inl h)
    · exact List.mem_append.2 (.inr (List.mem_cons_of_mem (a := x) b h))
  have hS' : St E [] Γ M { a with defers := [] } (w.putObj b (.deferred none)) := by
    refine ⟨⟨fun o ho => o.loc (fun x hx => ?_) hle (hS.base.mem o (List.mem_cons_of_mem _ ho)), hnd.2, fun x hx => hS.base.dis x (List.mem_cons_of_mem (a := x) b hx),
      fun x hx => hS.base.lo x (List.mem_cons_of_mem (a := x) b hx), fun x hx => ?_, ?_⟩, hS.sz, rfl, fun t φ ht => φ.mono hle (hS.tm t φ ht)⟩
    · exact (hne x fun e => hnd.1 (e ▸ blks_mem ho hx)).symm
    · rw [World.putObj_size]
      refine hS.base.ex x ?_
      rcases List.mem_append.1 hx with h | h
      · exact List.mem_append.2 (.inl h)
      · exact List.mem_append.2 (.inr (List.mem_cons_of_mem (a := x) b h))
    · have hf := hS.base.fr
      refine ⟨hf.os, hf.tape, hf.output, by simpa using hf.size, fun k hk hn => (hne k fun e => ?_).trans (hf.block k hk hn)⟩
      subst e
      rcases hS.base.lo k (by simp [dfO]) with h1 | h1
      · omega
      · exact hn h1
  obtain ⟨_, v, hr, hR⟩ := h _ _ hS'
  exact ⟨by simp, .inl ⟨b, _, rfl, run_takeDeferred hh, v, hr, hR⟩⟩
theorem pj_nomark {fn : Func} {R : Ending → World → Prop} (h : PJ E [] Γ M .ret (bodyPost P fn R)) : PJ E [] Γ M .ret (bodyPostM Fence.wide 9 P fn R) := by
  intro a w hS
  obtain ⟨_, v, hr, hR⟩ := h a w hS
  show LeavesInM Fence.wide 9 P fn a.tmps R a.defers .returning w
  rw [hS.df]
  exact ⟨v, hr, hR⟩
theorem enterR {f : FuncId} {fn : Func} {c : Code} {N : Nat} {w : World} {O : List Nat} {φs : List VT} {vs : List Value} {R : Ending → World → Prop}
    (hf : P.funcs[f]? = some fn) (hb : fn.body = some c) (hN : fn.ntmps = N) (hO : ∀ b ∈ O, b < w.heap.size) (hv' : tupP φs vs (hid O (view w))) (hle : φs.length ≤ N)
    (h : J P ⟨w, O, [], N, none⟩ [] (argCtx 0 φs) [] c (bodyPostM Fence.wide 9 P fn R)) : Calls P f vs.toArray w R := by
  have hl := tupP_len hv'
  refine callsIn_wide.1 (callsIn_of_wp_marks (F := Fence.wide) (n := 9) hf hb trivial (h _ w ⟨⟨by simp, by simp, by simp, by simp, ?_, Fr.refl _ _⟩, ?_, rfl, ?_⟩ (.inl rfl)))
  · intro b hb'; exact hO b (by simpa using hb')
  · simp [hN]; omega
  · intro t φ e
    obtain ⟨v, _, h2, h3⟩ := look_argCtx e hv'
    have h4 : hv ⟨w, O, [], N, none⟩ [] w = hid O (view w) := by simp [hv]
    rw [h4]
    rw [Nat.sub_zero] at h2
    have hlt := (List.getElem?_eq_some_iff.1 h2).1
    rw [Array.getD_eq_getD_getElem?, Array.getElem?_append_left (by simpa using hlt)]
    simpa [h2] using h3
theorem Ok.enterR {f : FuncId} {fn : Func} {c : Code} {N : Nat} {φs : List VT} {ψ : VT} (hf : P.funcs[f]? = some fn) (hb : fn.body = some c) (hN : fn.ntmps = N) (hle : Nat.ble φs.length N = true)
    (h : ∀ (w : World) (O : List Nat), J P ⟨w, O, [], N, none⟩ [] (argCtx 0 φs) [] c (bodyPostM Fence.wide 9 P fn (Ret O ψ w))) : Ok P f φs ψ :=
  fun w O vs hO hv => Tor.enterR hf hb hN hO hv (Nat.le_of_ble_eq_true hle) (h w O)
end
end Tor
end
section
set_option linter.unusedSectionVars false
namespace Tor
open Go Go.RowKit
def yO (W : World) : Own where
  bl := List.range W.heap.size
  p g _ := ∀ b, b < W.heap.size → g b = W.heap[b]?
  loc := fun he _ H b hb => (he b (List.mem_range.2 hb)).symm.trans (H b hb)
def envY (W : World) (N : Nat) : Env := ⟨W, [], List.range W.heap.size, N, none⟩
structure SameW (W0 W : World) : Prop where
  os : W.os = W0.os
  tape : W.tape = W0.tape
  output : W.output = W0.output
  size : W0.heap.size ≤ W.heap.size
theorem SameW.refl (W : World) : SameW W W := ⟨rfl, rfl, rfl, Nat.le_refl _⟩
def FlatC (Γ : Ctx) : Prop := ∀ t φ, look Γ t = some φ → ∃ v, φ = one v
theorem FlatC.nil : FlatC [] := fun t φ h => by cases h
theorem FlatC.cons {t : Nat} {v : Value} {Γ : Ctx} (h : FlatC Γ) : FlatC ((t, one v) :: Γ) := fun s φ e => by
  rw [look_cons] at e
  split at e
  · cases e; exact ⟨v, rfl⟩
  · exact h s φ e
section
variable {P : Program} {E : Env} {D : List Deferred} {Γ : Ctx} {M : Mem} {Q : Exit → Act → World → Prop} {a : Act} {w W w1 : World} {N : Nat}
theorem St.tY (hS : St E D Γ M a w) {Γk : Ctx} (hg : SubG Γ Γk) (hf : FlatC Γk) (W0 W' : World) (hs : SameW W0 W') : St (envY W0 E.N) D Γk [yO W'] a W' := by
  refine ⟨⟨fun o ho => ?_, by simpa [yO] using List.nodup_range, fun b _ => by simp [envY], fun b _ => ?_, fun b hb => ?_, ?_⟩, hS.sz, hS.df, fun t φ ht => ?_⟩
  · rw [List.mem_singleton.1 ho]; exact fun b _ => rfl
  · rcases Nat.lt_or_ge b W0.heap.size with h | h
    · exact .inr (List.mem_range.2 h)
    · exact .inl h
  · simpa [envY, yO] using hb
  · exact ⟨hs.os, hs.tape, hs.output, hs.size, fun k hk hn => absurd (List.mem_range.2 hk) hn⟩
  · obtain ⟨φ', h1, h2⟩ := hg t φ ht
    obtain ⟨v, rfl⟩ := hf t φ ht
    have := h2 _ _ (hS.tm t φ' h1)
    exact this
theorem St.extY (hS : St (envY w1 N) D Γ [yO W] a w) (hs : SameW w1 W) : Ext W w := by
  have hf := hS.base.fr
  have hm : ∀ b, b < W.heap.size → w.heap[b]? = W.heap[b]? := hS.base.mem (yO W) (by simp)
  refine ⟨hf.os.trans hs.os.symm, hf.tape.trans hs.tape.symm, hf.output.trans hs.output.symm, ?_, fun k hk => hm k hk⟩
  rcases Nat.eq_zero_or_pos W.heap.size with h | h
  · omega
  · have := hS.base.ex (W.heap.size - 1) (by simp [envY, yO]; omega)
    omega
theorem abide {β : Type} {B : Nat} {J : β → World → Prop} (hJ : AbidesFrom B J) {s : β} (h : J s W) (k : Ext W w) : J s w :=
  hJ s W w none h ⟨k.os, k.tape, k.output, k.size, fun i hi _ => k.block i hi⟩ (fun r e => by cases e)
variable {ops : Array Oper}
theorem Run.seqIn {r : Option Nat} {n : Nat} (hd : r = none ∨ ops.all noDefO = true) {i : Nat} {D : List Deferred} {Γ : Ctx} {M : Mem} {os : List Oper} {K : List Deferred → Ctx → Mem → Prop} {dr : Bool}
    (h : Run P E ops dr i D Γ M os K) : ∀ (Q : Exit → Act → World → Prop) (tl : List Nat), (∀ j, j < os.length → ops[i + j]? = os[j]?) → ¬LetsOut Q →
      (∀ D' Γ' M' a w, K D' Γ' M' → St E D' Γ' M' a w → wpOpsIn (fen r) n P ops Q tl a w) →
      ∀ a w, St E D Γ M a w → wpOpsIn (fen r) n P ops Q (List.range' i os.length ++ tl) a w := by
  induction h with
  | nil hK => intro Q tl _ _ hQ a w hS; exact hQ _ _ _ a w hK hS
  | @step dr i D Γ M o os K Γ' hs _ ih =>
    intro Q tl hops hL hQ a w hS
    have hi : ops[i]? = some o := by simpa using hops 0 (by simp)
    obtain ⟨d, ψ, _, hN, rfl, hrun⟩ := hs.run hi
    simp only [List.length_cons, List.range'_succ, List.cons_append, wpOpsIn_cons]
    refine wpOp_in hd hL (hrun a w hS.base (hS.names o) _ Q fun v w' k hv' => ?_)
    refine ih Q tl (fun j hj => ?_) hL hQ _ _ (hS.put k hN hv')
    have := hops (j + 1) (by simpa using hj)
    rw [show i + 1 + j = i + (j + 1) by omega]; simpa using this
  | @conv i D Γ M Γ' M' os K hc _ ih =>
    intro Q tl hops hL hQ a w hS
    exact ih Q tl hops hL hQ a w (hc a w hS)
  | @act i D Γ M o os K K' hs _ ih =>
    intro Q tl hops hL hQ a w hS
    simp only [List.length_cons, List.range'_succ, List.cons_append, wpOpsIn_cons]
    refine wpOp_in hd hL (hs a w hS _ Q fun D' Γ' M' a' w' hK hS' => ?_)
    refine ih D' Γ' M' hK Q tl (fun j hj => ?_) hL hQ _ _ hS'
    have := hops (j + 1) (by simpa using hj)
    rw [show i + 1 + j = i + (j + 1) by omega]; simpa using this
section
variable {α : Type} {l : Nat} {enc : α → Value} {J Jx : List α → World → Prop} {Nr : Nat} {S Sp : List α → Prop}
def YieldsY (P : Program) (l : Nat) (enc : α → Value) (J Jx : List α → World → Prop) (Nr : Nat) : Prop :=
  ∀ pre x W1, J pre W1 → pre.length < Nr → YieldAt Fence.wide 7 P l #[enc x] W1 fun e W' => (e = .returned (.bool true) ∧ J (pre ++ [x]) W' ∧ SameW W1 W') ∨ (e = .returned (.bool false) ∧ Jx (pre ++ [x]) W')
theorem J_yreg {id m d : Nat} {t x : Operand} {ats : Array TypeId} {ty : TypeId} {pos : String} {af : Array Edge} {pre : List α} {B : Nat} (v : α) (Γk : Ctx) (hY : YieldsY P l enc J Jx Nr) (hA : AbidesFrom B J) (hs : SameW w1 W) (hJ : J pre W) (hlen : pre.length < Nr)
    (hm : ops[m]? = some ⟨some d, .call ⟨.value t, #[x], ats⟩, ty, pos, af, none⟩) (hd : Nat.ble (d + 1) N = true) (hf : FlatC Γk)
    (h : Run P (envY w1 N) ops false 0 [] Γ [yO W] (ops.toList.take m) (fun D' Γ' M' => D' = [] ∧ M' = [yO W] ∧ evalT Γ' t = some (one (.func (.yield l) #[] #[])) ∧ evalT Γ' x = some (one (enc v)) ∧ SubG Γ' Γk))
    (h1 : ∀ W', J (pre ++ [v]) W' → SameW w1 W' → Run P (envY w1 N) ops false (m + 1) [] ((d, one (.bool true)) :: Γk) [yO W'] (ops.toList.drop (m + 1)) (fun D' Γ' M' => PJ (envY w1 N) D' Γ' M' .normal Q))
    (h2 : ∀ W', Jx (pre ++ [v]) W' → Run P (envY W' N) ops false (m + 1) [] ((d, one (.bool false)) :: Γk) [yO W'] (ops.toList.drop (m + 1)) (fun D' Γ' M' => PJ (envY W' N) D' Γ' M' .normal Q)) :
    Tor.J P (envY w1 N) [] Γ [yO W] (.region id ops false) Q := by
  intro a w hS _
  have hlt : m < ops.size := (Array.getElem?_eq_some_iff.1 hm).1
  have hd := Nat.le_of_ble_eq_true hd
  show Code.wpIn (fen none) 9 P _ Q a w
  refine wpIn_mono (wpIn_region ?_) nrm_le
  have e : List.range ops.size = List.range' 0 (ops.toList.take m).length ++ (m :: List.range' (m + 1) (ops.size - (m + 1))) := by
    rw [List.range_eq_range', show (ops.toList.take m).length = m by simp; omega, ← List.range'_succ, show ops.size - (m + 1) + 1 = ops.size - m by omega]
    have := @List.range'_append 0 m (ops.size - m) 1
    simp only [Nat.one_mul, Nat.zero_add] at this
    rw [this]; congr 1; omega
  rw [e]
  refine h.seqIn (.inl rfl) (nrm Q) _ (fun j hj => ?_) nrm_out (fun D' Γ' M' a w hK hS => ?_) a w hS
  · have hj' : j < m := by simp at hj; omega
    simp [List.getElem?_take, hj']
  · obtain ⟨rfl, rfl, ht, hx, hg⟩ := hK
    have e1 := evalT_p hS ht
    have e2 := evalT_p hS hx
    have e1 : a.eval t = .func (.yield l) #[] #[] := e1
    have e2 : a.eval x = enc v := e2
    obtain ⟨fn, tmps, assign, body, hy, hR⟩ := hY pre v w (abide hA hJ (hS.extY hs)) hlen
    have tail : ∀ (E' : Env) (b : Bool) (a' : Act) (W' : World), St E' [] ((d, one (.bool b)) :: Γk) [yO W'] a' W' →
        Run P E' ops false (m + 1) [] ((d, one (.bool b)) :: Γk) [yO W'] (ops.toList.drop (m + 1)) (fun D' Γ' M' => PJ E' D' Γ' M' .normal Q) →
        wpOpsIn (fen none) 9 P ops (nrm Q) (List.range' (m + 1) (ops.size - (m + 1))) a' W' := by
      intro E' b a' W' hS' hr
      have := hr.seqIn (n := 9) (.inl rfl) (nrm Q) [] (fun j _ => by simp [List.getElem?_drop]) nrm_out (fun D' Γ' M' a w hK hS => by simpa [wpOpsIn] using hK a w hS) a' W' hS'
      simpa using this
    rw [wpOpsIn_cons]
    unfold wpOpIn
    simp only [hm, wanted_none (o := ⟨some d, .call ⟨.value t, #[x], ats⟩, ty, pos, af, none⟩) rfl, if_true]
    refine ⟨fun f _ => fen_fn f, ?_⟩
    have hr : (Oper.semAt (fen none).round a.eval ⟨some d, .call ⟨.value t, #[x], ats⟩, ty, pos, af, none⟩).run P w = .ok (.round l fn tmps assign body) w := by
      rw [fen_round, Oper.semAt_none]
      simpa [execOp, resolve, Deferred.ofValue, invoke, e1, e2] using hy
    rw [hr]
    refine ⟨fun h => (by cases h), RoundIn.mono (n := 8) (F := Fence.wide) ⟨hR.1, fun c cs _ => hR.2 c cs (room_wide _)⟩ ?_⟩
    rintro e W' (⟨rfl, hJ', hk⟩ | ⟨rfl, hJx'⟩)
    · have hw : SameW w1 W' := ⟨hk.os.trans hS.base.fr.os, hk.tape.trans hS.base.fr.tape, hk.output.trans hS.base.fr.output, Nat.le_trans hS.base.fr.size hk.size⟩
      exact tail (envY w1 N) true _ W' ((hS.tY hg hf w1 W' hw).put (Ext.refl _) (d := d) (show d < N from hd) (ψ := one (.bool true)) rfl) (h1 W' hJ' hw)
    · exact tail (envY W' N) false _ W' ((hS.tY hg hf W' W' (SameW.refl _)).put (Ext.refl _) (d := d) (show d < N from hd) (ψ := one (.bool false)) rfl) (h2 W' hJx')
def RY (S Sp : List α → Prop) (J Jx : List α → World → Prop) (e : Ending) (W : World) : Prop := (∃ v, e = .returned v) ∧ ((∃ xs, S xs ∧ J xs W) ∨ (∃ pre, Sp pre ∧ Jx pre W))
theorem pj_ydone {fn : Func} {B : Nat} (hr : fn.results = #[]) (hA : AbidesFrom B J) {xs : List α} (hJ : J xs W) (hS : S xs) (hs : SameW w1 W) : PJ (envY w1 N) [] Γ [yO W] .normal (bodyPost P fn (RY S Sp J Jx)) := by
  intro a w hSt
  refine ⟨hSt.df, .tuple #[], by simp [results, hr], ⟨_, rfl⟩, .inl ⟨xs, hS, abide hA hJ (hSt.extY hs)⟩⟩
theorem pj_ystop {fn : Func} {B : Nat} (hr : fn.results = #[]) (hA : AbidesFrom B Jx) {pre : List α} (hJ : Jx pre W) (hS : Sp pre) (hs : SameW w1 W) : PJ (envY w1 N) [] Γ [yO W] .ret (bodyPost P fn (RY S Sp J Jx)) := by
  intro a w hSt
  refine ⟨hSt.df, .tuple #[], by simp [results, hr], ⟨_, rfl⟩, .inr ⟨pre, hS, abide hA hJ (hSt.extY hs)⟩⟩
theorem J_toY {c : Code} (Γk : Ctx) {w0 : World} (hg : SubG Γ Γk) (hf : FlatC Γk) (h : ∀ w, Ext w0 w → Tor.J P (envY w N) [] Γk [yO w] c Q) : Tor.J P ⟨w0, [], [], N, none⟩ [] Γ M c Q :=
  fun a w hS => h w hS.base.fr.toExt a w (hS.tY hg hf w w (SameW.refl _))
theorem OkY.enter {f : FuncId} {fn : Func} {c : Code} {N : Nat} {cs : List VT} (hf : P.funcs[f]? = some fn) (hb : fn.body = some c) (hN : fn.ntmps = N) (hle : Nat.ble (cs.length + 1) N = true)
    (h : ∀ (w0 : World) (l : Nat) (J Jx : List α → World → Prop) (B : Nat), AbidesFrom B J → AbidesFrom B Jx → YieldsY P l enc J Jx Nr → J [] w0 →
      Tor.J P ⟨w0, [], [], N, none⟩ [] ((0, one (.func (.yield l) #[] #[])) :: argCtx 1 cs) [] c (bodyPost P fn (RY S Sp J Jx))) : OkY P f cs enc S Sp Nr := by
  intro w O ca hO hca l J Jx W hW hA hAx hY h0
  have hv' : tupP (one (.func (.yield l) #[] #[]) :: cs) (.func (.yield l) #[] #[] :: ca) (hid [] (view W)) := by
    refine ⟨rfl, tupP_mono (fun b x e => ?_) hca⟩
    obtain ⟨h1, h2⟩ := hid_some e
    exact hid_of (by simp) (Ext.view hW _ _ h2)
  have hY' : YieldsY P l enc J Jx Nr := fun pre x W1 hj hl => by
    obtain ⟨fn, tmps, assign, body, hy, hR⟩ := hY pre x W1 hj hl
    exact ⟨fn, tmps, assign, body, hy, hR.mono fun e W' hq => hq.imp (fun ⟨h1, h2, h3⟩ => ⟨h1, h2, h3.os, h3.tape, h3.output, h3.size⟩) id⟩
  have hc := Tor.enter (R := RY S Sp J Jx) hf hb hN (O := []) (by simp) hv' (Nat.le_of_ble_eq_true hle) (h W l J Jx _ hA hAx hY' h0)
  have he : (#[Value.func (.yield l) #[] #[]] ++ ca.toArray) = (Value.func (.yield l) #[] #[] :: ca).toArray := by simp
  rw [he]
  exact callsIn_wide.2 hc
end
end
end Tor
end
section
set_option linter.unusedSectionVars false
namespace Tor
open Go Go.RowKit Go.ChangeShapes Go.WideShapes Go.ChangeAt Go.Joins
section
variable {H : Type} {P : Program} {enc : TypeId × Value → H} {W : World} {base : Nat} {held : Bool}
theorem leaf_limbs {t e : TypeId} {c : Value} (ht : P.underlying t = some (.slice e)) (he : P.underlying e = some (.int .u32)) (hc : P.cellsOf e = 1) (hby : 1 ≤ P.bytesOf e) (h : RL enc P W base held t c) :
    ∃ l : List Nat, (slT .one l.length (fun i => one (.int .u32 (l.getD i 0 : Nat)))).p c (view W) ∧ ∀ x ∈ l, x < 4294967296 := by
  obtain ⟨l, h1, h2⟩ := leaf_nums ht he hc hby h
  have hb : ∀ x ∈ l, 0 ≤ x ∧ x ≤ 4294967295 := fun x hx => by
    have := h2 x hx
    simpa [IntKind.min, IntKind.max, IntKind.signed, IntKind.bits] using this
  refine ⟨l.map Int.toNat, ?_, fun x hx => ?_⟩
  · refine slT_le' (by simp) (fun i hi => ?_) _ _ h1
    have hm : l.getD i 0 ∈ l := by rw [show l.getD i 0 = l[i] by simp [List.getD, hi]]; exact List.getElem_mem hi
    have := hb _ hm
    have e1 : ((l.map Int.toNat).getD i 0 : Nat) = (l.getD i 0).toNat := by simp [List.getD, hi]
    rw [e1, Int.toNat_of_nonneg this.1]
  · obtain ⟨y, hy, rfl⟩ := List.mem_map.1 hx
    have := hb y hy
    omega
end
end Tor
end
section
set_option maxRecDepth 100000
namespace Tor
open Go Go.Proofs
instance : LayOf Go.Proofs.Try.prog 2 (.one) := ⟨by kernel_rfl, by kernel_rfl⟩
instance : LayOf Go.Proofs.Try.prog 3 (.one) := ⟨by kernel_rfl, by kernel_rfl⟩
instance : LayOf Go.Proofs.Try.prog 4 (.one) := ⟨by kernel_rfl, by kernel_rfl⟩
instance : LayOf Go.Proofs.Try.prog 26 (.one) := ⟨by kernel_rfl, by kernel_rfl⟩
instance : LayOf Go.Proofs.Try.prog 28 (.agg 3) := ⟨by kernel_rfl, by kernel_rfl⟩
instance : LayOf Go.Proofs.Try.prog 30 (.one) := ⟨by kernel_rfl, by kernel_rfl⟩
instance : LayOf Go.Proofs.Try.prog 32 (.agg 2) := ⟨by kernel_rfl, by kernel_rfl⟩
instance : LayOf Go.Proofs.Try.prog 37 (.agg 3) := ⟨by kernel_rfl, by kernel_rfl⟩
instance : LayOf Go.Proofs.Try.prog 48 (.one) := ⟨by kernel_rfl, by kernel_rfl⟩
instance : LayOf Go.Proofs.Try.prog 58 (.one) := ⟨by kernel_rfl, by kernel_rfl⟩
instance : LayOf Go.Proofs.Try.prog 59 (.one) := ⟨by kernel_rfl, by kernel_rfl⟩
instance : LayOf Go.Proofs.Try.prog 60 (.one) := ⟨by kernel_rfl, by kernel_rfl⟩
instance : LayOf Go.Proofs.Try.prog 78 (.one) := ⟨by kernel_rfl, by kernel_rfl⟩
instance : IntOf Go.Proofs.Try.prog 2 .i64 := ⟨by kernel_rfl⟩
instance : IntOf Go.Proofs.Try.prog 3 .i64 := ⟨by kernel_rfl⟩
instance : BoolOf Go.Proofs.Try.prog 4 := ⟨by kernel_rfl⟩
instance : IntOf Go.Proofs.Try.prog 5 .u8 := ⟨by kernel_rfl⟩
instance : SliceOf Go.Proofs.Try.prog 26 48 := ⟨by kernel_rfl⟩
instance : FieldOf Go.Proofs.Try.prog 28 0 0 (.one) := FieldOf.by_info (ft := 3) inferInstance (by kernel_rfl) (by decide)
instance : FieldOf Go.Proofs.Try.prog 28 1 1 (.one) := FieldOf.by_info (ft := 3) inferInstance (by kernel_rfl) (by decide)
instance : FieldOf Go.Proofs.Try.prog 28 2 2 (.one) := FieldOf.by_info (ft := 26) inferInstance (by kernel_rfl) (by decide)
instance : SliceOf Go.Proofs.Try.prog 30 78 := ⟨by kernel_rfl⟩
instance : FieldOf Go.Proofs.Try.prog 32 0 0 (.one) := FieldOf.by_info (ft := 4) inferInstance (by kernel_rfl) (by decide)
instance : FieldOf Go.Proofs.Try.prog 32 1 1 (.one) := FieldOf.by_info (ft := 30) inferInstance (by kernel_rfl) (by decide)
instance : FieldOf Go.Proofs.Try.prog 37 0 0 (.one) := FieldOf.by_info (ft := 3) inferInstance (by kernel_rfl) (by decide)
instance : FieldOf Go.Proofs.Try.prog 37 1 1 (.one) := FieldOf.by_info (ft := 3) inferInstance (by kernel_rfl) (by decide)
instance : FieldOf Go.Proofs.Try.prog 37 2 2 (.one) := FieldOf.by_info (ft := 2) inferInstance (by kernel_rfl) (by decide)
instance : SliceOf Go.Proofs.Try.prog 48 32 := ⟨by kernel_rfl⟩
instance : SliceOf Go.Proofs.Try.prog 54 32 := ⟨by kernel_rfl⟩
instance : IntOf Go.Proofs.Try.prog 58 .u16 := ⟨by kernel_rfl⟩
instance : IntOf Go.Proofs.Try.prog 59 .u64 := ⟨by kernel_rfl⟩
instance : SliceOf Go.Proofs.Try.prog 60 59 := ⟨by kernel_rfl⟩
instance : FieldOf Go.Proofs.Try.prog 66 0 0 (.one) := FieldOf.by_info (ft := 30) inferInstance (by kernel_rfl) (by decide)
instance : SliceOf Go.Proofs.Try.prog 67 58 := ⟨by kernel_rfl⟩
instance : IntOf Go.Proofs.Try.prog 78 .u32 := ⟨by kernel_rfl⟩
instance : IntOf Go.Proofs.Try.prog 79 .u64 := ⟨by kernel_rfl⟩
instance : ArrayOf Go.Proofs.Try.prog 128 4 59 := ⟨by kernel_rfl⟩
instance : ZeroOf Go.Proofs.Try.prog 28 (.agg #[.int .i64 0, .int .i64 0, .slice none 0 0]) 40 := ⟨by kernel_rfl⟩
instance zf31 : Flat (one (.agg #[.bool false, .slice none 0 0])) (.agg 2) := flat_one (by decide) (by kernel_rfl)
instance : ZeroOf Go.Proofs.Try.prog 32 (.agg #[.bool false, .slice none 0 0]) 32 := ⟨by kernel_rfl⟩
instance : ZeroOf Go.Proofs.Try.prog 37 (.agg #[.int .i64 0, .int .i64 0, .int .i64 0]) 24 := ⟨by kernel_rfl⟩
instance : ZeroOf Go.Proofs.Try.prog 48 (.slice none 0 0) 24 := ⟨by kernel_rfl⟩
instance : ZeroOf Go.Proofs.Try.prog 59 (.int .u64 0) 8 := ⟨by kernel_rfl⟩
instance : ZeroOf Go.Proofs.Try.prog 60 (.slice none 0 0) 24 := ⟨by kernel_rfl⟩
instance : ZeroOf Go.Proofs.Try.prog 78 (.int .u32 0) 4 := ⟨by kernel_rfl⟩
instance : ZeroOf Go.Proofs.Try.prog 128 (.agg #[.int .u64 0, .int .u64 0, .int .u64 0, .int .u64 0]) 32 := ⟨by kernel_rfl⟩
instance : BuildOf Go.Proofs.Try.prog 28 3 #[.int .i64 0, .int .i64 0, .slice none 0 0] [(0, .one), (1, .one), (2, .one)] := BuildOf.by_struct (by' := 40) inferInstance rfl (by kernel_rfl) (by kernel_rfl)
instance : BuildOf Go.Proofs.Try.prog 32 2 #[.bool false, .slice none 0 0] [(0, .one), (1, .one)] := BuildOf.by_struct (by' := 32) inferInstance rfl (by kernel_rfl) (by kernel_rfl)
instance : BuildOf Go.Proofs.Try.prog 37 3 #[.int .i64 0, .int .i64 0, .int .i64 0] [(0, .one), (1, .one), (2, .one)] := BuildOf.by_struct (by' := 24) inferInstance rfl (by kernel_rfl) (by kernel_rfl)
instance : BuildOf Go.Proofs.Try.prog 128 4 #[.int .u64 0, .int .u64 0, .int .u64 0, .int .u64 0] [(0, .one), (1, .one), (2, .one), (3, .one)] := BuildOf.by_array (by' := 32) (n := 4) (e := 59) (L := .one) inferInstance inferInstance inferInstance rfl (by kernel_rfl) rfl (by decide)
instance : Fn Go.Proofs.Try.prog 8 := Fn.of Try.func8 (by decide +kernel) rfl
instance : Fn Go.Proofs.Try.prog 10 := Fn.of Try.func10 (by decide +kernel) rfl
instance : Fn Go.Proofs.Try.prog 12 := Fn.of Try.func12 (by decide +kernel) rfl
instance : Fn Go.Proofs.Try.prog 13 := Fn.of Try.func13 (by decide +kernel) rfl
instance : Fn Go.Proofs.Try.prog 14 := Fn.of Try.func14 (by decide +kernel) rfl
instance : Fn Go.Proofs.Try.prog 19 := Fn.of Try.func19 (by decide +kernel) rfl
instance : Fn Go.Proofs.Try.prog 20 := Fn.of Try.func20 (by decide +kernel) rfl
instance : Fn Go.Proofs.Try.prog 21 := Fn.of Try.func21 (by decide +kernel) rfl
instance : Fn Go.Proofs.Try.prog 25 := Fn.of Try.func25 (by decide +kernel) rfl
instance : Fn Go.Proofs.Try.prog 26 := Fn.of Try.func26 (by decide +kernel) rfl
instance : Fn Go.Proofs.Try.prog 27 := Fn.of Try.func27 (by decide +kernel) rfl
instance : Fn Go.Proofs.Try.prog 29 := Fn.of Try.func29 (by decide +kernel) rfl
instance : Fn Go.Proofs.Try.prog 30 := Fn.of Try.func30 (by decide +kernel) rfl
instance : Fn Go.Proofs.Try.prog 31 := Fn.of Try.func31 (by decide +kernel) rfl
instance : Fn Go.Proofs.Try.prog 32 := Fn.of Try.func32 (by decide +kernel) rfl
instance : Fn Go.Proofs.Try.prog 33 := Fn.of Try.func33 (by decide +kernel) rfl
instance : Fn Go.Proofs.Try.prog 34 := Fn.of Try.func34 (by decide +kernel) rfl
instance : Fn Go.Proofs.Try.prog 35 := Fn.of Try.func35 (by decide +kernel) rfl
instance : Fn Go.Proofs.Try.prog 36 := Fn.of Try.func36 (by decide +kernel) rfl
instance : Fn Go.Proofs.Try.prog 37 := Fn.of Try.func37 (by decide +kernel) rfl
instance : Fn Go.Proofs.Try.prog 38 := Fn.of Try.func38 (by decide +kernel) rfl
instance : Fn Go.Proofs.Try.prog 39 := Fn.of Try.func39 (by decide +kernel) rfl
instance : Fn Go.Proofs.Try.prog 41 := Fn.of Try.func41 (by decide +kernel) rfl
instance : Fn Go.Proofs.Try.prog 42 := Fn.of Try.func42 (by decide +kernel) rfl
instance : Fn Go.Proofs.Try.prog 43 := Fn.of Try.func43 (by decide +kernel) rfl
instance : Fn Go.Proofs.Try.prog 44 := Fn.of Try.func44 (by decide +kernel) rfl
instance : Fn Go.Proofs.Try.prog 46 := Fn.of Try.func46 (by decide +kernel) rfl
instance : Fn Go.Proofs.Try.prog 47 := Fn.of Try.func47 (by decide +kernel) rfl
instance : Fn Go.Proofs.Try.prog 49 := Fn.of Try.func49 (by decide +kernel) rfl
instance : Fn Go.Proofs.Try.prog 50 := Fn.of Try.func50 (by decide +kernel) rfl
instance : Fn Go.Proofs.Try.prog 51 := Fn.of Try.func51 (by decide +kernel) rfl
instance : Fn Go.Proofs.Try.prog 52 := Fn.of Try.func52 (by decide +kernel) rfl
instance : Fn Go.Proofs.Try.prog 53 := Fn.of Try.func53 (by decide +kernel) rfl
instance : Fn Go.Proofs.Try.prog 54 := Fn.of Try.func54 (by decide +kernel) rfl
instance : Fn Go.Proofs.Try.prog 55 := Fn.of Try.func55 (by decide +kernel) rfl
instance : Fn Go.Proofs.Try.prog 56 := Fn.of Try.func56 (by decide +kernel) rfl
instance : Fn Go.Proofs.Try.prog 57 := Fn.of Try.func57 (by decide +kernel) rfl
instance : Fn Go.Proofs.Try.prog 58 := Fn.of Try.func58 (by decide +kernel) rfl
instance : Fn Go.Proofs.Try.prog 59 := Fn.of Try.func59 (by decide +kernel) rfl
instance : Fn Go.Proofs.Try.prog 60 := Fn.of Try.func60 (by decide +kernel) rfl
instance : Fn Go.Proofs.Try.prog 62 := Fn.of Try.func62 (by decide +kernel) rfl
instance : Fn Go.Proofs.Try.prog 63 := Fn.of Try.func63 (by decide +kernel) rfl
instance : Fn Go.Proofs.Try.prog 64 := Fn.of Try.func64 (by decide +kernel) rfl
instance : Fn Go.Proofs.Try.prog 65 := Fn.of Try.func65 (by decide +kernel) rfl
instance : Fn Go.Proofs.Try.prog 66 := Fn.of Try.func66 (by decide +kernel) rfl
instance : Fn Go.Proofs.Try.prog 67 := Fn.of Try.func67 (by decide +kernel) rfl
instance : Fn Go.Proofs.Try.prog 68 := Fn.of Try.func68 (by decide +kernel) rfl
instance : Fn Go.Proofs.Try.prog 69 := Fn.of Try.func69 (by decide +kernel) rfl
instance : Fn Go.Proofs.Try.prog 70 := Fn.of Try.func70 (by decide +kernel) rfl
instance : Fn Go.Proofs.Try.prog 71 := Fn.of Try.func71 (by decide +kernel) rfl
instance : Fn Go.Proofs.Try.prog 72 := Fn.of Try.func72 (by decide +kernel) rfl
instance : Fn Go.Proofs.Try.prog 73 := Fn.of Try.func73 (by decide +kernel) rfl
instance : Fn Go.Proofs.Try.prog 74 := Fn.of Try.func74 (by decide +kernel) rfl
instance : Fn Go.Proofs.Try.prog 75 := Fn.of Try.func75 (by decide +kernel) rfl
instance : Fn Go.Proofs.Try.prog 76 := Fn.of Try.func76 (by decide +kernel) rfl
instance : Fn Go.Proofs.Try.prog 77 := Fn.of Try.func77 (by decide +kernel) rfl
instance : Fn Go.Proofs.Try.prog 78 := Fn.of Try.func78 (by decide +kernel) rfl
instance : Fn Go.Proofs.Try.prog 79 := Fn.of Try.func79 (by decide +kernel) rfl
instance : Fn Go.Proofs.Try.prog 80 := Fn.of Try.func80 (by decide +kernel) rfl
instance : Fn Go.Proofs.Try.prog 81 := Fn.of Try.func81 (by decide +kernel) rfl
instance : Fn Go.Proofs.Try.prog 82 := Fn.of Try.func82 (by decide +kernel) rfl
instance : Fn Go.Proofs.Try.prog 83 := Fn.of Try.func83 (by decide +kernel) rfl
instance : Fn Go.Proofs.Try.prog 84 := Fn.of Try.func84 (by decide +kernel) rfl
instance : Fn Go.Proofs.Try.prog 92 := Fn.of Try.func92 (by decide +kernel) rfl
instance : Fn Go.Proofs.Try.prog 93 := Fn.of Try.func93 (by decide +kernel) rfl
instance : Fn Go.Proofs.Try.prog 94 := Fn.of Try.func94 (by decide +kernel) rfl
instance : Fn Go.Proofs.Try.prog 95 := Fn.of Try.func95 (by decide +kernel) rfl
instance : Fn Go.Proofs.Try.prog 96 := Fn.of Try.func96 (by decide +kernel) rfl
instance : Fn Go.Proofs.Try.prog 97 := Fn.of Try.func97 (by decide +kernel) rfl
instance : Fn Go.Proofs.Try.prog 98 := Fn.of Try.func98 (by decide +kernel) rfl
instance : Fn Go.Proofs.Try.prog 99 := Fn.of Try.func99 (by decide +kernel) rfl
instance : Fn Go.Proofs.Try.prog 100 := Fn.of Try.func100 (by decide +kernel) rfl
instance : Fn Go.Proofs.Try.prog 101 := Fn.of Try.func101 (by decide +kernel) rfl
instance : Fn Go.Proofs.Try.prog 107 := Fn.of Try.func107 (by decide +kernel) rfl
instance : Fn Go.Proofs.Try.prog 108 := Fn.of Try.func108 (by decide +kernel) rfl
instance : Fn Go.Proofs.Try.prog 110 := Fn.of Try.func110 (by decide +kernel) rfl
theorem mixed : Go.Proofs.Try.prog.follows .mixedOrders = true := by kernel_rfl
end Tor
end
section
namespace Tor
def lv : List Nat → Nat
  | [] => 0
  | d :: l => d + 4294967296 * lv l
def Limbs (l : List Nat) : Prop := ∀ d ∈ l, d < 4294967296
def Trimmed : List Nat → Prop
  | [] => True
  | [d] => d ≠ 0
  | _ :: d :: l => Trimmed (d :: l)
def digsF : Nat → Nat → List Nat
  | 0, _ => []
  | f + 1, n => if n = 0 then [] else n % 4294967296 :: digsF f (n / 4294967296)
def digs (n : Nat) : List Nat := digsF n n
theorem digsF_eq : ∀ (f n : Nat), n ≤ f → ∀ g, n ≤ g → digsF f n = digsF g n
  | 0, n, h, g, hg => by
    have : n = 0 := by omega
    subst this; cases g <;> simp [digsF]
  | f + 1, n, h, 0, hg => by
    have : n = 0 := by omega
    subst this; simp [digsF]
  | f + 1, n, h, g + 1, hg => by
    simp only [digsF]
    split
    · rfl
    · rw [digsF_eq f (n / 4294967296) (by omega) g (by omega)]
theorem digs_zero : digs 0 = [] := rfl
theorem digs_pos {n : Nat} (h : n ≠ 0) : digs n = n % 4294967296 :: digs (n / 4294967296) := by
  unfold digs
  obtain ⟨m, rfl⟩ : ∃ m, n = m + 1 := ⟨n - 1, by omega⟩
  rw [digsF, if_neg h, digsF_eq m _ (by omega) ((m + 1) / 4294967296) (Nat.le_refl _)]
theorem lv_digs (n : Nat) : lv (digs n) = n := by
  induction n using Nat.strongRecOn with
  | _ n ih =>
    by_cases h : n = 0
    · subst h; rfl
    · rw [digs_pos h, lv, ih _ (by omega)]; omega
theorem limbs_digs (n : Nat) : Limbs (digs n) := by
  induction n using Nat.strongRecOn with
  | _ n ih =>
    by_cases h : n = 0
    · subst h; intro d hd; cases hd
    · rw [digs_pos h]; intro d hd
      rcases List.mem_cons.1 hd with rfl | hd
      · omega
      · exact ih _ (by omega) d hd
theorem Limbs.tail {d : Nat} {l : List Nat} (h : Limbs (d :: l)) : Limbs l := fun x hx => h x (List.mem_cons_of_mem _ hx)
theorem Limbs.head {d : Nat} {l : List Nat} (h : Limbs (d :: l)) : d < 4294967296 := h d List.mem_cons_self
theorem lv_pos : ∀ {l : List Nat}, l ≠ [] → Trimmed l → 0 < lv l
  | [], h, _ => absurd rfl h
  | [d], _, h => by have h : d ≠ 0 := h; simp only [lv]; omega
  | d :: e :: l, _, h => by have := lv_pos (l := e :: l) (by simp) h; simp only [lv] at *; omega
theorem Trimmed.tail {d : Nat} : ∀ {l : List Nat}, Trimmed (d :: l) → Trimmed l
  | [], _ => trivial
  | _ :: _, h => h
theorem digs_lv : ∀ {l : List Nat}, Limbs l → Trimmed l → digs (lv l) = l
  | [], _, _ => rfl
  | d :: l, hl, ht => by
    have h0 : lv (d :: l) ≠ 0 := by have := lv_pos (l := d :: l) (by simp) ht; omega
    have hd := hl.head
    rw [digs_pos h0]
    simp only [lv]
    rw [show (d + 4294967296 * lv l) % 4294967296 = d by omega, show (d + 4294967296 * lv l) / 4294967296 = lv l by omega, digs_lv hl.tail ht.tail]
theorem trimmed_digs (n : Nat) : Trimmed (digs n) := by
  induction n using Nat.strongRecOn with
  | _ n ih =>
    by_cases h : n = 0
    · subst h; trivial
    · rw [digs_pos h]
      have := ih (n / 4294967296) (by omega)
      by_cases h2 : n / 4294967296 = 0
      · rw [h2, digs_zero]; show n % 4294967296 ≠ 0; omega
      · rw [digs_pos h2] at this ⊢; exact this
theorem lv_append (l m : List Nat) : lv (l ++ m) = lv l + 4294967296 ^ l.length * lv m := by
  induction l with
  | nil => simp [lv]
  | cons d l ih =>
    simp only [List.cons_append, lv, ih, List.length_cons, Nat.pow_succ, Nat.mul_add]
    have : 4294967296 * (4294967296 ^ l.length * lv m) = 4294967296 ^ l.length * 4294967296 * lv m := by
      rw [← Nat.mul_assoc, Nat.mul_comm 4294967296]
    omega
theorem lv_lt : ∀ {l : List Nat}, Limbs l → lv l < 4294967296 ^ l.length
  | [], _ => by simp [lv]
  | d :: l, h => by
    have := lv_lt h.tail
    have hd := h.head
    simp only [lv, List.length_cons, Nat.pow_succ]
    have h2 : lv l + 1 ≤ 4294967296 ^ l.length := this
    have := Nat.mul_le_mul_right 4294967296 h2
    omega
theorem take_succ_getD {l : List Nat} {k : Nat} (h : k < l.length) : l.take (k + 1) = l.take k ++ [l.getD k 0] := by
  rw [List.take_add_one]; simp [List.getD, h]
theorem lv_take_succ {l : List Nat} {k : Nat} (h : k < l.length) : lv (l.take (k + 1)) = lv (l.take k) + 4294967296 ^ k * l.getD k 0 := by
  rw [take_succ_getD h, lv_append, List.length_take_of_le (by omega)]; simp [lv]
theorem getD_lt {l : List Nat} (h : Limbs l) (k : Nat) : l.getD k 0 < 4294967296 := by
  by_cases hk : k < l.length
  · have : l.getD k 0 = l[k] := by simp [List.getD, hk]
    rw [this]; exact h _ (List.getElem_mem hk)
  · have : l.getD k 0 = 0 := by simp [List.getD, List.getElem?_eq_none (Nat.le_of_not_lt hk)]
    omega
theorem getD_snoc (l : List Nat) (x q : Nat) : (l ++ [x]).getD q 0 = if q = l.length then x else l.getD q 0 := by
  simp only [List.getD, List.getElem?_append]
  by_cases h : q < l.length
  · rw [if_pos h, if_neg (by omega)]
  · rw [if_neg h]
    by_cases h2 : q = l.length
    · subst h2; simp
    · rw [if_neg h2, List.getElem?_eq_none (by simp; omega), List.getElem?_eq_none (by omega)]
theorem Limbs.take {l : List Nat} (h : Limbs l) (k : Nat) : Limbs (l.take k) := fun d hd => h d (List.mem_of_mem_take hd)
def trimN (l : List Nat) : Nat → Nat
  | 0 => 0
  | n + 1 => if l.getD n 0 = 0 then trimN l n else n + 1
theorem trimmed_take {l : List Nat} : ∀ {n : Nat}, n < l.length → l.getD n 0 ≠ 0 → Trimmed (l.take (n + 1)) := by
  induction l with
  | nil => intro n h; simp at h
  | cons d l ih =>
    intro n h h0
    cases n with
    | zero => simp at h0 ⊢; exact h0
    | succ n =>
      have := ih (n := n) (by simpa using h) (by simpa using h0)
      rw [List.take_succ_cons]
      cases hl : l.take (n + 1) with
      | nil => rw [List.take_eq_nil_iff] at hl; rcases hl with hl | hl
               · omega
               · subst hl; simp at h
      | cons e r => rw [hl] at this; exact this
theorem take_trim {l : List Nat} (hl : Limbs l) : ∀ {n : Nat}, n ≤ l.length → lv l = lv (l.take n) → l.take (trimN l n) = digs (lv l)
  | 0, _, h => by rw [trimN, h]; simp [lv, digs_zero]
  | n + 1, hn, h => by
    rw [trimN]
    split
    · rename_i h0
      refine take_trim hl (by omega) ?_
      rw [h, lv_take_succ (by omega), h0]; simp
    · rename_i h0
      rw [h]
      exact (digs_lv (hl.take _) (trimmed_take (by omega) h0)).symm
theorem take_trimN {l : List Nat} (hl : Limbs l) : l.take (trimN l l.length) = digs (lv l) := take_trim hl (Nat.le_refl _) (by rw [List.take_length])
theorem digs_len_le : ∀ {k n : Nat}, n < 4294967296 ^ k → (digs n).length ≤ k
  | 0, n, h => by have : n = 0 := by simpa using h
                  subst this; simp [digs_zero]
  | k + 1, n, h => by
    by_cases h0 : n = 0
    · subst h0; simp [digs_zero]
    · rw [digs_pos h0, List.length_cons]
      have : n / 4294967296 < 4294967296 ^ k := by
        rw [Nat.pow_succ] at h
        exact Nat.div_lt_of_lt_mul (by rw [Nat.mul_comm]; exact h)
      have := digs_len_le this
      omega
theorem lt_of_digs_len (n : Nat) : n < 4294967296 ^ (digs n).length := by
  have := lv_lt (limbs_digs n); rwa [lv_digs] at this
theorem digs_inj {a b : Nat} (h : digs a = digs b) : a = b := by rw [← lv_digs a, ← lv_digs b, h]
theorem lv_split (l : List Nat) (k : Nat) (hk : k ≤ l.length) : lv l = lv (l.take k) + 4294967296 ^ k * lv (l.drop k) := by
  have h := lv_append (l.take k) (l.drop k)
  rwa [List.take_append_drop, List.length_take_of_le hk] at h
theorem drop_getD {l : List Nat} {k : Nat} (h : k < l.length) : l.drop k = l.getD k 0 :: l.drop (k + 1) := by
  rw [List.drop_eq_getElem_cons h]; simp [List.getD, h]
theorem lv_cmp {l m : List Nat} (hl : Limbs l) (hm : Limbs m) (hn : l.length = m.length) {i : Nat} (hi : i < l.length) (hd : l.drop (i + 1) = m.drop (i + 1)) (hlt : l.getD i 0 < m.getD i 0) : lv l < lv m := by
  have e1 := drop_getD hi
  have e2 := drop_getD (hn ▸ hi : i < m.length)
  rw [lv_split l i (by omega), lv_split m i (by omega), e1, e2, hd]
  simp only [lv]
  have h1 := lv_lt (hl.take i)
  rw [List.length_take_of_le (by omega)] at h1
  generalize 4294967296 ^ i = B at *
  generalize lv (m.drop (i + 1)) = t
  have h2 : B * (l.getD i 0 + 4294967296 * t) + B ≤ B * (m.getD i 0 + 4294967296 * t) := by
    rw [← Nat.mul_succ]; exact Nat.mul_le_mul_left B (by omega)
  omega
theorem digs_len_mono {a b : Nat} (h : (digs a).length < (digs b).length) : a < b := by
  rcases Nat.lt_or_ge a b with h' | h'
  · exact h'
  · have h1 : b < 4294967296 ^ (digs a).length := Nat.lt_of_le_of_lt h' (lt_of_digs_len a)
    have := digs_len_le h1; omega
theorem digs_len_le' {a b : Nat} (h : a ≤ b) : (digs a).length ≤ (digs b).length := digs_len_le (Nat.lt_of_le_of_lt h (lt_of_digs_len b))
def cmpI (a b : Int) : Int := if a < b then -1 else if b < a then 1 else 0
def cmpN (a b : Nat) : Int := if a < b then -1 else if b < a then 1 else 0
theorem getD_setL {l : List Nat} {k v q : Nat} (h : k < l.length) : (l.set k v).getD q 0 = if q = k then v else l.getD q 0 := by
  simp only [List.getD, List.getElem?_set]
  by_cases e : k = q
  · subst e; simp [h]
  · rw [if_neg e, if_neg (fun h => e h.symm)]
theorem lv_set {l : List Nat} : ∀ {k v : Nat}, k < l.length → lv (l.set k v) + 4294967296 ^ k * l.getD k 0 = lv l + 4294967296 ^ k * v := by
  induction l with
  | nil => intro k v h; simp at h
  | cons d l ih =>
    intro k v h
    cases k with
    | zero => simp [lv]; omega
    | succ k =>
      have := ih (k := k) (v := v) (by simpa using h)
      simp only [List.set_cons_succ, lv, List.getD_cons_succ, Nat.pow_succ]
      have e1 : 4294967296 ^ k * 4294967296 * l.getD k 0 = 4294967296 * (4294967296 ^ k * l.getD k 0) := by rw [Nat.mul_comm (4294967296 ^ k), Nat.mul_assoc]
      have e2 : 4294967296 ^ k * 4294967296 * v = 4294967296 * (4294967296 ^ k * v) := by rw [Nat.mul_comm (4294967296 ^ k), Nat.mul_assoc]
      rw [e1, e2]; omega
theorem Limbs.set {l : List Nat} (h : Limbs l) {k v : Nat} (hv : v < 4294967296) : Limbs (l.set k v) := fun d hd => by
  rcases List.mem_or_eq_of_mem_set hd with h' | h'
  · exact h d h'
  · omega
theorem mul_lim {a b c d : Nat} (ha : a < 4294967296) (hb : b < 4294967296) (hc : c < 4294967296) (hd : d < 4294967296) : d + (a * b + c) < 18446744073709551616 ∧ a * b < 18446744073709551616 ∧ a * b + c < 18446744073709551616 := by
  have : a * b ≤ 4294967295 * 4294967295 := Nat.mul_le_mul (by omega) (by omega)
  omega
end Tor
end
section
namespace Tor
open Go Go.RowKit Go.Proofs
abbrev limT (l : List Nat) : VT := slT .one l.length (fun i => one (.int .u32 (l.getD i 0)))
def natT (v : Nat) : VT := exT fun l : List Nat => andT (Limbs l ∧ lv l = v) (limT l)
def natS (v : Nat) : VT := exT fun l : List Nat => andT (Limbs l ∧ lv l = v ∧ l.length ≤ 4398046511104) (limT l)
def bigT (x : Int) : VT := aggT 2 [(0, .one, one (.bool (decide (x < 0)))), (1, .one, limT (digs x.natAbs))]
instance {x : Int} : Flat (bigT x) (.agg 2) := by unfold bigT; infer_instance
theorem natS_of {l : List Nat} {v : Nat} (h : Limbs l) (hv : lv l = v) (hl : l.length ≤ 4398046511104) : VT.le (limT l) (natS v) := le_exT l (le_andT ⟨h, hv, hl⟩ (VT.le_refl _))
theorem natT_of {l : List Nat} {v : Nat} (h : Limbs l) (hv : lv l = v) : VT.le (limT l) (natT v) := le_exT l (le_andT ⟨h, hv⟩ (VT.le_refl _))
theorem natT_digs (n : Nat) : VT.le (limT (digs n)) (natT n) := natT_of (limbs_digs n) (lv_digs n)
theorem limT_eq {l l' : List Nat} (h : l = l') : VT.le (limT l) (limT l') := h ▸ VT.le_refl _
theorem bigT_of {neg : Bool} {v : Nat} (h : v ≠ 0) : VT.le (aggT 2 [(0, .one, one (.bool neg)), (1, .one, limT (digs v))]) (bigT (if neg then -(v : Int) else v)) := by
  refine aggT_le (fun q hq => ?_)
  simp only [List.mem_cons, List.not_mem_nil, or_false] at hq
  rcases hq with rfl | rfl
  · have e : decide ((if neg then -(v : Int) else v) < 0) = neg := by cases neg <;> simp <;> omega
    exact ⟨_, List.mem_cons_self, le_eq (by rw [e])⟩
  · refine ⟨_, List.mem_cons_of_mem _ List.mem_cons_self, limT_eq ?_⟩
    cases neg <;> simp
theorem bigT_zero : VT.le (aggT 2 [(0, .one, one (.bool false)), (1, .one, one (.slice none 0 0))]) (bigT 0) := by
  refine aggT_le (fun q hq => ?_)
  simp only [List.mem_cons, List.not_mem_nil, or_false] at hq
  rcases hq with rfl | rfl
  · exact ⟨_, List.mem_cons_self, le_eq (by simp)⟩
  · exact ⟨_, List.mem_cons_of_mem _ List.mem_cons_self, nil_slT⟩
theorem bigT_eq {x y : Int} (h : x = y) : VT.le (bigT x) (bigT y) := h ▸ VT.le_refl _
attribute [local irreducible] Tor.J Tor.PJ Tor.StepO Tor.one Tor.slT Tor.ptrT Tor.aggT Tor.tupT Tor.exT Tor.andT Tor.eP Tor.boxO Tor.sliO Tor.slV Tor.VT.le Tor.Ret Tor.anyT
theorem trim_ok (v : Nat) : Ok Try.prog 62 [natT v] (limT (digs v)) := by
  refine Ok.enter Try.func62 rfl Try.ntmps62 rfl (fun w O => ?_)
  refine J_ex (t := 0) rfl (fun l => J_and (t := 0) rfl (fun ⟨hL, hv⟩ => J_fact (t := 0) rfl (fun _ _ => slT_bound) (fun hb => ?_)))
  subst hv
  refine J_seq (J_reg (st (s_assign rfl) rfl (Run.nil (pj_then (J_scope (J_seq (J_reg (st (s_move rfl) rfl (st (s_len rfl) rfl ?_)))))))))
  refine st (s_assign rfl) rfl (Run.nil (pj_then (J_seq (J_label (pj_then (J_seq (J_block ?_)))))))
  refine J_loop (σ := Nat) (fun n => [(0, limT l), (3, one (.int .i64 n))]) (fun _ => []) (fun n => n ≤ l.length ∧ trimN l n = trimN l l.length) (fun n => n) l.length ⟨Nat.le_refl _, rfl⟩ (by repeat (first | exact SubG.nil | refine SubG.cons rfl (VT.le_refl _) ?_ | (refine SubG.cons rfl (one_le ?_) ?_; (congr 1; first | omega | (simp; omega) | simp)))) (SubM.refl _) (fun n ⟨hn, ht⟩ => ?_)
  have hd := take_trimN hL
  refine J_seq (J_seq (J_reg (st (s_move rfl) rfl (st (s_gt rfl rfl) rfl (Run.nil (pj_then ?_))))))
  refine J_cond rfl (fun hc => ?_) (fun hc => ?_) <;> simp at hc
  · obtain ⟨n, rfl⟩ : ∃ m, n = m + 1 := ⟨n - 1, by omega⟩
    refine J_skip (pj_then (J_block (J_seq (J_reg (st (s_move rfl) rfl (st (s_move rfl) rfl ?_))))))
    (refine st (s_sub rfl rfl (wrap_i64 ?_ ?_)) rfl ?_; omega; omega)
    (refine st (s_indexI rfl rfl ?_ ?_) rfl ?_; omega; omega)
    refine st (s_load rfl) rfl (Run.nil (pj_then (J_block (J_seq (J_reg (st (s_eq rfl rfl) rfl (st (s_assign rfl) rfl (Run.nil (pj_then ?_)))))))))
    refine J_cond rfl (fun hc => ?_) (fun hc => ?_) <;> simp at hc
    · refine J_reg (st (s_move rfl) rfl ?_)
      (refine st (s_sub rfl rfl (wrap_i64 ?_ ?_)) rfl ?_; omega; omega)
      refine st (s_assign rfl) rfl (Run.nil (pn_block (pn_block ?_)))
      have h0 : l.getD n 0 = 0 := by simpa using hc
      refine pj_round n ⟨by omega, by rw [← ht, trimN, if_pos h0]⟩ (by omega) (by repeat (first | exact SubG.nil | refine SubG.cons rfl (VT.le_refl _) ?_ | (refine SubG.cons rfl (one_le ?_) ?_; (congr 1; first | omega | (simp; omega) | simp)))) (SubM.refl _)
    · refine J_exit (px_block_ne rfl (px_block_ne rfl (px_then (px_block (pj_then (J_seq (J_reg (st (s_move rfl) rfl (st (s_move rfl) rfl ?_)))))))))
      refine st (s_move rfl) rfl ?_
      (refine st (s_slice rfl rfl rfl rfl (fun _ => rfl) ?_ ?_ ?_ ?_) rfl ?_; omega; omega; omega; omega)
      refine st (s_assign rfl) rfl (Run.nil (pj_then (J_ret (pr_scope ?_))))
      have h0 : ¬ l.getD n 0 = 0 := by simpa using hc
      rw [← ht, trimN, if_neg h0] at hd
      refine retc1 Try.results62 (.tmp rfl (VT.le_trans (slT_le' ?_ ?_) (limT_eq hd)))
      · simp; omega
      · intro i hi; simp at hi ⊢; rw [List.getElem?_take_of_lt (by omega)]
  · subst hc
    refine J_exit (px_then (px_then (px_block (pj_then (J_seq (J_reg (st (s_move rfl) rfl (st (s_move rfl) rfl (st (s_move rfl) rfl ?_)))))))))
    (refine st (s_slice rfl rfl rfl rfl (fun _ => rfl) ?_ ?_ ?_ ?_) rfl ?_; omega; omega; omega; omega)
    refine st (s_assign rfl) rfl (Run.nil (pj_then (J_ret (pr_scope ?_))))
    rw [← ht, trimN] at hd
    refine retc1 Try.results62 (.tmp rfl (VT.le_trans (slT_le' ?_ ?_) (limT_eq hd)))
    · simp
    · intro i hi; simp at hi
end Tor
end
section
namespace Tor
open Go Go.RowKit Go.Proofs
attribute [local irreducible] Tor.J Tor.PJ Tor.StepO Tor.one Tor.slT Tor.ptrT Tor.aggT Tor.tupT Tor.exT Tor.andT Tor.eP Tor.boxO Tor.sliO Tor.slV Tor.VT.le Tor.Ret Tor.anyT
theorem value_ok (neg : Bool) (v : Nat) : Ok Try.prog 64 [one (.bool neg), natT v] (bigT (if neg then -(v : Int) else v)) := by
  refine Ok.enter Try.func64 rfl Try.ntmps64 rfl (fun w O => ?_)
  refine J_seq (J_reg ?_)
  refine a_alloc (T := 32) rfl (ltN rfl) (fun b => ?_)
  refine Run.nil (pj_then (J_seq (J_reg (st (s_move rfl) rfl ?_))))
  refine st (s_callk (trim_ok _) rfl ⟨VT.le_refl _, trivial⟩) rfl ?_
  refine st (s_assign rfl) rfl (Run.nil (pj_then (J_seq (J_seq (J_reg (st (s_move rfl) rfl (st (s_len rfl) rfl (st (s_eq rfl rfl) rfl (Run.nil ?_)))))))))
  refine pj_then ?_
  refine J_cond rfl (fun hc => ?_) (fun hc => ?_) <;> simp at hc
  · have hv : v = 0 := by rw [← lv_digs v, hc]; rfl
    subst hv
    refine J_seq (J_reg (stB rfl rfl rfl (BuildK.nil (a_storeB 0 rfl rfl rfl rfl rfl (leN rfl) rfl (Run.nil (pj_then (J_ret (pr_then ?_))))))))
    exact retc1 Try.results64 (.cellB 0 rfl rfl rfl (VT.le_trans bigT_zero (bigT_eq (by simp))))
  · have hv : v ≠ 0 := by intro e; subst e; exact hc rfl
    refine J_skip (pj_then (J_seq (J_reg (st (s_move rfl) rfl (st (s_move rfl) rfl (stB rfl rfl rfl (BuildK.cons rfl rfl rfl (BuildK.cons rfl rfl rfl (BuildK.nil ?_)))))))))
    refine a_storeB 0 rfl rfl rfl rfl rfl (leN rfl) rfl (Run.nil (pj_then (J_ret ?_)))
    exact retc1 Try.results64 (.cellB 0 rfl rfl rfl (bigT_of hv))
structure PlusR (lx ly : List Nat) (zl : List Nat) (c : Nat) : Prop where
  len : zl.length ≤ lx.length
  lim : Limbs zl
  c1 : c ≤ 1
  val : lv zl + 4294967296 ^ zl.length * c = lv (lx.take zl.length) + lv (ly.take zl.length)
theorem PlusR.step {lx ly zl : List Nat} {c : Nat} (h : PlusR lx ly zl c) (hx : Limbs lx) (hy : Limbs ly) (hl : ly.length ≤ lx.length) (hlt : zl.length < lx.length) :
    PlusR lx ly (zl ++ [(c + lx.getD zl.length 0 + ly.getD zl.length 0) % 4294967296]) ((c + lx.getD zl.length 0 + ly.getD zl.length 0) / 4294967296) := by
  have h1 := getD_lt hx zl.length
  have h2 := getD_lt hy zl.length
  have h3 := h.c1
  refine ⟨by simp; omega, fun d hd => ?_, by omega, ?_⟩
  · rcases List.mem_append.1 hd with hd | hd
    · exact h.lim d hd
    · simp at hd; omega
  · have hy2 : lv (ly.take (zl.length + 1)) = lv (ly.take zl.length) + 4294967296 ^ zl.length * ly.getD zl.length 0 := by
      by_cases hk : zl.length < ly.length
      · exact lv_take_succ hk
      · rw [List.take_of_length_le (by omega), List.take_of_length_le (by omega)]; simp [List.getElem?_eq_none (Nat.le_of_not_lt hk)]
    simp only [List.length_append, List.length_cons, List.length_nil, Nat.zero_add]
    rw [lv_append, lv_take_succ hlt, hy2, Nat.pow_succ]
    have hv := h.val
    generalize lx.getD zl.length 0 = x at *
    generalize ly.getD zl.length 0 = y at *
    generalize 4294967296 ^ zl.length = B at *
    have e : (c + x + y) = 4294967296 * ((c + x + y) / 4294967296) + (c + x + y) % 4294967296 := by omega
    generalize (c + x + y) / 4294967296 = q at *
    generalize (c + x + y) % 4294967296 = r at *
    simp only [lv, Nat.mul_zero, Nat.add_zero]
    have e2 : B * (c + x + y) = B * (4294967296 * q + r) := by rw [e]
    simp only [Nat.mul_add, Nat.mul_assoc] at e2 ⊢
    omega
theorem plus_ok (a b : Nat) (ha : (digs a).length ≤ 1099511627776) (hb : (digs b).length ≤ 1099511627776) : Ok Try.prog 70 [limT (digs a), limT (digs b)] (natT (a + b)) := by
  refine Ok.enter Try.func70 rfl Try.ntmps70 rfl (fun w O => ?_)
  refine J_seq (J_reg (st (s_assign rfl) rfl (Run.nil (pj_then (J_seq (J_seq (J_reg (st (s_move rfl) rfl (st (s_len rfl) rfl ?_)))))))))
  refine st (s_move rfl) rfl (st (s_len rfl) rfl (st (s_lt rfl rfl) rfl (Run.nil (pj_then ?_))))
  refine J_join (σ := List Nat × List Nat) (fun s => [(0, limT s.1), (1, limT s.2)]) (fun _ => []) (fun s => Limbs s.1 ∧ Limbs s.2 ∧ s.2.length ≤ s.1.length ∧ s.1.length ≤ 1099511627776 ∧ lv s.1 + lv s.2 = a + b) ?_ (fun s ⟨hx, hy, hl, hs, hv⟩ => ?_)
  · refine J_cond rfl (fun hc => ?_) (fun hc => ?_) <;> simp at hc
    · refine J_reg (st (s_move rfl) rfl (st (s_move rfl) rfl (st (s_assign rfl) rfl (st (s_assign rfl) rfl (Run.nil ?_)))))
      exact pj_cut (digs b, digs a) ⟨limbs_digs _, limbs_digs _, Nat.le_of_lt hc, hb, by simp only [lv_digs]; omega⟩ (by repeat (first | exact SubG.nil | refine SubG.cons rfl (VT.le_refl _) ?_ | (refine SubG.cons rfl (one_le ?_) ?_; (congr 1; first | omega | (simp; omega) | simp)))) (SubM.refl _)
    · refine J_skip ?_
      exact pj_cut (digs a, digs b) ⟨limbs_digs _, limbs_digs _, hc, ha, by simp only [lv_digs]⟩ (by repeat (first | exact SubG.nil | refine SubG.cons rfl (VT.le_refl _) ?_ | (refine SubG.cons rfl (one_le ?_) ?_; (congr 1; first | omega | (simp; omega) | simp)))) (SubM.refl _)
  · obtain ⟨lx, ly⟩ := s
    simp only at hx hy hl hs hv ⊢
    refine pj_then (J_seq (J_reg (st (s_move rfl) rfl (st (s_len rfl) rfl ?_))))
    (refine st (s_add rfl rfl (wrap_i64 ?_ ?_)) rfl ?_; omega; omega)
    refine a_makeSlice (lx.length + 1) (lx.length + 1) rfl rfl (by simp) (by simp) (Nat.le_refl _) rfl rfl (by omega) rfl rfl (fun bz => ?_)
    refine st (s_assign rfl) rfl (Run.nil (pj_then (J_seq (J_reg (st (s_assign rfl) rfl (Run.nil (pj_then (J_seq (J_seq ?_)))))))))
    refine J_reg (st (s_move rfl) rfl (st (s_len rfl) rfl (st (s_move rfl) rfl (Run.nil (pj_then (J_block ?_))))))
    refine J_loop (σ := List Nat × Nat) (fun s => [(0, limT lx), (1, limT ly), (5, one (slV (some bz) (lx.length + 1) (lx.length + 1))), (6, one (.int .u64 (s.2 : Nat))), (20, one (.int .i64 lx.length)), (21, one (.int .i64 s.1.length))])
      (fun s => [sliO (some bz) 78 .one (lx.length + 1) (lx.length + 1) (fun q => one (.int .u32 (s.1.getD q 0 : Nat)))]) (fun s => PlusR lx ly s.1 s.2) (fun s => lx.length - s.1.length) ([], 0)
      ⟨by simp, (fun d hd => by cases hd), by decide, by simp [lv]⟩ (by repeat (first | exact SubG.nil | refine SubG.cons rfl (VT.le_refl _) ?_ | (refine SubG.cons rfl (one_le ?_) ?_; (congr 1; first | omega | (simp; omega) | simp)))) (.keep (sliO_eq (by simp)) .nil) (fun s hR => ?_)
    obtain ⟨zl, c⟩ := s
    simp only at hR ⊢
    refine J_seq (J_reg (st (s_lt rfl rfl) rfl (Run.nil (pj_then (J_seq ?_)))))
    refine J_cond rfl (fun hc => ?_) (fun hc => ?_) <;> simp at hc
    · have h1 := getD_lt hx zl.length
      have h2 := getD_lt hy zl.length
      have h3 := hR.c1
      refine J_skip (pj_then (J_seq (J_block (J_seq (J_reg (st (s_move rfl) rfl (st (s_assign rfl) rfl (Run.nil (pj_then ?_)))))))))
      refine J_seq (J_reg (st (s_move rfl) rfl (st (s_move rfl) rfl (st (s_move rfl) rfl ?_))))
      (refine st (s_indexIN rfl rfl ?_) rfl ?_; omega)
      refine st (s_load rfl) rfl ?_
      (refine st (s_toU64 rfl ?_) rfl ?_; omega)
      (refine st (s_addU rfl rfl ?_) rfl ?_; omega)
      refine st (s_assign rfl) rfl (Run.nil (pj_then (J_seq (J_seq (J_reg (st (s_move rfl) rfl (st (s_move rfl) rfl (st (s_len rfl) rfl (st (s_lt rfl rfl) rfl ?_)))))))))
      refine Run.nil (pj_then ?_)
      refine J_join (σ := Unit) (fun _ => [(0, limT lx), (1, limT ly), (5, one (slV (some bz) (lx.length + 1) (lx.length + 1))), (6, one (.int .u64 ((c + lx.getD zl.length 0 + ly.getD zl.length 0 : Nat) : Int))), (7, one (.int .i64 zl.length)), (20, one (.int .i64 lx.length)), (21, one (.int .i64 zl.length))])
        (fun _ => [sliO (some bz) 78 .one (lx.length + 1) (lx.length + 1) (fun q => one (.int .u32 (zl.getD q 0 : Nat)))]) (fun _ => True) ?_ (fun _ _ => ?_)
      · refine J_cond rfl (fun hc => ?_) (fun hc => ?_) <;> simp at hc
        · refine J_reg (st (s_move rfl) rfl (st (s_move rfl) rfl (st (s_move rfl) rfl ?_)))
          (refine st (s_indexIN rfl rfl ?_) rfl ?_; omega)
          refine st (s_load rfl) rfl ?_
          (refine st (s_toU64 rfl ?_) rfl ?_; omega)
          (refine st (s_addU rfl rfl ?_) rfl ?_; omega)
          refine st (s_assign rfl) rfl (Run.nil ?_)
          exact pj_cut () trivial (by repeat (first | exact SubG.nil | refine SubG.cons rfl (VT.le_refl _) ?_ | (refine SubG.cons rfl (one_le ?_) ?_; (congr 1; first | omega | (simp; omega) | simp)))) (SubM.refl _)
        · have e0 : ly.getD zl.length 0 = 0 := by simp [List.getElem?_eq_none hc]
          refine J_skip ?_
          exact pj_cut () trivial (by repeat (first | exact SubG.nil | refine SubG.cons rfl (VT.le_refl _) ?_ | (refine SubG.cons rfl (one_le ?_) ?_; (congr 1; first | omega | (simp; omega) | simp)))) (SubM.refl _)
      · refine pj_then (J_seq (J_reg (st (s_move rfl) rfl (st (s_move rfl) rfl (st (s_move rfl) rfl (st (s_toU32 rfl) rfl ?_))))))
        (refine st (s_indexON rfl rfl ?_) rfl ?_; omega)
        (refine a_storeE 0 rfl rfl rfl ?_ rfl ?_; omega)
        refine Run.nil (pj_then (J_reg (st (s_move rfl) rfl (st (s_shr32 rfl) rfl (st (s_assign rfl) rfl (Run.nil (pn_block (pj_then (J_reg ?_)))))))))
        (refine st (s_add rfl rfl (wrap_i64 ?_ ?_)) rfl ?_; omega; omega)
        refine st (s_move rfl) rfl (Run.nil ?_)
        have hstep := hR.step hx hy hl hc
        refine pj_round (s := (zl, c)) (zl ++ [(c + lx.getD zl.length 0 + ly.getD zl.length 0) % 4294967296], (c + lx.getD zl.length 0 + ly.getD zl.length 0) / 4294967296) hstep (by simp; omega) (by repeat (first | exact SubG.nil | refine SubG.cons rfl (VT.le_refl _) ?_ | (refine SubG.cons rfl (one_le ?_) ?_; (congr 1; first | omega | (simp; omega) | simp)))) (.keep (sliO_eq (fun q hq => ?_)) .nil)
        unfold upd; rw [getD_snoc]; split <;> rfl
    · have hlen : zl.length = lx.length := by have := hR.len; omega
      refine J_exit (px_then (px_then (px_block (pj_then (J_seq (J_reg (st (s_move rfl) rfl (st (s_move rfl) rfl (st (s_len rfl) rfl ?_)))))))))
      refine st (s_move rfl) rfl (st (s_toU32 rfl) rfl ?_)
      (refine st (s_indexON rfl rfl ?_) rfl ?_; omega)
      (refine a_storeE 0 rfl rfl rfl ?_ rfl ?_; omega)
      refine Run.nil (pj_then (J_seq (J_reg (st (s_move rfl) rfl (st (s_assign rfl) rfl (Run.nil (pj_then (J_ret (PJ_freeze (t := 4) (i := 0) rfl rfl ?_)))))))))
      refine retc1 Try.results70 (.tmp rfl (VT.le_trans (slT_le' (m := (zl ++ [c]).length) (ψ := fun i => one (.int .u32 ((zl ++ [c]).getD i 0 : Nat))) (by simp [hlen]) (fun q hq => ?_)) (natT_of (l := zl ++ [c]) ?_ ?_)))
      · have h3 := hR.c1
        unfold upd; rw [getD_snoc, hlen]
        split
        · rw [Nat.mod_eq_of_lt (by omega)]
        · rfl
      · intro d hd
        have h3 := hR.c1
        rcases List.mem_append.1 hd with hd | hd
        · exact hR.lim d hd
        · simp at hd; omega
      · have h4 := hR.val
        rw [hlen, List.take_length, List.take_of_length_le (by omega)] at h4
        rw [lv_append, hlen]; simp only [lv, Nat.mul_zero, Nat.add_zero]; omega
end Tor
end
section
namespace Tor
open Go Go.RowKit Go.Proofs
attribute [local irreducible] Tor.J Tor.PJ Tor.StepO Tor.one Tor.slT Tor.ptrT Tor.aggT Tor.tupT Tor.exT Tor.andT Tor.eP Tor.boxO Tor.sliO Tor.slV Tor.VT.le Tor.Ret Tor.anyT
theorem isNaN_int (a : Int) : Ok Try.prog 82 [one (.int .i64 a)] (one (.bool false)) := by
  refine Ok.enter Try.func82 rfl Try.ntmps82 rfl (fun w O => ?_)
  refine J_seq (J_reg (st (s_assign rfl) rfl (Run.nil (pj_then (J_seq (J_reg (st (s_move rfl) rfl (st (s_move rfl) rfl (st (s_ne rfl rfl) rfl ?_)))))))))
  refine st (s_assign rfl) rfl (Run.nil (pj_then (J_ret ?_)))
  exact retc1 Try.results82 (.tmp rfl (one_le (by simp)))
theorem isNaN_u32 (a : Int) : Ok Try.prog 95 [one (.int .u32 a)] (one (.bool false)) := by
  refine Ok.enter Try.func95 rfl Try.ntmps95 rfl (fun w O => ?_)
  refine J_seq (J_reg (st (s_assign rfl) rfl (Run.nil (pj_then (J_seq (J_reg (st (s_move rfl) rfl (st (s_move rfl) rfl (st (s_ne rfl rfl) rfl ?_)))))))))
  refine st (s_assign rfl) rfl (Run.nil (pj_then (J_ret ?_)))
  exact retc1 Try.results95 (.tmp rfl (one_le (by simp)))
theorem cmpCompare_int (a b : Int) : Ok Try.prog 74 [one (.int .i64 a), one (.int .i64 b)] (one (.int .i64 (cmpI a b))) := by
  refine Ok.enter Try.func74 rfl Try.ntmps74 rfl (fun w O => ?_)
  refine J_seq (J_reg (st (s_assign rfl) rfl (Run.nil (pj_then (J_seq (J_reg (st (s_move rfl) rfl ?_)))))))
  refine st (s_callk (isNaN_int _) rfl ⟨VT.le_refl _, trivial⟩) rfl ?_
  refine st (s_assign rfl) rfl (Run.nil (pj_then (J_seq (J_reg (st (s_move rfl) rfl ?_)))))
  refine st (s_callk (isNaN_int _) rfl ⟨VT.le_refl _, trivial⟩) rfl ?_
  refine st (s_assign rfl) rfl (Run.nil (pj_then (J_seq (J_seq (J_reg (st (s_move rfl) rfl (Run.nil (pj_then ?_))))))))
  refine J_cond rfl (fun hc => by cases hc) (fun hc => ?_)
  refine J_skip (pj_then (J_seq (J_seq (J_reg (st (s_move rfl) rfl (Run.nil (pj_then ?_)))))))
  refine J_cond rfl (fun hc => by cases hc) (fun hc => ?_)
  refine J_skip (pj_then (J_seq (J_seq (J_reg (st (s_move rfl) rfl (st (s_move rfl) rfl (st (s_lt rfl rfl) rfl (Run.nil (pj_then ?_)))))))))
  refine J_cond rfl (fun hc => ?_) (fun hc => ?_) <;> simp at hc
  · refine J_seq (J_reg (st (s_assign rfl) rfl (Run.nil (pj_then (J_ret (pr_then ?_))))))
    exact retc1 Try.results74 (.tmp rfl (one_le (by rw [cmpI, if_pos hc])))
  · refine J_skip (pj_then (J_seq (J_seq (J_reg (st (s_move rfl) rfl (st (s_move rfl) rfl (st (s_gt rfl rfl) rfl (Run.nil (pj_then ?_)))))))))
    refine J_cond rfl (fun hc2 => ?_) (fun hc2 => ?_) <;> simp at hc2
    · refine J_seq (J_reg (st (s_assign rfl) rfl (Run.nil (pj_then (J_ret (pr_then ?_))))))
      exact retc1 Try.results74 (.tmp rfl (one_le (by rw [cmpI, if_neg (by omega), if_pos hc2])))
    · refine J_skip (pj_then (J_seq (J_reg (st (s_assign rfl) rfl (Run.nil (pj_then (J_ret ?_)))))))
      exact retc1 Try.results74 (.tmp rfl (one_le (by rw [cmpI, if_neg (by omega), if_neg (by omega)])))
theorem cmpCompare_u32 (a b : Int) : Ok Try.prog 81 [one (.int .u32 a), one (.int .u32 b)] (one (.int .i64 (cmpI a b))) := by
  refine Ok.enter Try.func81 rfl Try.ntmps81 rfl (fun w O => ?_)
  refine J_seq (J_reg (st (s_assign rfl) rfl (Run.nil (pj_then (J_seq (J_reg (st (s_move rfl) rfl ?_)))))))
  refine st (s_callk (isNaN_u32 _) rfl ⟨VT.le_refl _, trivial⟩) rfl ?_
  refine st (s_assign rfl) rfl (Run.nil (pj_then (J_seq (J_reg (st (s_move rfl) rfl ?_)))))
  refine st (s_callk (isNaN_u32 _) rfl ⟨VT.le_refl _, trivial⟩) rfl ?_
  refine st (s_assign rfl) rfl (Run.nil (pj_then (J_seq (J_seq (J_reg (st (s_move rfl) rfl (Run.nil (pj_then ?_))))))))
  refine J_cond rfl (fun hc => by cases hc) (fun hc => ?_)
  refine J_skip (pj_then (J_seq (J_seq (J_reg (st (s_move rfl) rfl (Run.nil (pj_then ?_)))))))
  refine J_cond rfl (fun hc => by cases hc) (fun hc => ?_)
  refine J_skip (pj_then (J_seq (J_seq (J_reg (st (s_move rfl) rfl (st (s_move rfl) rfl (st (s_lt rfl rfl) rfl (Run.nil (pj_then ?_)))))))))
  refine J_cond rfl (fun hc => ?_) (fun hc => ?_) <;> simp at hc
  · refine J_seq (J_reg (st (s_assign rfl) rfl (Run.nil (pj_then (J_ret (pr_then ?_))))))
    exact retc1 Try.results81 (.tmp rfl (one_le (by rw [cmpI, if_pos hc])))
  · refine J_skip (pj_then (J_seq (J_seq (J_reg (st (s_move rfl) rfl (st (s_move rfl) rfl (st (s_gt rfl rfl) rfl (Run.nil (pj_then ?_)))))))))
    refine J_cond rfl (fun hc2 => ?_) (fun hc2 => ?_) <;> simp at hc2
    · refine J_seq (J_reg (st (s_assign rfl) rfl (Run.nil (pj_then (J_ret (pr_then ?_))))))
      exact retc1 Try.results81 (.tmp rfl (one_le (by rw [cmpI, if_neg (by omega), if_pos hc2])))
    · refine J_skip (pj_then (J_seq (J_reg (st (s_assign rfl) rfl (Run.nil (pj_then (J_ret ?_)))))))
      exact retc1 Try.results81 (.tmp rfl (one_le (by rw [cmpI, if_neg (by omega), if_neg (by omega)])))
theorem compare_ok (a b : Nat) : Ok Try.prog 71 [limT (digs a), limT (digs b)] (one (.int .i64 (cmpN a b))) := by
  refine Ok.enter Try.func71 rfl Try.ntmps71 rfl (fun w O => ?_)
  refine J_fact (t := 0) rfl (fun _ _ => slT_bound) (fun hb => ?_)
  refine J_seq (J_reg (st (s_assign rfl) rfl (Run.nil (pj_then (J_seq (J_seq (J_reg (st (s_move rfl) rfl (st (s_len rfl) rfl ?_)))))))))
  refine st (s_move rfl) rfl (st (s_len rfl) rfl ?_)
  refine st (s_callk (cmpCompare_int _ _) rfl ⟨VT.le_refl _, VT.le_refl _, trivial⟩) rfl ?_
  refine st (s_assign rfl) rfl (Run.nil (pj_then (J_seq (J_reg (st (s_move rfl) rfl (st (s_ne rfl rfl) rfl (Run.nil (pj_then ?_))))))))
  refine J_cond rfl (fun hc => ?_) (fun hc => ?_) <;> simp at hc
  · refine J_seq (J_reg (st (s_move rfl) rfl (st (s_assign rfl) rfl (Run.nil (pj_then (J_ret (pr_then ?_)))))))
    refine retc1 Try.results71 (.tmp rfl (one_le ?_))
    unfold cmpI at hc ⊢
    unfold cmpN
    congr 1
    by_cases h1 : (digs a).length < (digs b).length
    · have := digs_len_mono h1
      rw [if_pos (by omega), if_pos this]
    · by_cases h2 : (digs b).length < (digs a).length
      · have := digs_len_mono h2
        rw [if_neg (by omega), if_pos (by omega), if_neg (by omega), if_pos this]
      · rw [if_neg (by omega), if_neg (by omega)] at hc; exact absurd rfl hc
  · have hlen : (digs a).length = (digs b).length := by
      unfold cmpI at hc
      split at hc
      · cases hc
      · split at hc
        · cases hc
        · omega
    refine J_skip (pj_then (J_seq (J_seq (J_reg (st (s_move rfl) rfl (st (s_len rfl) rfl ?_))))))
    (refine st (s_sub rfl rfl (wrap_i64 ?_ ?_)) rfl ?_; omega; omega)
    refine st (s_assign rfl) rfl (Run.nil (pj_then (J_block ?_)))
    refine J_loop (σ := Nat) (fun n => [(0, limT (digs a)), (1, limT (digs b)), (6, one (.int .i64 ((n : Int) - 1)))]) (fun _ => []) (fun n => n ≤ (digs a).length ∧ (digs a).drop n = (digs b).drop n) (fun n => n) (digs a).length
      ⟨Nat.le_refl _, by rw [List.drop_length, hlen, List.drop_length]⟩ (by repeat (first | exact SubG.nil | refine SubG.cons rfl (VT.le_refl _) ?_ | (refine SubG.cons rfl (one_le ?_) ?_; (congr 1; first | omega | (simp; omega) | simp)))) (SubM.refl _) (fun n ⟨hn, hd⟩ => ?_)
    refine J_seq (J_seq (J_reg (st (s_move rfl) rfl (st (s_ge rfl rfl) rfl (Run.nil (pj_then ?_))))))
    refine J_cond rfl (fun hc2 => ?_) (fun hc2 => ?_) <;> simp at hc2
    · obtain ⟨n, rfl⟩ : ∃ m, n = m + 1 := ⟨n - 1, by omega⟩
      have e : ((n + 1 : Nat) : Int) - 1 = n := by omega
      rw [e]
      refine J_skip (pj_then (J_seq (J_block (J_seq (J_regd 10 mixed (by kernel_rfl) (by decide) (st (s_move rfl) rfl (st (s_move rfl) rfl ?_)))))))
      (refine st (s_indexIN rfl rfl ?_) rfl ?_; omega)
      refine st (s_load rfl) rfl (st (s_move rfl) rfl (st (s_move rfl) rfl ?_))
      (refine st (s_indexIN rfl rfl ?_) rfl ?_; omega)
      refine st (s_load rfl) rfl ?_
      refine st (s_callk (cmpCompare_u32 _ _) rfl ⟨VT.le_refl _, VT.le_refl _, trivial⟩) rfl ?_
      refine st (s_assign rfl) rfl (Run.nil (Run.nil (pj_then (J_seq (J_reg (st (s_move rfl) rfl (st (s_ne rfl rfl) rfl (Run.nil (pj_then ?_)))))))))
      refine J_cond rfl (fun hc3 => ?_) (fun hc3 => ?_) <;> simp only [decide_eq_true_eq, decide_eq_false_iff_not, ne_eq, Decidable.not_not] at hc3
      · refine J_seq (J_reg (st (s_move rfl) rfl (st (s_assign rfl) rfl (Run.nil (pj_then (J_ret (pr_block (pr_then (pr_then ?_)))))))))
        refine pr_block (pr_then ?_)
        refine retc1 Try.results71 (.tmp rfl (one_le ?_))
        congr 1
        unfold cmpI at hc3 ⊢
        unfold cmpN
        by_cases h1 : (digs a).getD n 0 < (digs b).getD n 0
        · have := lv_cmp (limbs_digs a) (limbs_digs b) hlen (i := n) (by omega) hd h1
          rw [lv_digs, lv_digs] at this
          rw [if_pos (by omega), if_pos this]
        · by_cases h2 : (digs b).getD n 0 < (digs a).getD n 0
          · have := lv_cmp (limbs_digs b) (limbs_digs a) hlen.symm (i := n) (by omega) hd.symm h2
            rw [lv_digs, lv_digs] at this
            rw [if_neg (by omega), if_pos (by omega), if_neg (by omega), if_pos this]
          · rw [if_neg (by omega), if_neg (by omega)] at hc3; exact absurd rfl hc3
      · refine J_skip (pn_block (pj_then (J_reg (st (s_move rfl) rfl ?_))))
        (refine st (s_sub rfl rfl (wrap_i64 ?_ ?_)) rfl ?_; omega; omega)
        refine st (s_assign rfl) rfl (Run.nil ?_)
        refine pj_round (s := n + 1) n ⟨by omega, ?_⟩ (by omega) (by repeat (first | exact SubG.nil | refine SubG.cons rfl (VT.le_refl _) ?_ | (refine SubG.cons rfl (one_le ?_) ?_; (congr 1; first | omega | (simp; omega) | simp)))) (SubM.refl _)
        have h3 : (digs a).getD n 0 = (digs b).getD n 0 := by
          unfold cmpI at hc3
          split at hc3
          · cases hc3
          · split at hc3
            · cases hc3
            · omega
        have e1 := drop_getD (l := digs a) (k := n) (by omega)
        have e2 := drop_getD (l := digs b) (k := n) (by omega)
        rw [e1, e2, h3, hd]
    · refine J_exit (px_then (px_then (px_block (pj_then (J_seq (J_reg (st (s_assign rfl) rfl (Run.nil (pj_then ?_)))))))))
      refine J_ret ?_
      have h0 : n = 0 := by omega
      subst h0
      have h4 : a = b := digs_inj (by simpa using hd)
      exact retc1 Try.results71 (.tmp rfl (one_le (by subst h4; simp [cmpN])))
end Tor
end
section
namespace Tor
open Go Go.RowKit Go.Proofs
attribute [local irreducible] Tor.J Tor.PJ Tor.StepO Tor.one Tor.slT Tor.ptrT Tor.aggT Tor.tupT Tor.exT Tor.andT Tor.eP Tor.boxO Tor.sliO Tor.slV Tor.VT.le Tor.Ret Tor.anyT
structure MinusR (lx ly : List Nat) (zl : List Nat) (c : Nat) : Prop where
  len : zl.length ≤ lx.length
  lim : Limbs zl
  c1 : c ≤ 1
  val : lv zl + lv (ly.take zl.length) = lv (lx.take zl.length) + 4294967296 ^ zl.length * c
theorem borrow_step {x y c d : Nat} (hx : x < 4294967296) (hy : y < 4294967296) (hc : c ≤ 1) (hd : d = ((x + 18446744073709551616 - c) % 18446744073709551616 + 18446744073709551616 - y) % 18446744073709551616) :
    d % 4294967296 + y + c = x + 4294967296 * (d / 9223372036854775808) ∧ d / 9223372036854775808 ≤ 1 := by
  rcases Nat.lt_or_ge x (y + c) with h | h
  · have h1 : d = x + 18446744073709551616 - (y + c) := by omega
    omega
  · have h1 : d = x - (y + c) := by omega
    omega
theorem MinusR.step {lx ly zl : List Nat} {c d : Nat} (h : MinusR lx ly zl c) (hx : Limbs lx) (hy : Limbs ly) (hl : ly.length ≤ lx.length) (hlt : zl.length < lx.length)
    (hd : d = ((lx.getD zl.length 0 + 18446744073709551616 - c) % 18446744073709551616 + 18446744073709551616 - ly.getD zl.length 0) % 18446744073709551616) :
    MinusR lx ly (zl ++ [d % 4294967296]) (d / 9223372036854775808) := by
  obtain ⟨h1, h2⟩ := borrow_step (getD_lt hx zl.length) (getD_lt hy zl.length) h.c1 hd
  refine ⟨by simp; omega, fun e he => ?_, h2, ?_⟩
  · rcases List.mem_append.1 he with he | he
    · exact h.lim e he
    · simp at he; omega
  · have hy2 : lv (ly.take (zl.length + 1)) = lv (ly.take zl.length) + 4294967296 ^ zl.length * ly.getD zl.length 0 := by
      by_cases hk : zl.length < ly.length
      · exact lv_take_succ hk
      · rw [List.take_of_length_le (by omega), List.take_of_length_le (by omega)]; simp [List.getElem?_eq_none (Nat.le_of_not_lt hk)]
    simp only [List.length_append, List.length_cons, List.length_nil, Nat.zero_add]
    rw [lv_append, lv_take_succ hlt, hy2, Nat.pow_succ]
    have hv := h.val
    clear hd
    generalize lx.getD zl.length 0 = x at *
    generalize ly.getD zl.length 0 = y at *
    generalize 4294967296 ^ zl.length = B at *
    generalize d % 4294967296 = r at *
    generalize d / 9223372036854775808 = q at *
    simp only [lv, Nat.mul_zero, Nat.add_zero]
    have e2 : B * (r + y + c) = B * (x + 4294967296 * q) := by rw [h1]
    simp only [Nat.mul_add, Nat.mul_assoc] at e2 ⊢
    omega
theorem minus_ok (a b : Nat) (hab : b ≤ a) (ha : (digs a).length ≤ 1099511627776) : Ok Try.prog 72 [limT (digs a), limT (digs b)] (natT (a - b)) := by
  refine Ok.enter Try.func72 rfl Try.ntmps72 rfl (fun w O => ?_)
  have hx := limbs_digs a
  have hy := limbs_digs b
  have hl := digs_len_le' hab
  have hva := lv_digs a
  have hvb := lv_digs b
  generalize digs a = lx at *
  generalize digs b = ly at *
  refine J_seq (J_reg (st (s_assign rfl) rfl (Run.nil (pj_then (J_seq (J_reg (st (s_move rfl) rfl (st (s_len rfl) rfl ?_))))))))
  refine a_makeSlice lx.length lx.length rfl rfl rfl rfl (Nat.le_refl _) rfl rfl (by omega) rfl rfl (fun bz => ?_)
  refine st (s_assign rfl) rfl (Run.nil (pj_then (J_seq (J_reg (st (s_assign rfl) rfl (Run.nil (pj_then (J_seq (J_seq ?_)))))))))
  refine J_reg (st (s_move rfl) rfl (st (s_len rfl) rfl (st (s_move rfl) rfl (Run.nil (pj_then (J_block ?_))))))
  refine J_loop (σ := List Nat × Nat) (fun s => [(0, limT lx), (1, limT ly), (5, one (slV (some bz) lx.length lx.length)), (6, one (.int .u64 (s.2 : Nat))), (13, one (.int .i64 lx.length)), (14, one (.int .i64 s.1.length))])
      (fun s => [sliO (some bz) 78 .one lx.length lx.length (fun q => one (.int .u32 (s.1.getD q 0 : Nat)))]) (fun s => MinusR lx ly s.1 s.2) (fun s => lx.length - s.1.length) ([], 0)
      ⟨by simp, (fun d hd => by cases hd), by decide, by simp [lv]⟩ (by repeat (first | exact SubG.nil | refine SubG.cons rfl (VT.le_refl _) ?_ | (refine SubG.cons rfl (one_le ?_) ?_; (congr 1; first | omega | (simp; omega) | simp)))) (.keep (sliO_eq (by simp)) .nil) (fun s hR => ?_)
  obtain ⟨zl, c⟩ := s
  simp only at hR ⊢
  refine J_seq (J_reg (st (s_lt rfl rfl) rfl (Run.nil (pj_then (J_seq ?_)))))
  refine J_cond rfl (fun hc => ?_) (fun hc => ?_) <;> simp at hc
  · have h1 := getD_lt hx zl.length
    have h2 := getD_lt hy zl.length
    have h3 := hR.c1
    refine J_skip (pj_then (J_seq (J_block (J_seq (J_reg (st (s_move rfl) rfl (st (s_assign rfl) rfl (Run.nil (pj_then ?_)))))))))
    refine J_seq (J_reg (st (s_move rfl) rfl (st (s_move rfl) rfl ?_)))
    (refine st (s_indexIN rfl rfl ?_) rfl ?_; omega)
    refine st (s_load rfl) rfl ?_
    (refine st (s_toU64 rfl ?_) rfl ?_; omega)
    refine st (s_move rfl) rfl ?_
    (refine st (s_subU rfl rfl ?_ ?_) rfl ?_; omega; omega)
    refine st (s_assign rfl) rfl (Run.nil (pj_then (J_seq (J_seq (J_reg (st (s_move rfl) rfl (st (s_move rfl) rfl (st (s_len rfl) rfl (st (s_lt rfl rfl) rfl ?_)))))))))
    refine Run.nil (pj_then ?_)
    generalize hD : ((lx.getD zl.length 0 + 18446744073709551616 - c) % 18446744073709551616 + 18446744073709551616 - ly.getD zl.length 0) % 18446744073709551616 = d
    refine J_join (σ := Unit) (fun _ => [(0, limT lx), (1, limT ly), (5, one (slV (some bz) lx.length lx.length)), (8, one (.int .u64 (d : Nat))), (7, one (.int .i64 zl.length)), (13, one (.int .i64 lx.length)), (14, one (.int .i64 zl.length))])
        (fun _ => [sliO (some bz) 78 .one lx.length lx.length (fun q => one (.int .u32 (zl.getD q 0 : Nat)))]) (fun _ => True) ?_ (fun _ _ => ?_)
    · refine J_cond rfl (fun hc => ?_) (fun hc => ?_) <;> simp at hc
      · refine J_reg (st (s_move rfl) rfl (st (s_move rfl) rfl (st (s_move rfl) rfl ?_)))
        (refine st (s_indexIN rfl rfl ?_) rfl ?_; omega)
        refine st (s_load rfl) rfl ?_
        (refine st (s_toU64 rfl ?_) rfl ?_; omega)
        (refine st (s_subU rfl rfl ?_ ?_) rfl ?_; omega; omega)
        refine st (s_assign rfl) rfl (Run.nil ?_)
        exact pj_cut () trivial (by repeat (first | exact SubG.nil | refine SubG.cons rfl (VT.le_refl _) ?_ | (refine SubG.cons rfl (one_le ?_) ?_; (congr 1; first | omega | (simp; omega) | simp)))) (SubM.refl _)
      · have e0 : ly.getD zl.length 0 = 0 := by simp [List.getElem?_eq_none hc]
        refine J_skip ?_
        exact pj_cut () trivial (by repeat (first | exact SubG.nil | refine SubG.cons rfl (VT.le_refl _) ?_ | (refine SubG.cons rfl (one_le ?_) ?_; (congr 1; first | omega | (simp; omega) | simp)))) (SubM.refl _)
    · refine pj_then (J_seq (J_reg (st (s_move rfl) rfl (st (s_move rfl) rfl (st (s_move rfl) rfl (st (s_toU32 rfl) rfl ?_))))))
      (refine st (s_indexON rfl rfl ?_) rfl ?_; omega)
      (refine a_storeE 0 rfl rfl rfl ?_ rfl ?_; omega)
      refine Run.nil (pj_then (J_reg (st (s_move rfl) rfl (st (s_shr63 rfl) rfl (st (s_assign rfl) rfl (Run.nil (pn_block (pj_then (J_reg ?_)))))))))
      (refine st (s_add rfl rfl (wrap_i64 ?_ ?_)) rfl ?_; omega; omega)
      refine st (s_move rfl) rfl (Run.nil ?_)
      have hstep := hR.step hx hy hl hc hD.symm
      refine pj_round (s := (zl, c)) (zl ++ [d % 4294967296], d / 9223372036854775808) hstep (by simp; omega) (by repeat (first | exact SubG.nil | refine SubG.cons rfl (VT.le_refl _) ?_ | (refine SubG.cons rfl (one_le ?_) ?_; (congr 1; first | omega | (simp; omega) | simp)))) (.keep (sliO_eq (fun q hq => ?_)) .nil)
      unfold upd; rw [getD_snoc]; split <;> rfl
  · have hlen : zl.length = lx.length := by have := hR.len; omega
    refine J_exit (px_then (px_then (px_block (pj_then (J_seq (J_reg (st (s_move rfl) rfl (st (s_assign rfl) rfl (Run.nil ?_)))))))))
    refine pj_then (J_ret (PJ_freeze (t := 4) (i := 0) rfl rfl ?_))
    refine retc1 Try.results72 (.tmp rfl (VT.le_trans (slT_le' (m := zl.length) (ψ := fun i => one (.int .u32 (zl.getD i 0 : Nat))) hlen.symm (fun q hq => rfl)) (natT_of (l := zl) hR.lim ?_)))
    have h4 := hR.val
    rw [hlen, List.take_length, List.take_of_length_le (by omega), hva, hvb] at h4
    have h5 := lv_lt hR.lim
    rw [hlen] at h5
    have h3 := hR.c1
    have : c = 0 := by
      rcases Nat.eq_zero_or_pos c with h | h
      · exact h
      · have : c = 1 := by omega
        subst this; omega
    subst this; omega
end Tor
end
