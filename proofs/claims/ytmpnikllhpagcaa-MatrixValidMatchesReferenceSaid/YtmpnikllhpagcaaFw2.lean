/-
  Runs of operations are sound, in the order of the text and in any order that the edges allow.
  No condition: general theorems over any program.
-/
import Derived.Test.YtmpnikllhpagcaaFw1
namespace Tor
open Go Go.RowKit

section
variable {P : Program} {E : Env} {ops : Array Oper}

theorem wanted_none {o : Oper} {y : Nat → Option Bool} (h : o.guard = none) : Region.wanted o y = true := by
  simp [Region.wanted, h]

theorem guard_yield {o : Oper} {a : Act} {t : Nat} {want b : Bool} (hg : guardT ops o = some (some t, want)) (hs : t < a.tmps.size)
    (hb : a.tmps.getD t undef = .bool b) : Region.wanted o (yielded ops a.tmps) = (b == want) := by
  unfold guardT at hg
  cases hgo : o.guard with
  | none => rw [hgo] at hg; cases hg
  | some jw =>
    obtain ⟨j, w'⟩ := jw
    rw [hgo] at hg
    simp only [Option.map_some, Option.some.injEq, Prod.mk.injEq] at hg
    obtain ⟨h1, h2⟩ := hg
    subst h2
    simp only [Region.wanted, hgo, yielded]
    have : a.tmps[t]? = some (.bool b) := by
      rw [Array.getD_eq_getD_getElem?] at hb
      have : a.tmps[t]? = some a.tmps[t] := by simp [hs]
      rw [this] at hb ⊢; simpa using hb
    cases hj : ops[j]? with
    | none => rw [hj] at h1; cases h1
    | some oj =>
      rw [hj] at h1
      simp only [Option.bind_some] at h1 ⊢
      rw [h1]; simp only [Option.bind_some, this]
      cases b <;> cases w' <;> rfl

/-- A slot that a context speaks of and that does not hold undef lies in the frame. -/
theorem lt_of_bool {a : Act} {t : Nat} {b : Bool} (hb : a.tmps.getD t undef = .bool b) : t < a.tmps.size := by
  rcases Nat.lt_or_ge t a.tmps.size with h | h
  · exact h
  · rw [Array.getD_eq_getD_getElem?, Array.getElem?_eq_none h] at hb; cases hb

/-- One step of a run, from what is known of its names alone. -/
theorem StepG.run {Γ Γ' : Ctx} {M : Mem} {o : Oper} {i : Nat} (hi : ops[i]? = some o) (h : StepG P E Γ M ops o Γ') :
    ∃ d ψ, o.dst = some d ∧ d < E.N ∧ Γ' = (d, ψ) :: Γ ∧ ∀ (a : Act) (w : World), Base E M w →
      (∀ t φ, t ∈ namesO ops o → look Γ t = some φ → φ.p (a.tmps.getD t undef) (hv E M w)) →
      ∀ (next : Act → World → Prop) (Q : Exit → Act → World → Prop),
        (∀ v w', Ext w w' → ψ.p v (hv E M w') → next (a.put (some d) v) w') → wpOp P ops Q i next a w := by
  have opsOk : ∀ (a : Act) (w : World), (∀ t φ, t ∈ namesO ops o → look Γ t = some φ → φ.p (a.tmps.getD t undef) (hv E M w)) →
      ∀ x φ, x ∈ o.op.operands → evalT Γ x = some φ → φ.p (a.eval x) (hv E M w) := by
    intro a w hn x φ hx he
    cases x with
    | tmp t => exact hn t φ (List.mem_append.2 (.inl (List.mem_filterMap.2 ⟨.tmp t, by simpa using hx, rfl⟩))) he
    | const v => cases he; rfl
    | global g => cases he; rfl
    | func f => cases he; rfl
  cases h with
  | @plain ψ d hs hg hd hN =>
    refine ⟨d, ψ, hd, hN, rfl, fun a w hb hn next Q hnext => ?_⟩
    simp only [wpOp, hi, wanted_none hg, if_true]
    exact .inl (hs a w hb (opsOk a w hn) next Q (by rw [hd]; exact hnext))
  | @guarded1 ψ d t want hg ht hs hd hN =>
    refine ⟨d, _, hd, hN, rfl, fun a w hb hn next Q hnext => ?_⟩
    have hbv : a.tmps.getD t undef = .bool want := hn t _ (List.mem_append.2 (.inr (by rw [hg]; simp))) ht
    have hw := guard_yield (a := a) hg (lt_of_bool hbv) hbv
    simp only [wpOp, hi, hw]
    rw [if_pos (by simp)]
    refine .inl (hs a w hb (opsOk a w hn) next Q ?_)
    rw [hd]; exact fun v w' k hv' => hnext v w' k hv'
  | @guarded0 d t want b hg ht hne hd hN =>
    refine ⟨d, _, hd, hN, rfl, fun a w hb hn next Q hnext => ?_⟩
    have hbv : a.tmps.getD t undef = .bool b := hn t _ (List.mem_append.2 (.inr (by rw [hg]; simp))) ht
    have hw := guard_yield (a := a) hg (lt_of_bool hbv) hbv
    simp only [wpOp, hi, hw, hne]
    rw [if_neg (by simp), hd]
    exact hnext _ w (Ext.refl w) trivial

theorem St.names {D : List Deferred} {Γ : Ctx} {M : Mem} {a : Act} {w : World} (h : St E D Γ M a w) (o : Oper) :
    ∀ t φ, t ∈ namesO ops o → look Γ t = some φ → φ.p (a.tmps.getD t undef) (hv E M w) := fun t φ _ e => h.tm t φ e

/-- In the order of the text. -/
theorem Run.seq {i : Nat} {D : List Deferred} {Γ : Ctx} {M : Mem} {os : List Oper} {K : List Deferred → Ctx → Mem → Prop} {dr : Bool}
    (h : Run P E ops dr i D Γ M os K) : ∀ (Q : Exit → Act → World → Prop) (tl : List Nat), (∀ j, j < os.length → ops[i + j]? = os[j]?) →
      (∀ D' Γ' M' a w, K D' Γ' M' → St E D' Γ' M' a w → wpOps P ops Q tl a w) →
      ∀ a w, St E D Γ M a w → wpOps P ops Q (List.range' i os.length ++ tl) a w := by
  induction h with
  | nil hK => intro Q tl _ hQ a w hS; exact hQ _ _ _ a w hK hS
  | @step dr i D Γ M o os K Γ' hs _ ih =>
    intro Q tl hops hQ a w hS
    have hi : ops[i]? = some o := by simpa using hops 0 (by simp)
    obtain ⟨d, ψ, _, hN, rfl, hrun⟩ := hs.run hi
    simp only [List.length_cons, List.range'_succ, List.cons_append, wpOps_cons]
    refine hrun a w hS.base (hS.names o) _ Q fun v w' k hv' => ?_
    refine ih Q tl (fun j hj => ?_) hQ _ _ (hS.put k hN hv')
    have := hops (j + 1) (by simpa using hj)
    rw [show i + 1 + j = i + (j + 1) by omega]; simpa using this
  | @conv i D Γ M Γ' M' os K hc _ ih =>
    intro Q tl hops hQ a w hS
    exact ih Q tl hops hQ a w (hc a w hS)
  | @act i D Γ M o os K K' hs _ ih =>
    intro Q tl hops hQ a w hS
    simp only [List.length_cons, List.range'_succ, List.cons_append, wpOps_cons]
    refine hs a w hS _ Q fun D' Γ' M' a' w' hK hS' => ?_
    refine ih D' Γ' M' hK Q tl (fun j hj => ?_) hQ _ _ hS'
    have := hops (j + 1) (by simpa using hj)
    rw [show i + 1 + j = i + (j + 1) by omega]; simpa using this

theorem J_reg {D : List Deferred} {Γ : Ctx} {M : Mem} {id : Nat} {Q : Exit → Act → World → Prop}
    (h : Run P E ops false 0 D Γ M ops.toList (fun D' Γ' M' => PJ E D' Γ' M' .normal Q)) : J P E D Γ M (.region id ops false) Q := by
  intro a w hS
  refine wp_region ?_
  have := h.seq Q [] (fun j _ => by simp) (fun D' Γ' M' a w hK hS => by simpa [wpOps] using hK a w hS) a w hS
  simpa [List.range_eq_range'] using this

/-! ### Any order -/
def predB (ops : Array Oper) (i j : Nat) : Bool := match ops[j]? with
  | some o => o.after.any fun e => Region.binds .any e && e.on == i
  | none => false
def dstOf (ops : Array Oper) (i : Nat) : Option Tmp := (ops[i]?).bind (·.dst)
def namesOf (ops : Array Oper) (i : Nat) : List Tmp := match ops[i]? with | some o => namesO ops o | none => []
def clash (ops : Array Oper) (i j : Nat) : Bool :=
  (match dstOf ops i with | some t => (namesOf ops j).contains t || dstOf ops j == some t | none => false) ||
  (match dstOf ops j with | some t => (namesOf ops i).contains t | none => false)
def okAny (n : Nat) (ops : Array Oper) : Bool :=
  decide (n ≤ ops.size) &&
  ((List.range ops.size).all fun j =>
    (match ops[j]? with | some o => o.after.all (fun e => !Region.binds .any e || decide (e.on < j)) | none => true) &&
    ((List.range j).all fun i => predB ops i j || (decide (j < n) && !clash ops i j)))

theorem okAny_pre {n : Nat} (h : okAny n ops = true) {i j : Nat} (hij : i < j) (hj : j < ops.size) : predB ops i j = true ∨ (j < n ∧ clash ops i j = false) := by
  simp only [okAny, Bool.and_eq_true, List.all_eq_true, List.mem_range] at h
  have := (h.2 j hj).2 i hij
  simpa using this
theorem okAny_on {n : Nat} (h : okAny n ops = true) {j : Nat} {o : Oper} (ho : ops[j]? = some o) {e : Edge} (he : e ∈ o.after) (hb : Region.binds .any e = true) : e.on < j := by
  simp only [okAny, Bool.and_eq_true, List.all_eq_true, List.mem_range] at h
  have hj : j < ops.size := by
    rcases Nat.lt_or_ge j ops.size with h | h
    · exact h
    · rw [Array.getElem?_eq_none h] at ho; cases ho
  have := (h.2 j hj).1
  rw [ho] at this
  simp only [Array.all_eq_true'] at this
  have := this e he
  simpa [hb] using this

structure Lst (ops : Array Oper) (l : Array Bool) : Prop where
  size : l.size = ops.size
  closed : ∀ j, l.getD j false = true → ∀ i, predB ops i j = true → l.getD i false = true

theorem getD_tf {l : Array Bool} {i : Nat} (h : i < l.size) (d d' : Bool) : l.getD i d = l.getD i d' := by
  simp [Array.getD_eq_getD_getElem?, h]

theorem ready_pred {l : Array Bool} {j i : Nat} (hj : j ∈ Region.ready .any ops l) (hp : predB ops i j = true) : l.getD i false = true := by
  unfold predB at hp
  cases ho : ops[j]? with
  | none => rw [ho] at hp; cases hp
  | some o =>
    rw [ho] at hp
    simp only [Array.any_eq_true'] at hp
    obtain ⟨e, he, hh⟩ := hp
    simp only [Bool.and_eq_true, beq_iff_eq] at hh
    obtain ⟨o', ho', hall⟩ := (mem_ready.1 hj).2
    rw [ho] at ho'; cases ho'
    rw [← hh.2]; exact hall e he hh.1

/-- What the run in the order of the text leaves at each place. -/
theorem Run.chain {i : Nat} {D : List Deferred} {Γ : Ctx} {M : Mem} {os : List Oper} {K : List Deferred → Ctx → Mem → Prop} {dr : Bool}
    (h : Run P E ops dr i D Γ M os K) : dr = true → ∃ G : Nat → Ctx, G i = Γ ∧ K D (G (i + os.length)) M ∧ ∀ j o, os[j]? = some o → StepG P E (G (i + j)) M ops o (G (i + j + 1)) := by
  induction h with
  | @nil dr i D Γ M K hK => intro _; exact ⟨fun _ => Γ, rfl, hK, fun j o h => by simp at h⟩
  | @act i D Γ M o os K K' _ _ _ => intro h; cases h
  | @conv i D Γ M Γ' M' os K _ _ _ => intro h; cases h
  | @step dr i D Γ M o os K Γ' hs _ ih =>
    intro hd
    obtain ⟨G, h0, hK, hG⟩ := ih hd
    refine ⟨fun j => if j = i then Γ else G j, by simp, ?_, fun j o' hj => ?_⟩
    · have e1 : i + (o :: os).length = i + 1 + os.length := by simp only [List.length_cons]; omega
      have e2 : ¬ (i + (o :: os).length = i) := by simp only [List.length_cons]; omega
      show K D (if i + (o :: os).length = i then Γ else G (i + (o :: os).length)) M
      rw [if_neg e2, e1]; exact hK
    · cases j with
      | zero =>
        simp only [List.getElem?_cons_zero, Option.some.injEq] at hj; subst hj
        simp only [Nat.add_zero, if_true]; rw [if_neg (by omega), h0]; exact hs
      | succ j =>
        simp only [List.getElem?_cons_succ] at hj
        have := hG j o' hj
        show StepG P E (if i + (j + 1) = i then Γ else G (i + (j + 1))) M ops o' (if i + (j + 1) + 1 = i then Γ else G (i + (j + 1) + 1))
        rw [if_neg (by omega), if_neg (by omega), show i + (j + 1) = i + 1 + j by omega]; exact this

/-- What holds of the slots while some of the operations have been done. -/
def Inv (E : Env) (ops : Array Oper) (n : Nat) (G : Nat → Ctx) (M : Mem) (l : Array Bool) (a : Act) (w : World) : Prop :=
  ∀ k, k ≤ n → ∀ t φ, look (G k) t = some φ → (∀ j, j < k → dstOf ops j = some t → l.getD j false = true) →
    (∀ j, k ≤ j → j < ops.size → dstOf ops j = some t → l.getD j false = false) → φ.p (a.tmps.getD t undef) (hv E M w)

theorem look_between {n : Nat} {G : Nat → Ctx} {M : Mem} (hG : ∀ j o, j < n → ops[j]? = some o → StepG P E (G j) M ops o (G (j + 1))) (hn : n ≤ ops.size) {t : Nat} {i k : Nat} (hik : i ≤ k) (hk : k ≤ n)
    (hno : ∀ j, i ≤ j → j < k → dstOf ops j ≠ some t) : look (G k) t = look (G i) t := by
  induction k with
  | zero => have : i = 0 := by omega
            subst this; rfl
  | succ k ih =>
    by_cases e : i = k + 1
    · subst e; rfl
    · have hk' : k < ops.size := by omega
      have ho : ops[k]? = some ops[k] := by simp [hk']
      obtain ⟨d, ψ, hd, _, hΓ, _⟩ := (hG k _ (by omega) ho).run ho
      rw [hΓ, look_cons]
      have hne : d ≠ t := by
        intro h; subst h
        exact hno k (by omega) (by omega) (by simp [dstOf, ho, hd])
      rw [if_neg hne]
      exact ih (by omega) (by omega) (fun j h1 h2 => hno j h1 (by omega))

theorem clash_dst {i j : Nat} {t : Tmp} (hi : dstOf ops i = some t) (hj : dstOf ops j = some t) : clash ops i j = true := by
  simp [clash, hi, hj]
theorem clash_name {i j : Nat} {t : Tmp} (hi : dstOf ops i = some t) (hj : t ∈ namesOf ops j) : clash ops i j = true := by
  simp [clash, hi, hj]
theorem clash_name' {i j : Nat} {t : Tmp} (hj : dstOf ops j = some t) (hi : t ∈ namesOf ops i) : clash ops i j = true := by
  simp [clash, hi, hj]

theorem getD_set {l : Array Bool} {i j : Nat} (hi : i < l.size) : (l.setIfInBounds i true).getD j false = (if i = j then true else l.getD j false) := by
  by_cases h : i = j
  · subst h; simp [Array.getD_eq_getD_getElem?, hi]
  · simp [Array.getD_eq_getD_getElem?, h]

/-- How many are still to be done. -/
def left (ops : Array Oper) (l : Array Bool) : Nat := ((List.range ops.size).filter fun i => !l.getD i false).length

theorem left_set {l : Array Bool} (hs : l.size = ops.size) {i : Nat} (hi : i < ops.size) (hl : l.getD i false = false) : left ops (l.setIfInBounds i true) < left ops l := by
  unfold left
  have hg : ∀ j, (l.setIfInBounds i true).getD j false = (if i = j then true else l.getD j false) := fun j => getD_set (by omega)
  generalize l.setIfInBounds i true = l' at hg
  have key : ∀ r : List Nat, (r.filter fun j => !l'.getD j false).length ≤ (r.filter fun j => !l.getD j false).length ∧
      (i ∈ r → (r.filter fun j => !l'.getD j false).length < (r.filter fun j => !l.getD j false).length) := by
    intro r
    induction r with
    | nil => simp
    | cons x r ih =>
      obtain ⟨ih1, ih2⟩ := ih
      rw [List.filter_cons, List.filter_cons, hg x]
      by_cases hx : i = x
      · subst hx
        rw [if_pos rfl, hl, if_neg (by simp), if_pos (by simp)]
        simp only [List.length_cons]; exact ⟨by omega, fun _ => by omega⟩
      · rw [if_neg hx]
        have hm : i ∈ x :: r ↔ i ∈ r := by simp [hx]
        rw [hm]
        split
        · simp only [List.length_cons]; exact ⟨by omega, fun h => by have := ih2 h; omega⟩
        · exact ⟨ih1, ih2⟩
  exact (key _).2 (by simpa using hi)

theorem ready_lt {l : Array Bool} {j : Nat} (hj : j ∈ Region.ready .any ops l) : j < ops.size := by
  obtain ⟨_, o, ho, _⟩ := mem_ready.1 hj
  exact (Array.getElem?_eq_some_iff.1 ho).1

theorem ready_ne {n : Nat} (hok : okAny n ops = true) {l : Array Bool} (hs : l.size = ops.size) {j : Nat} (hj : j < ops.size) (hl : l.getD j false = false) : ∃ i, i ∈ Region.ready .any ops l := by
  induction j using Nat.strongRecOn with
  | _ j ih =>
    by_cases h : j ∈ Region.ready .any ops l
    · exact ⟨j, h⟩
    · have ho : ops[j]? = some ops[j] := by simp [hj]
      rw [mem_ready] at h
      have h1 : l.getD j true = false := by rw [getD_tf (by omega) true false]; exact hl
      have h2 : ¬ ∀ e ∈ ops[j].after, Region.binds .any e = true → l.getD e.on false = true := fun hall => h ⟨h1, _, ho, hall⟩
      obtain ⟨e, h2⟩ := Classical.not_forall.1 h2
      obtain ⟨he, h2⟩ := Classical.not_imp.1 h2
      obtain ⟨hb, h2⟩ := Classical.not_imp.1 h2
      have hlt := okAny_on hok ho he hb
      exact ih e.on hlt (by omega) (by simpa using h2)

theorem wpAny_run {n : Nat} (hok : okAny n ops = true) {G : Nat → Ctx} {M : Mem} {D : List Deferred} (hG : ∀ j o, j < n → ops[j]? = some o → StepG P E (G j) M ops o (G (j + 1)))
    {Q : Exit → Act → World → Prop} (htail : ∀ a w, St E D (G n) M a w → wpOps P ops Q (List.range' n (ops.size - n)) a w) :
    ∀ (fuel : Nat) (l : Array Bool) (a : Act) (w : World), Lst ops l → left ops l ≤ fuel → Base E M w → a.tmps.size = E.N → a.defers = D → Inv E ops n G M l a w →
      (∃ i, i < n ∧ l.getD i false = false) → wpAny P .any ops Q fuel l a w := by
  have hn : n ≤ ops.size := by simp only [okAny, Bool.and_eq_true] at hok; exact of_decide_eq_true hok.1
  -- the tail, once the head is done
  have tail : ∀ (m : Nat) (fuel : Nat) (l : Array Bool) (k : Nat) (a : Act) (w : World), k + m = ops.size → n ≤ k → Lst ops l → (∀ j, j < ops.size → (l.getD j false = true ↔ j < k)) → m ≤ fuel →
      wpOps P ops Q (List.range' k m) a w → wpAny P .any ops Q fuel l a w := by
    intro m
    induction m with
    | zero =>
      intro fuel l k a w hkm hnk hl hiff _ h
      have hr : Region.ready .any ops l = [] := by
        rw [List.eq_nil_iff_forall_not_mem]
        intro j hj
        have h1 := ready_lt hj
        have h2 := (mem_ready.1 hj).1
        have h3 := (hiff j h1).2 (by omega)
        rw [getD_tf (by have := hl.size; omega) true false, h3] at h2; cases h2
      have hq : Q .normal a w := by simpa [wpOps] using h
      cases fuel with
      | zero => exact ⟨hr, hq⟩
      | succ f => exact ⟨fun _ => hq, fun i hi => by rw [hr] at hi; cases hi⟩
    | succ m ih =>
      intro fuel l k a w hkm hnk hl hiff hf h
      obtain ⟨f, rfl⟩ : ∃ f, fuel = f + 1 := ⟨fuel - 1, by omega⟩
      have hsz := hl.size
      have hkl : l.getD k false = false := by
        rw [← Bool.not_eq_true]; intro h'; have := (hiff k (by omega)).1 h'; omega
      refine ⟨fun hr => ?_, fun i hi => ?_⟩
      · obtain ⟨i, hi⟩ := ready_ne hok hsz (j := k) (by omega) hkl
        rw [hr] at hi; cases hi
      · have hi1 := ready_lt hi
        have hi2 := (mem_ready.1 hi).1
        rw [getD_tf (by omega) true false] at hi2
        have hik : k ≤ i := by
          rcases Nat.lt_or_ge i k with h' | h'
          · rw [(hiff i hi1).2 h'] at hi2; cases hi2
          · exact h'
        have : i = k := by
          rcases Nat.lt_or_ge k i with h' | h'
          · rcases okAny_pre hok h' hi1 with hp | ⟨hp, _⟩
            · have := ready_pred hi hp; rw [this] at hkl; cases hkl
            · omega
          · omega
        subst this
        rw [List.range'_succ, wpOps_cons] at h
        refine wpOp_mono (fun a' w' h' => ?_) h
        refine ih f _ (i + 1) a' w' (by omega) (by omega) ⟨by simpa using hsz, ?_⟩ ?_ (by omega) h'
        · intro j hj i' hp
          rw [getD_set (by omega)] at hj ⊢
          split
          · rfl
          · split at hj
            · rename_i h1; subst h1; exact ready_pred hi hp
            · exact hl.closed j hj i' hp
        · intro j hj
          rw [getD_set (by omega)]
          split
          · rename_i h1; subst h1; simp
          · rename_i h1; rw [hiff j hj]; omega
  intro fuel
  induction fuel with
  | zero =>
    intro l a w hl hleft _ _ _ _ ⟨i, hi, hil⟩
    have := left_set (ops := ops) hl.size (i := i) (by omega) hil
    omega
  | succ fuel ih =>
    intro l a w hl hleft hbase hsz hdf hinv ⟨i0, hi0, hil0⟩
    have hls := hl.size
    refine ⟨fun hr => ?_, fun i hi => ?_⟩
    · obtain ⟨i, hi⟩ := ready_ne hok hls (j := i0) (by omega) hil0
      rw [hr] at hi; cases hi
    · have hi1 := ready_lt hi
      have hi2 : l.getD i false = false := by
        have := (mem_ready.1 hi).1
        rw [getD_tf (by omega) true false] at this; exact this
      have hin : i < n := by
        rcases Nat.lt_or_ge i n with h' | h'
        · exact h'
        · rcases okAny_pre hok (i := i0) (j := i) (by omega) hi1 with hp | ⟨hp, _⟩
          · have := ready_pred hi hp; rw [this] at hil0; cases hil0
          · omega
      have ho : ops[i]? = some ops[i] := by simp [hi1]
      obtain ⟨d, ψ, hd, hN, hΓ, hrun⟩ := (hG i _ hin ho).run ho
      have hdi : dstOf ops i = some d := by simp [dstOf, ho, hd]
      refine hrun a w hbase (fun t φ ht hlk => ?_) _ Q fun v w' k hv' => ?_
      · refine hinv i (by omega) t φ hlk (fun j hj hdj => ?_) (fun j hj hjs hdj => ?_)
        · rcases okAny_pre hok hj hi1 with hp | ⟨_, hp⟩
          · exact ready_pred hi hp
          · rw [clash_name hdj (by simpa [namesOf, ho] using ht)] at hp; cases hp
        · rcases Nat.lt_or_ge i j with h' | h'
          · rw [← Bool.not_eq_true]; intro hlj
            rcases okAny_pre hok h' hjs with hp | ⟨_, hp⟩
            · have := hl.closed j hlj i hp; rw [this] at hi2; cases hi2
            · rw [clash_name' hdj (by simpa [namesOf, ho] using ht)] at hp; cases hp
          · have : j = i := by omega
            subst this; exact hi2
      · have hl' : Lst ops (l.setIfInBounds i true) := by
          refine ⟨by simpa using hls, fun j hj i' hp => ?_⟩
          rw [getD_set (by omega)] at hj ⊢
          split
          · rfl
          · split at hj
            · rename_i h1; subst h1; exact ready_pred hi hp
            · exact hl.closed j hj i' hp
        have hbase' := hbase.ext k
        have hsz' : (a.put (some d) v).tmps.size = E.N := by simp [Act.put, hsz]
        have hinv' : Inv E ops n G M (l.setIfInBounds i true) (a.put (some d) v) w' := by
          intro k' hk' t φ hlk hlo hhi
          by_cases htd : d = t
          · subst htd
            have hik : i < k' := by
              rcases Nat.lt_or_ge i k' with h' | h'
              · exact h'
              · have := hhi i h' hi1 hdi; rw [getD_set (by omega)] at this; simp at this
            have hno : ∀ j, i + 1 ≤ j → j < k' → dstOf ops j ≠ some d := by
              intro j h1 h2 hdj
              have h3 := hlo j h2 hdj
              rw [getD_set (by omega), if_neg (by omega)] at h3
              rcases okAny_pre hok (i := i) (j := j) (by omega) (by omega) with hp | ⟨_, hp⟩
              · have := hl.closed j h3 i hp; rw [this] at hi2; cases hi2
              · rw [clash_dst hdi hdj] at hp; cases hp
            rw [look_between hG hn (i := i + 1) (by omega) hk' hno, hΓ, look_cons, if_pos rfl] at hlk
            cases hlk
            rw [getD_put_self (by rw [hsz]; exact hN)]; exact hv'
          · rw [getD_put_ne htd]
            refine φ.mono (Base.hv_ext k) (hinv k' hk' t φ hlk (fun j hj hdj => ?_) (fun j hj hjs hdj => ?_))
            · have := hlo j hj hdj; rw [getD_set (by omega)] at this
              split at this
              · rename_i h1; subst h1; rw [hdi] at hdj; cases hdj; exact absurd rfl htd
              · exact this
            · have := hhi j hj hjs hdj; rw [getD_set (by omega)] at this
              split at this
              · cases this
              · exact this
        have hleft' := left_set (ops := ops) hls hi1 hi2
        by_cases hmore : ∃ i', i' < n ∧ (l.setIfInBounds i true).getD i' false = false
        · exact ih _ _ _ hl' (by omega) hbase' hsz' hdf hinv' hmore
        · have hall : ∀ j, j < n → (l.setIfInBounds i true).getD j false = true := by
            intro j hj; rw [← Bool.not_eq_false]; intro h; exact hmore ⟨j, hj, h⟩
          have hlate : ∀ j, n ≤ j → j < ops.size → (l.setIfInBounds i true).getD j false = false := by
            intro j hj hjs
            rw [getD_set (by omega), if_neg (by omega), ← Bool.not_eq_true]
            intro hlj
            rcases okAny_pre hok (i := i) (j := j) (by omega) hjs with hp | ⟨hp, _⟩
            · have := hl.closed j hlj i hp; rw [this] at hi2; cases hi2
            · omega
          have hSt : St E D (G n) M (a.put (some d) v) w' :=
            ⟨hbase', hsz', hdf, fun t φ hlk => hinv' n (Nat.le_refl _) t φ hlk (fun j hj _ => hall j hj) (fun j hj hjs _ => hlate j hj hjs)⟩
          refine tail (ops.size - n) fuel _ n _ w' (by omega) (Nat.le_refl _) hl' (fun j hj => ?_) ?_ (htail _ _ hSt)
          · constructor
            · intro h; rcases Nat.lt_or_ge j n with h' | h'
              · exact h'
              · rw [hlate j h' hj] at h; cases h
            · exact hall j
          · have : ops.size - n ≤ left ops (l.setIfInBounds i true) := by
              unfold left
              have h1 : (List.range' n (ops.size - n)).Sublist ((List.range ops.size).filter fun i' => !(l.setIfInBounds i true).getD i' false) := by
                have h2 : ((List.range' n (ops.size - n)).filter fun i' => !(l.setIfInBounds i true).getD i' false) = List.range' n (ops.size - n) := by
                  rw [List.filter_eq_self]
                  intro j hj; rw [List.mem_range'_1] at hj
                  rw [hlate j (by omega) (by omega)]; rfl
                rw [← h2]
                refine List.Sublist.filter _ ?_
                have h3 : List.range ops.size = List.range' 0 n ++ List.range' n (ops.size - n) := by
                  have := @List.range'_append 0 n (ops.size - n) 1
                  rw [List.range_eq_range']
                  simp only [Nat.one_mul, Nat.zero_add] at this
                  rw [this]; congr 1; omega
                rw [h3]; exact List.sublist_append_right _ _
              have := h1.length_le; simpa using this
            omega

/-- A region that draws its order: the first n operations in any order, the others, each behind all before it, as written. -/
theorem J_regd {D : List Deferred} {Γ : Ctx} {M : Mem} {id : Nat} {Q : Exit → Act → World → Prop} (n : Nat) (hm : P.follows .mixedOrders = true) (hok : okAny n ops = true) (hn0 : 0 < n)
    (h : Run P E ops true 0 D Γ M (ops.toList.take n) (fun D' Γ' M' => Run P E ops false n D' Γ' M' (ops.toList.drop n) (fun D' Γ' M' => PJ E D' Γ' M' .normal Q))) : J P E D Γ M (.region id ops true) Q := by
  intro a w hS
  have hn : n ≤ ops.size := by simp only [okAny, Bool.and_eq_true] at hok; exact of_decide_eq_true hok.1
  refine wp_region_any hm ?_
  have k : Ext w { w with drawn := w.drawn + 1 } := ⟨rfl, rfl, rfl, Nat.le_refl _, fun _ _ => rfl⟩
  obtain ⟨G, hG0, hK, hG⟩ := h.chain rfl
  have hlen : (ops.toList.take n).length = n := by simp [hn]
  rw [hlen, Nat.zero_add] at hK
  refine wpAny_run (D := D) hok (G := G) (M := M) (fun j o hj ho => ?_) (fun a' w' hS' => ?_) ops.size _ a _ ⟨by simp, fun j hj => ?_⟩ ?_ (hS.base.ext k) hS.sz hS.df ?_ ⟨0, hn0, ?_⟩
  · have := hG j o (by rw [List.getElem?_take, if_pos hj]; simpa using ho)
    simpa using this
  · have := hK.seq Q [] (fun j _ => by simp [List.getElem?_drop]) (fun D' Γ' M' a w hK hS => by simpa [wpOps] using hK a w hS) a' w' hS'
    simpa using this
  · simp [Array.getD_eq_getD_getElem?, Array.getElem?_replicate] at hj; split at hj <;> simp at hj
  · unfold left; refine Nat.le_trans (List.length_filter_le _ _) (by simp)
  · intro k' hk' t φ hlk hlo _
    have hno : ∀ j, 0 ≤ j → j < k' → dstOf ops j ≠ some t := by
      intro j _ hj hd
      have := hlo j hj hd
      simp [Array.getD_eq_getD_getElem?, Array.getElem?_replicate] at this; split at this <;> simp at this
    rw [look_between (fun j o hj ho => by have := hG j o (by rw [List.getElem?_take, if_pos hj]; simpa using ho); simpa using this) hn (Nat.zero_le _) hk' hno, hG0] at hlk
    exact φ.mono (Base.hv_ext k) (hS.tm t φ hlk)
  · simp [Array.getD_eq_getD_getElem?, Array.getElem?_replicate]; split <;> rfl

end
end Tor
