/-
  Regions in any order that also make variables and lay their first values.
  No condition: general theorems over any program.
-/
import Derived.Test.YtmpnikllhpagcaaFwD
set_option linter.unusedVariables false
set_option linter.unusedSimpArgs false
set_option linter.unusedSectionVars false
namespace Tor
open Go Go.RowKit

section
variable {P : Program} {E : Env} {ops : Array Oper}

structure Cell where
  ta : Tmp
  T : TypeId
  L : Lay
  ψ : VT
def Env.hide (E : Env) (B : List Nat) : Env := { E with O := E.O ++ B }
def allocO (o : Oper) : Option (Tmp × TypeId) := match o.op, o.dst with | .alloc T, some d => some (d, T) | _, _ => none
def storeO (o : Oper) : Option (Tmp × TypeId × Operand) := match o.op, o.dst with | .store T (.tmp t) y, none => some (t, T, y) | _, _ => none
def allocAt (ops : Array Oper) (j : Nat) : Option (Tmp × TypeId) := (ops[j]?).bind allocO
def storeAt (ops : Array Oper) (j : Nat) : Option (Tmp × TypeId × Operand) := (ops[j]?).bind storeO

/-- One operation of such a region. -/
inductive OpU (P : Program) (E : Env) (M : Mem) (ops : Array Oper) (Γ : Ctx) (o : Oper) (C : List Cell) : Ctx → List Cell → Prop
  | pure {Γ' : Ctx} : allocO o = none → (∀ B, StepG P (E.hide B) Γ M ops o Γ') → OpU P E M ops Γ o C Γ' C
  | alloc {d : Nat} {T : TypeId} {L : Lay} {z : Value} {by' : Nat} {ty : TypeId} {pos : String} {af : Array Edge} (hL : LayOf P T L) (hZ : ZeroOf P T z by') (hF : Flat (one z) L) : o = ⟨some d, .alloc T, ty, pos, af, none⟩ → d < E.N → OpU P E M ops Γ o C Γ C
  | store {ta : Tmp} {T : TypeId} {L : Lay} {ψ : VT} {y : Operand} {ty : TypeId} {pos : String} {af : Array Edge} (hL : LayOf P T L) (hF : Flat ψ L) : o = ⟨none, .store T (.tmp ta) y, ty, pos, af, none⟩ → evalT Γ y = some ψ → OpU P E M ops Γ o C Γ (⟨ta, T, L, ψ⟩ :: C)

inductive RunU (P : Program) (E : Env) (M : Mem) (ops : Array Oper) : Nat → Ctx → List Cell → List Oper → (Ctx → List Cell → Prop) → Prop
  | nil {i Γ C K} : K Γ C → RunU P E M ops i Γ C [] K
  | step {i Γ C o os K Γ' C'} : OpU P E M ops Γ o C Γ' C' → RunU P E M ops (i + 1) Γ' C' os K → RunU P E M ops i Γ C (o :: os) K

theorem RunU.chain {M : Mem} {i : Nat} {Γ : Ctx} {C : List Cell} {os : List Oper} {K : Ctx → List Cell → Prop} (h : RunU P E M ops i Γ C os K) :
    ∃ (G : Nat → Ctx) (CC : Nat → List Cell), G i = Γ ∧ CC i = C ∧ K (G (i + os.length)) (CC (i + os.length)) ∧ ∀ j o, os[j]? = some o → OpU P E M ops (G (i + j)) o (CC (i + j)) (G (i + j + 1)) (CC (i + j + 1)) := by
  induction h with
  | @nil i Γ C K hK => exact ⟨fun _ => Γ, fun _ => C, rfl, rfl, hK, fun j o h => by simp at h⟩
  | @step i Γ C o os K Γ' C' hs _ ih =>
    obtain ⟨G, CC, h0, h1, hK, hG⟩ := ih
    refine ⟨fun j => if j = i then Γ else G j, fun j => if j = i then C else CC j, by simp, by simp, ?_, fun j o' hj => ?_⟩
    · have e1 : i + (o :: os).length = i + 1 + os.length := by simp only [List.length_cons]; omega
      have e2 : ¬ (i + (o :: os).length = i) := by simp only [List.length_cons]; omega
      simp only [if_neg e2, e1]; rw [e1] at e2; simp only [if_neg e2]; exact hK
    · cases j with
      | zero =>
        simp only [List.getElem?_cons_zero, Option.some.injEq] at hj; subst hj
        have e : ¬ (i + 0 + 1 = i) := by omega
        simp only [Nat.add_zero, if_true] at e ⊢; rw [if_neg e, if_neg e, h0, h1]; exact hs
      | succ j =>
        simp only [List.getElem?_cons_succ] at hj
        have := hG j o' hj
        have e1 : ¬ (i + (j + 1) = i) := by omega
        have e2 : ¬ (i + (j + 1) + 1 = i) := by omega
        simp only [if_neg e1, if_neg e2]
        rw [show i + (j + 1) = i + 1 + j by omega]; exact this

def okU (ops : Array Oper) : Bool :=
  okAny ops.size ops &&
  ((List.range ops.size).all fun j => match allocAt ops j with
    | some (d, T) => ((List.range ops.size).all fun i => i == j || dstOf ops i != some d) &&
        ((List.range ops.size).any fun s => match storeAt ops s with | some (t, T', _) => t == d && T' == T | none => false)
    | none => true) &&
  ((List.range ops.size).all fun s => match storeAt ops s with
    | some (t, T, _) => ((List.range ops.size).any fun j => match allocAt ops j with | some (d, T') => d == t && T' == T && predB ops j s | none => false) &&
        ((List.range s).all fun s' => match storeAt ops s' with | some (t', _, _) => t' != t | none => true)
    | none => true)

theorem lt_of_allocAt {j : Nat} {x : Tmp × TypeId} (h : allocAt ops j = some x) : j < ops.size := by
  unfold allocAt at h
  rcases Nat.lt_or_ge j ops.size with h' | h'
  · exact h'
  · rw [Array.getElem?_eq_none h'] at h; cases h
theorem lt_of_storeAt {j : Nat} {x : Tmp × TypeId × Operand} (h : storeAt ops j = some x) : j < ops.size := by
  unfold storeAt at h
  rcases Nat.lt_or_ge j ops.size with h' | h'
  · exact h'
  · rw [Array.getElem?_eq_none h'] at h; cases h
theorem lt_of_dst {j : Nat} {x : Tmp} (h : dstOf ops j = some x) : j < ops.size := by
  unfold dstOf at h
  rcases Nat.lt_or_ge j ops.size with h' | h'
  · exact h'
  · rw [Array.getElem?_eq_none h'] at h; cases h
structure OkU (ops : Array Oper) : Prop where
  any : okAny ops.size ops = true
  al : ∀ j d T, allocAt ops j = some (d, T) → (∀ i, i ≠ j → dstOf ops i ≠ some d) ∧ ∃ s y, storeAt ops s = some (d, T, y)
  st : ∀ s t T y, storeAt ops s = some (t, T, y) → (∃ j, allocAt ops j = some (t, T) ∧ predB ops j s = true) ∧ ∀ s' T' y', s' < s → storeAt ops s' ≠ some (t, T', y')
theorem okU_ok (h : okU ops = true) : OkU ops := by
  simp only [okU, Bool.and_eq_true, List.all_eq_true, List.mem_range] at h
  obtain ⟨⟨h1, h2⟩, h3⟩ := h
  refine ⟨h1, fun j d T hj => ?_, fun s t T y hs => ?_⟩
  · have := h2 j (lt_of_allocAt hj)
    rw [hj] at this
    simp only [Bool.and_eq_true, List.all_eq_true, List.mem_range, List.any_eq_true, Bool.or_eq_true, beq_iff_eq, bne_iff_ne] at this
    refine ⟨fun i hi hd => ?_, ?_⟩
    · rcases this.1 i (lt_of_dst hd) with h | h
      · exact hi h
      · exact h hd
    · obtain ⟨s, _, hs⟩ := this.2
      cases hst : storeAt ops s with
      | none => rw [hst] at hs; cases hs
      | some x =>
        obtain ⟨t, T', y⟩ := x
        rw [hst] at hs
        simp only [Bool.and_eq_true, beq_iff_eq] at hs
        exact ⟨s, y, by rw [hst, hs.1, hs.2]⟩
  · have := h3 s (lt_of_storeAt hs)
    rw [hs] at this
    simp only [Bool.and_eq_true, List.all_eq_true, List.mem_range, List.any_eq_true] at this
    refine ⟨?_, fun s' T' y' hlt hs' => ?_⟩
    · obtain ⟨j, _, hj⟩ := this.1
      cases hst : allocAt ops j with
      | none => rw [hst] at hj; cases hj
      | some x =>
        obtain ⟨d, T'⟩ := x
        rw [hst] at hj
        simp only [Bool.and_eq_true, beq_iff_eq] at hj
        exact ⟨j, by rw [hst, hj.1.1, hj.1.2], hj.2⟩
    · have := this.2 s' hlt
      rw [hs'] at this
      simp at this

/-- A run in any order, by an invariant. -/
theorem wpAny_inv {n : Nat} (hok : okAny n ops = true) {Q : Exit → Act → World → Prop} (Iv : Array Bool → Act → World → Prop)
    (hend : ∀ l a w, Iv l a w → (∀ j, j < ops.size → l.getD j false = true) → Q .normal a w)
    (hstep : ∀ l a w i, Iv l a w → Lst ops l → i < ops.size → l.getD i false = false → i ∈ Region.ready .any ops l → wpOp P ops Q i (fun a' w' => Iv (l.setIfInBounds i true) a' w') a w) :
    ∀ (fuel : Nat) (l : Array Bool) (a : Act) (w : World), Lst ops l → left ops l ≤ fuel → Iv l a w → wpAny P .any ops Q fuel l a w := by
  have hall : ∀ l : Array Bool, Region.ready .any ops l = [] → Lst ops l → ∀ j, j < ops.size → l.getD j false = true := by
    intro l hr hl j hj
    rw [← Bool.not_eq_false]; intro h
    obtain ⟨i, hi⟩ := ready_ne hok hl.size hj h
    rw [hr] at hi; cases hi
  intro fuel
  induction fuel with
  | zero =>
    intro l a w hl hleft hI
    have hr : Region.ready .any ops l = [] := by
      rw [List.eq_nil_iff_forall_not_mem]
      intro i hi
      have h1 := ready_lt hi
      have h2 := (mem_ready.1 hi).1
      rw [getD_tf (by have := hl.size; omega) true false] at h2
      have := left_set (ops := ops) hl.size h1 h2
      omega
    exact ⟨hr, hend l a w hI (hall l hr hl)⟩
  | succ f ih =>
    intro l a w hl hleft hI
    refine ⟨fun hr => hend l a w hI (hall l hr hl), fun i hi => ?_⟩
    have h1 := ready_lt hi
    have h2 := (mem_ready.1 hi).1
    rw [getD_tf (by have := hl.size; omega) true false] at h2
    have hls := hl.size
    refine wpOp_mono (fun a' w' h' => ?_) (hstep l a w i hI hl h1 h2 hi)
    refine ih _ a' w' ⟨by simpa using hls, fun j hj i' hp => ?_⟩ (by have := left_set (ops := ops) hls h1 h2; omega) h'
    rw [getD_set (by omega)] at hj ⊢
    split
    · rfl
    · split at hj
      · rename_i h3; subst h3; exact ready_pred hi hp
      · exact hl.closed j hj i' hp

theorem hid_congr {O O' : List Nat} (h : ∀ b, b ∈ O ↔ b ∈ O') (k : Hp) : hid O k = hid O' k := by
  funext b; simp only [hid, h b]
def hb (ops : Array Oper) (l : Array Bool) (β : Nat → Nat) : List Nat := ((List.range ops.size).filter fun j => (allocAt ops j).isSome && l.getD j false).map β
theorem mem_hb {l : Array Bool} {β : Nat → Nat} {b : Nat} : b ∈ hb ops l β ↔ ∃ j x, allocAt ops j = some x ∧ l.getD j false = true ∧ β j = b := by
  simp only [hb, List.mem_map, List.mem_filter, List.mem_range, Bool.and_eq_true, Option.isSome_iff_exists]
  constructor
  · rintro ⟨j, ⟨_, ⟨x, hx⟩, hl⟩, rfl⟩; exact ⟨j, x, hx, hl, rfl⟩
  · rintro ⟨j, x, hx, hl, rfl⟩; exact ⟨j, ⟨lt_of_allocAt hx, ⟨x, hx⟩, hl⟩, rfl⟩
theorem hb_set {l : Array Bool} (hs : l.size = ops.size) {β : Nat → Nat} {i : Nat} (hi : i < ops.size) (h : allocAt ops i = none) : hb ops (l.setIfInBounds i true) β = hb ops l β := by
  unfold hb
  congr 1
  refine List.filter_congr fun j _ => ?_
  rw [getD_set (by omega)]
  by_cases e : i = j
  · subst e; rw [h]; rfl
  · rw [if_neg e]

theorem LayOf.unique {T : TypeId} {L L' : Lay} (h : LayOf P T L) (h' : LayOf P T L') : L = L' := by
  obtain ⟨i, h1, h2⟩ := h.info
  obtain ⟨i', h1', h2'⟩ := h'.info
  obtain ⟨d, h3, h4⟩ := h.und
  obtain ⟨d', h3', h4'⟩ := h'.und
  rw [h1] at h1'; cases h1'
  rw [h3] at h3'; cases h3'
  have e1 : L.sz = L'.sz := by rw [← h2, ← h2']
  have e2 : L.isAgg = L'.isAgg := by rw [← h4, ← h4']
  cases L <;> cases L' <;> simp [Lay.isAgg, Lay.sz] at e1 e2 ⊢
  exact e1

structure InvU (P : Program) (E : Env) (D : List Deferred) (M : Mem) (ops : Array Oper) (G : Nat → Ctx) (w1 : World) (a1 : Act) (β : Nat → Nat) (l : Array Bool) (a : Act) (w : World) : Prop where
  base : Base (E.hide (hb ops l β)) M w
  sz : a.tmps.size = E.N
  df : a.defers = D
  inv : Inv (E.hide (hb ops l β)) ops ops.size G M l a w
  inj : ∀ j j' x x', allocAt ops j = some x → allocAt ops j' = some x' → l.getD j false = true → l.getD j' false = true → β j = β j' → j = j'
  ap : ∀ j x, allocAt ops j = some x → l.getD j false = true → β j ∉ E.O ++ blks M ∧ w1.heap.size ≤ β j ∧ β j < w.heap.size
  cell : ∀ j d T, allocAt ops j = some (d, T) → l.getD j false = true → a.tmps.getD d undef = .pointer (some ⟨β j, 0, none⟩) ∧
    ∃ c L, LayOf P T L ∧ view w (β j) = some (c, T, (0, 0)) ∧ c.size = L.sz ∧ c.all (·.oneCell') = true ∧
      ∀ s y ψ, storeAt ops s = some (d, T, y) → l.getD s false = true → evalT (G s) y = some ψ → ∃ v, valAt L c 0 = some v ∧ ψ.p v (hv (E.hide (hb ops l β)) M w)
  keepW : Ext w1 w
  keepS : ∀ t, (∀ j, dstOf ops j ≠ some t) → a.tmps.getD t undef = a1.tmps.getD t undef

theorem look_stepU {M : Mem} {G : Nat → Ctx} {CC : Nat → List Cell} (hG : ∀ j o, ops[j]? = some o → OpU P E M ops (G j) o (CC j) (G (j + 1)) (CC (j + 1))) {t : Nat} {j : Nat} {o : Oper} (ho : ops[j]? = some o) (hno : dstOf ops j ≠ some t) :
    look (G (j + 1)) t = look (G j) t := by
  generalize hX : G (j + 1) = X
  generalize hY : CC (j + 1) = Y
  have h := hG j o ho
  rw [hX, hY] at h
  cases h with
  | pure _ hs =>
    obtain ⟨d, ψ, hd, _, hΓ, _⟩ := (hs []).run ho
    rw [hΓ, look_cons, if_neg]
    intro e; subst e; exact hno (by simp [dstOf, ho, hd])
  | alloc hL hZ hF he hd => rfl
  | store hL hF he hy => rfl
theorem look_betweenU {M : Mem} {G : Nat → Ctx} {CC : Nat → List Cell} (hG : ∀ j o, ops[j]? = some o → OpU P E M ops (G j) o (CC j) (G (j + 1)) (CC (j + 1))) {t : Nat} {i k : Nat} (hik : i ≤ k) (hk : k ≤ ops.size)
    (hno : ∀ j, i ≤ j → j < k → dstOf ops j ≠ some t) : look (G k) t = look (G i) t := by
  induction k with
  | zero => have : i = 0 := by omega
            subst this; rfl
  | succ k ih =>
    by_cases e : i = k + 1
    · subst e; rfl
    · have hk' : k < ops.size := by omega
      have ho : ops[k]? = some ops[k] := by simp [hk']
      rw [look_stepU hG ho (hno k (by omega) (by omega))]
      exact ih (by omega) (by omega) (fun j h1 h2 => hno j h1 (by omega))

/-- The names that a ready operation reads. -/
theorem InvU.names {D : List Deferred} {M : Mem} {G : Nat → Ctx} {w1 : World} {a1 : Act} {β : Nat → Nat} {l : Array Bool} {a : Act} {w : World} (hI : InvU P E D M ops G w1 a1 β l a w) (hok : okAny ops.size ops = true) (hl : Lst ops l)
    {i : Nat} {o : Oper} (ho : ops[i]? = some o) (hi2 : l.getD i false = false) (hi : i ∈ Region.ready .any ops l) :
    ∀ t φ, t ∈ namesO ops o → look (G i) t = some φ → φ.p (a.tmps.getD t undef) (hv (E.hide (hb ops l β)) M w) := by
  have hi1 := ready_lt hi
  intro t φ ht hlk
  refine hI.inv i (by omega) t φ hlk (fun j hj hdj => ?_) (fun j hj hjs hdj => ?_)
  · rcases okAny_pre hok hj hi1 with hp | ⟨_, hp⟩
    · exact ready_pred hi hp
    · rw [clash_name hdj (by simpa [namesOf, ho] using ht)] at hp; cases hp
  · rcases Nat.lt_or_ge i j with h' | h'
    · rw [← Bool.not_eq_true]; intro hlj
      rcases okAny_pre hok h' hjs with hp | ⟨_, hp⟩
      · have := hl.closed j hlj i hp; rw [this] at hi2; cases hi2
      · rw [clash_name' hdj (by simpa [namesOf, ho] using ht)] at hp; cases hp
    · have : j = i := by omega
      subst this; exact hi2

theorem stepU {D : List Deferred} {M : Mem} {G : Nat → Ctx} {CC : Nat → List Cell} {Q : Exit → Act → World → Prop} (hU : OkU ops) (hG : ∀ j o, ops[j]? = some o → OpU P E M ops (G j) o (CC j) (G (j + 1)) (CC (j + 1)))
    (hfree : ∀ k j d T, k ≤ ops.size → allocAt ops j = some (d, T) → look (G k) d = none) {w1 : World} (hw1 : E.w0.heap.size ≤ w1.heap.size) {a1 : Act} {β : Nat → Nat} {l : Array Bool} {a : Act} {w : World} {i : Nat}
    (hI : InvU P E D M ops G w1 a1 β l a w) (hl : Lst ops l) (hi1 : i < ops.size) (hi2 : l.getD i false = false) (hi : i ∈ Region.ready .any ops l) :
    wpOp P ops Q i (fun a' w' => ∃ β', InvU P E D M ops G w1 a1 β' (l.setIfInBounds i true) a' w') a w := by
  have hok := hU.any
  have hls := hl.size
  have ho : ops[i]? = some ops[i] := by simp [hi1]
  have hnames := hI.names hok hl ho hi2 hi
  have hsame : ∀ j, j ≠ i → (l.setIfInBounds i true).getD j false = l.getD j false := fun j hj => by rw [getD_set (by omega), if_neg (fun e => hj e.symm)]
  have hself : (l.setIfInBounds i true).getD i false = true := by rw [getD_set (by omega), if_pos rfl]
  generalize hX : G (i + 1) = X
  generalize hY : CC (i + 1) = Y
  have hop := hG i _ ho
  rw [hX, hY] at hop
  cases hop with
  | pure hal hs =>
    have hali : allocAt ops i = none := by simp [allocAt, ho, hal]
    obtain ⟨d, ψ, hd, hN, hΓ, hrun⟩ := (hs (hb ops l β)).run ho
    have hdi : dstOf ops i = some d := by simp [dstOf, ho, hd]
    refine hrun a w hI.base hnames _ Q fun v w' k hv' => ⟨β, ?_⟩
    have ehb := hb_set (β := β) hls hi1 hali
    have hali' : ∀ j x, allocAt ops j = some x → j ≠ i := fun j x hj e => by subst e; rw [hali] at hj; cases hj
    have hle := Base.hv_ext (E := E.hide (hb ops l β)) (M := M) k
    refine ⟨by rw [ehb]; exact hI.base.ext k, by simp [Act.put, hI.sz], hI.df, ?_, ?_, ?_, ?_, hI.keepW.trans k, ?_⟩
    · rw [ehb]
      intro k' hk' t φ hlk hlo hhi
      by_cases htd : d = t
      · subst htd
        have hik : i < k' := by
          rcases Nat.lt_or_ge i k' with h' | h'
          · exact h'
          · have := hhi i h' hi1 hdi; rw [hself] at this; cases this
        have hno : ∀ j, i + 1 ≤ j → j < k' → dstOf ops j ≠ some d := by
          intro j h1 h2 hdj
          have h3 := hlo j h2 hdj
          rw [hsame j (by omega)] at h3
          rcases okAny_pre hok (i := i) (j := j) (by omega) (by omega) with hp | ⟨_, hp⟩
          · have := hl.closed j h3 i hp; rw [this] at hi2; cases hi2
          · rw [clash_dst hdi hdj] at hp; cases hp
        rw [look_betweenU hG (i := i + 1) (by omega) hk' hno, hX, hΓ, look_cons, if_pos rfl] at hlk
        cases hlk
        rw [getD_put_self (by rw [hI.sz]; exact hN)]; exact hv'
      · rw [getD_put_ne htd]
        refine φ.mono hle (hI.inv k' hk' t φ hlk (fun j hj hdj => ?_) (fun j hj hjs hdj => ?_))
        · have hji : j ≠ i := fun e => by subst e; rw [hdi] at hdj; cases hdj; exact htd rfl
          have := hlo j hj hdj; rwa [hsame j hji] at this
        · have hji : j ≠ i := fun e => by subst e; rw [hdi] at hdj; cases hdj; exact htd rfl
          have := hhi j hj hjs hdj; rwa [hsame j hji] at this
    · intro j j' x x' h1 h2 h3 h4
      rw [hsame j (hali' _ _ h1)] at h3; rw [hsame j' (hali' _ _ h2)] at h4
      exact hI.inj j j' x x' h1 h2 h3 h4
    · intro j x h1 h2
      rw [hsame j (hali' _ _ h1)] at h2
      have := hI.ap j x h1 h2
      exact ⟨this.1, this.2.1, Nat.lt_of_lt_of_le this.2.2 k.size⟩
    · intro j d' T h1 h2
      rw [hsame j (hali' _ _ h1)] at h2
      obtain ⟨h3, c, L, h4, h5, h6, h7, h8⟩ := hI.cell j d' T h1 h2
      have hne : d ≠ d' := fun e => (hU.al j d' T h1).1 i (fun e' => hali' _ _ h1 e'.symm) (by rw [hdi, e])
      refine ⟨by rw [getD_put_ne hne]; exact h3, c, L, h4, k.view _ _ h5, h6, h7, fun s y ψ' hs1 hs2 hs3 => ?_⟩
      have hsi : s ≠ i := fun e => by
        subst e
        simp only [storeAt, ho, Option.bind_some, storeO, hd] at hs1
        split at hs1
        · rename_i heq; cases heq
        · cases hs1
      rw [hsame s hsi] at hs2
      obtain ⟨v', h9, h10⟩ := h8 s y ψ' hs1 hs2 hs3
      rw [ehb]; exact ⟨v', h9, ψ'.mono hle h10⟩
    · intro t ht
      have htd : d ≠ t := fun e => ht i (by rw [hdi, e])
      rw [getD_put_ne htd]; exact hI.keepS t ht
  | @alloc d T L z by' ty pos af hL hZ hF he hd =>
    have hal : allocAt ops i = some (d, T) := by simp [allocAt, ho, he, allocO]
    have hdi : dstOf ops i = some d := by simp [dstOf, ho, he]
    have hst : storeAt ops i = none := by simp [storeAt, ho, he, storeO]
    obtain ⟨z1, z2, z3⟩ := hF.ok z (fun _ => none) rfl
    have hz := ZeroOf.run (P := P) (T := T) (h := hZ) w
    have hr : (execOp a.eval ops[i]).run P w = .ok (.value (.pointer (some ⟨w.heap.size, 0, none⟩))) (w.alloc (.cells z.cells T)) := by
      rw [he]; simp [execOp, Instr.alloc, Sem.run_bind, hz, newVar, newRow, newObj, Sem.run]
    have hgd : ops[i].guard = none := by rw [he]
    have hdst : ops[i].dst = some d := by rw [he]
    simp only [wpOp, ho, wanted_none hgd, if_true]
    refine .inl ?_
    unfold Oper.wp; rw [hr]
    show ∃ β', InvU P E D M ops G w1 a1 β' (l.setIfInBounds i true) (a.put ops[i].dst (.pointer (some ⟨w.heap.size, 0, none⟩))) (w.alloc (.cells z.cells T))
    rw [hdst]
    have k : Ext w (w.alloc (.cells z.cells T)) := Ext.alloc w _
    have hsz1 : (w.alloc (.cells z.cells T)).heap.size = w.heap.size + 1 := by simp
    refine ⟨fun j => if j = i then w.heap.size else β j, ?_⟩
    have hmem : ∀ b, b ∈ hb ops (l.setIfInBounds i true) (fun j => if j = i then w.heap.size else β j) ↔ b = w.heap.size ∨ b ∈ hb ops l β := by
      intro b
      rw [mem_hb, mem_hb]
      constructor
      · rintro ⟨j, x, h1, h2, h3⟩
        by_cases e : j = i
        · subst e; rw [if_pos rfl] at h3; exact .inl h3.symm
        · rw [if_neg e] at h3; rw [hsame j e] at h2; exact .inr ⟨j, x, h1, h2, h3⟩
      · rintro (rfl | ⟨j, x, h1, h2, h3⟩)
        · exact ⟨i, _, hal, hself, by rw [if_pos rfl]⟩
        · have e : j ≠ i := fun e => by subst e; rw [hi2] at h2; cases h2
          exact ⟨j, x, h1, by rw [hsame j e]; exact h2, by rw [if_neg e]; exact h3⟩
    generalize hO2 : hb ops (l.setIfInBounds i true) (fun j => if j = i then w.heap.size else β j) = O2 at hmem
    have hex := hI.base.ex
    have hle : Hp.le (hv (E.hide (hb ops l β)) M w) (hv (E.hide O2) M (w.alloc (.cells z.cells T))) := by
      intro b x e
      obtain ⟨h1, h2⟩ := hid_some e
      refine hid_of ?_ (k.view _ _ h2)
      have hlt := view_lt h2
      intro hb
      apply h1
      simp only [Env.hide, List.mem_append] at hb ⊢
      rcases hb with (h | h) | h
      · exact .inl (.inl h)
      · rcases (hmem b).1 h with rfl | h
        · omega
        · exact .inl (.inr h)
      · exact .inr h
    have hb1 := hI.base.ext k
    have hali' : ∀ j x, allocAt ops j = some x → j ≠ i → (if j = i then w.heap.size else β j) = β j := fun j x _ e => if_neg e
    refine ⟨?_, by simp [Act.put, hI.sz], hI.df, ?_, ?_, ?_, ?_, hI.keepW.trans k, ?_⟩
    · rw [hO2]
      refine ⟨fun o hoM => o.loc (fun b hb => (view_eq (k.block b (hex b (List.mem_append.2 (.inr (blks_mem hoM hb)))))).symm) hle (hI.base.mem o hoM), hI.base.nd, fun b hb hO => ?_, hI.base.lo, fun b hb => ?_, hb1.fr⟩
      · have hlt := hex b (List.mem_append.2 (.inr hb))
        simp only [Env.hide, List.mem_append] at hO
        rcases hO with h | h
        · exact hI.base.dis b hb (List.mem_append.2 (.inl h))
        · rcases (hmem b).1 h with rfl | h
          · omega
          · exact hI.base.dis b hb (List.mem_append.2 (.inr h))
      · rw [hsz1]
        simp only [Env.hide, List.mem_append] at hb
        rcases hb with (h | h) | h
        · have := hex b (by simp only [Env.hide, List.mem_append]; exact .inl (.inl h)); omega
        · rcases (hmem b).1 h with rfl | h
          · omega
          · have := hex b (by simp only [Env.hide, List.mem_append]; exact .inl (.inr h)); omega
        · have := hex b (by simp only [Env.hide, List.mem_append]; exact .inr h); omega
    · rw [hO2]
      intro k' hk' t φ hlk hlo hhi
      have htd : d ≠ t := fun e => by rw [← e, hfree k' i d T hk' hal] at hlk; cases hlk
      rw [getD_put_ne htd]
      refine φ.mono hle (hI.inv k' hk' t φ hlk (fun j hj hdj => ?_) (fun j hj hjs hdj => ?_))
      · have hji : j ≠ i := fun e => by subst e; rw [hdi] at hdj; cases hdj; exact htd rfl
        have := hlo j hj hdj; rwa [hsame j hji] at this
      · have hji : j ≠ i := fun e => by subst e; rw [hdi] at hdj; cases hdj; exact htd rfl
        have := hhi j hj hjs hdj; rwa [hsame j hji] at this
    · intro j j' x x' h1 h2 h3 h4 h5
      by_cases e : j = i
      · by_cases e' : j' = i
        · rw [e, e']
        · rw [hsame j' e'] at h4
          have := (hI.ap j' x' h2 h4).2.2
          simp only [e, if_true, if_neg e'] at h5; omega
      · rw [hsame j e] at h3
        by_cases e' : j' = i
        · have := (hI.ap j x h1 h3).2.2
          simp only [e', if_true, if_neg e] at h5; omega
        · rw [hsame j' e'] at h4
          simp only [if_neg e, if_neg e'] at h5
          exact hI.inj j j' x x' h1 h2 h3 h4 h5
    · intro j x h1 h2
      by_cases e : j = i
      · simp only [e, if_true]
        refine ⟨fun h => ?_, hI.keepW.size, by omega⟩
        have := hex w.heap.size (by
          simp only [Env.hide, List.mem_append] at h ⊢
          rcases h with h | h
          · exact .inl (.inl h)
          · exact .inr h)
        omega
      · rw [hsame j e] at h2
        have := hI.ap j x h1 h2
        simp only [if_neg e]; exact ⟨this.1, this.2.1, by omega⟩
    · intro j d' T' h1 h2
      by_cases e : j = i
      · subst e
        rw [hal] at h1; cases h1
        refine ⟨by rw [getD_put_self (by rw [hI.sz]; exact hd)]; simp, z.cells, L, hL, by simp only [if_true]; exact view_alloc_self w _ _ _, z1, z2, fun s y ψ' hs1 hs2 hs3 => ?_⟩
        exfalso
        have hsi : s ≠ j := fun e => by subst e; rw [hst] at hs1; cases hs1
        rw [hsame s hsi] at hs2
        obtain ⟨j0, hj0, hp⟩ := (hU.st s _ _ y hs1).1
        have : j0 = j := by
          rcases Nat.decEq j0 j with h | h
          · exact absurd (by simp [dstOf]; exact hdi) ((hU.al j0 _ _ hj0).1 j (fun e => h e.symm))
          · exact h
        subst this
        have := hl.closed s hs2 j0 hp
        rw [this] at hi2; cases hi2
      · rw [hsame j e] at h2
        obtain ⟨h3, c, L', h4, h5, h6, h7, h8⟩ := hI.cell j d' T' h1 h2
        have hne : d ≠ d' := fun e' => (hU.al j d' T' h1).1 i (fun e'' => e e''.symm) (by rw [hdi, e'])
        refine ⟨by rw [getD_put_ne hne, if_neg e]; exact h3, c, L', h4, by rw [if_neg e]; exact k.view _ _ h5, h6, h7, fun s y ψ' hs1 hs2 hs3 => ?_⟩
        have hsi : s ≠ i := fun e => by subst e; rw [hst] at hs1; cases hs1
        rw [hsame s hsi] at hs2
        obtain ⟨v', h9, h10⟩ := h8 s y ψ' hs1 hs2 hs3
        rw [hO2]; exact ⟨v', h9, ψ'.mono hle h10⟩
    · intro t ht
      have htd : d ≠ t := fun e => ht i (by rw [hdi, e])
      rw [getD_put_ne htd]; exact hI.keepS t ht
  | @store ta T L ψ y ty pos af hL hF he hy =>
    have hst : storeAt ops i = some (ta, T, y) := by simp [storeAt, ho, he, storeO]
    have hali : allocAt ops i = none := by simp [allocAt, ho, he, allocO]
    have hdi : dstOf ops i = none := by simp [dstOf, ho, he]
    have ehb := hb_set (β := β) hls hi1 hali
    obtain ⟨j0, hj0, hp0⟩ := (hU.st i ta T y hst).1
    have hlj0 := ready_pred hi hp0
    obtain ⟨h3, c, L', h4, h5, h6, h7, h8⟩ := hI.cell j0 ta T hj0 hlj0
    have := LayOf.unique h4 hL; subst this
    obtain ⟨g1, g2, g3⟩ := hI.ap j0 _ hj0 hlj0
    have hyp : ψ.p (a.eval y) (hv (E.hide (hb ops l β)) M w) := by
      cases y with
      | tmp t => exact hnames t ψ (List.mem_append.2 (.inl (List.mem_filterMap.2 ⟨.tmp t, by rw [he]; simp [Op.operands], rfl⟩))) hy
      | const v => cases hy; rfl
      | global g => cases hy; rfl
      | func f => cases hy; rfl
    obtain ⟨f1, f2, f3⟩ := hF.ok _ _ hyp
    have hgd : ops[i].guard = none := by rw [he]
    have hdst : ops[i].dst = none := by rw [he]
    have hrs := run_storeVar' (P := P) (T := T) (L := L') (h := hL) (o := 0) (v := a.eval y) h5 f1 (by omega) f2
    have hx : a.eval (.tmp ta) = .pointer (some ⟨β j0, 0, none⟩) := h3
    have hr : (execOp a.eval ops[i]).run P w = .ok .skip (w.setRow (β j0) (splice c 0 (a.eval y).cells)) := by
      rw [he]
      simp only [execOp, hx, Instr.storeAt, Instr.sureAddr, Sem.run_bind, Sem.run_pure, Result.andThen_ok, hrs]
    simp only [wpOp, ho, wanted_none hgd, if_true]
    refine .inl ?_
    unfold Oper.wp; rw [hr]
    show ∃ β', InvU P E D M ops G w1 a1 β' (l.setIfInBounds i true) (a.put ops[i].dst undef) (w.setRow (β j0) (splice c 0 (a.eval y).cells))
    rw [hdst]
    show ∃ β', InvU P E D M ops G w1 a1 β' (l.setIfInBounds i true) a (w.setRow (β j0) (splice c 0 (a.eval y).cells))
    generalize hw' : w.setRow (β j0) (splice c 0 (a.eval y).cells) = w'
    have hoth : ∀ b, b ≠ β j0 → w'.heap[b]? = w.heap[b]? := fun b hb => by rw [← hw']; exact setRow_other _ _ _ _ hb
    have hsz1 : w'.heap.size = w.heap.size := by rw [← hw']; exact setRow_size _ _ _
    have hview : view w' (β j0) = some (splice c 0 (a.eval y).cells, T, (0, 0)) := by rw [← hw']; exact view_setRow h5
    have hos : w'.os = w.os ∧ w'.tape = w.tape ∧ w'.output = w.output := by rw [← hw']; exact ⟨rfl, rfl, rfl⟩
    have hhb : β j0 ∈ hb ops l β := mem_hb.2 ⟨j0, _, hj0, hlj0, rfl⟩
    have ehv : hv (E.hide (hb ops l β)) M w' = hv (E.hide (hb ops l β)) M w := by
      funext b
      simp only [hv, hid]
      split
      · rfl
      · rename_i hn
        refine view_eq (hoth b fun e => hn ?_)
        rw [e]; simp only [Env.hide, List.mem_append]; exact .inl (.inr hhb)
    have hali' : ∀ j x, allocAt ops j = some x → j ≠ i := fun j x hj e => by subst e; rw [hali] at hj; cases hj
    refine ⟨β, ?_, hI.sz, hI.df, ?_, ?_, ?_, ?_, ?_, fun t ht => hI.keepS t ht⟩
    · rw [ehb]
      refine ⟨fun o hoM => ?_, hI.base.nd, hI.base.dis, hI.base.lo, fun b hb => by rw [hsz1]; exact hI.base.ex b hb, ?_⟩
      · have e' : hid ((E.hide (hb ops l β)).O ++ blks M) (view w') = hv (E.hide (hb ops l β)) M w := ehv
        rw [e']
        refine o.loc (fun b hb => (view_eq (hoth b fun e => ?_)).symm) (Hp.le_refl _) (hI.base.mem o hoM)
        exact g1 (List.mem_append.2 (.inr (e ▸ blks_mem hoM hb)))
      · have hf := hI.base.fr
        refine ⟨hos.1.trans hf.os, hos.2.1.trans hf.tape, hos.2.2.trans hf.output, by rw [hsz1]; exact hf.size, fun b hb hn => ?_⟩
        rw [hoth b (fun e => by have hb : b < E.w0.heap.size := hb; omega)]; exact hf.block b hb hn
    · rw [ehb]
      intro k' hk' t φ hlk hlo hhi
      rw [ehv]
      refine hI.inv k' hk' t φ hlk (fun j hj hdj => ?_) (fun j hj hjs hdj => ?_)
      · have hji : j ≠ i := fun e => by subst e; rw [hdi] at hdj; cases hdj
        have := hlo j hj hdj; rwa [hsame j hji] at this
      · have hji : j ≠ i := fun e => by subst e; rw [hdi] at hdj; cases hdj
        have := hhi j hj hjs hdj; rwa [hsame j hji] at this
    · intro j j' x x' h1 h2 h3 h4
      rw [hsame j (hali' _ _ h1)] at h3; rw [hsame j' (hali' _ _ h2)] at h4
      exact hI.inj j j' x x' h1 h2 h3 h4
    · intro j x h1 h2
      rw [hsame j (hali' _ _ h1)] at h2
      have := hI.ap j x h1 h2
      exact ⟨this.1, this.2.1, by omega⟩
    · intro j d' T' h1 h2
      rw [hsame j (hali' _ _ h1)] at h2
      rw [ehb]
      by_cases e : j = j0
      · subst e
        rw [hj0] at h1; cases h1
        refine ⟨h3, splice c 0 (a.eval y).cells, L', h4, hview, by rw [splice_size (by omega)]; exact h6, splice_all h7 f2, fun s y' ψ' hs1 hs2 hs3 => ?_⟩
        by_cases e : s = i
        · subst e
          rw [hst] at hs1; cases hs1
          rw [hy] at hs3; cases hs3
          rw [ehv]
          exact ⟨a.eval y, valAt_splice (by omega) f1 f3, hyp⟩
        · exfalso
          rcases Nat.lt_or_gt_of_ne e with h | h
          · exact (hU.st i ta T y hst).2 s T y' h hs1
          · exact (hU.st s ta T y' hs1).2 i T y h hst
      · obtain ⟨k3, c', L'', k4, k5, k6, k7, k8⟩ := hI.cell j d' T' h1 h2
        have hne : β j ≠ β j0 := fun e' => e (hI.inj j j0 _ _ h1 hj0 h2 hlj0 e')
        refine ⟨k3, c', L'', k4, by rw [view_eq (hoth _ hne)]; exact k5, k6, k7, fun s y' ψ' hs1 hs2 hs3 => ?_⟩
        have hsi : s ≠ i := fun e' => by
          subst e'
          rw [hst] at hs1; cases hs1
          exact e (by
            rcases Nat.decEq j j0 with h | h
            · have hdj : dstOf ops j0 = some ta := by
                unfold allocAt at hj0; unfold dstOf
                cases hx : ops[j0]? with
                | none => rw [hx] at hj0; cases hj0
                | some o0 =>
                  rw [hx] at hj0
                  simp only [Option.bind_some, allocO] at hj0 ⊢
                  split at hj0
                  · rename_i h9 h10; cases hj0; exact h10
                  · cases hj0
              exact absurd hdj ((hU.al j _ _ h1).1 j0 (fun e => h e.symm))
            · exact h)
        rw [hsame s hsi] at hs2
        obtain ⟨v', h9, h10⟩ := k8 s y' ψ' hs1 hs2 hs3
        rw [ehv]; exact ⟨v', h9, h10⟩
    · have hk := hI.keepW
      exact ⟨hos.1.trans hk.os, hos.2.1.trans hk.tape, hos.2.2.trans hk.output, by rw [hsz1]; exact hk.size, fun b hb => by rw [hoth b (by omega)]; exact hk.block b hb⟩

theorem hide_nil (E : Env) : E.hide [] = E := by cases E; simp [Env.hide]
theorem alloc_dst {j : Nat} {d : Tmp} {T : TypeId} (h : allocAt ops j = some (d, T)) : dstOf ops j = some d := by
  unfold allocAt at h; unfold dstOf
  cases hx : ops[j]? with
  | none => rw [hx] at h; cases h
  | some o0 =>
    rw [hx] at h
    simp only [Option.bind_some, allocO] at h ⊢
    split at h
    · rename_i h9 h10; cases h; exact h10
    · cases h
theorem alloc_uniq (hU : OkU ops) {j j' : Nat} {d : Tmp} {T T' : TypeId} (h : allocAt ops j = some (d, T)) (h' : allocAt ops j' = some (d, T')) : j = j' := by
  rcases Nat.decEq j j' with e | e
  · exact absurd (alloc_dst h') ((hU.al j _ _ h).1 j' (fun e' => e e'.symm))
  · exact e

theorem cells_of (hU : OkU ops) {M : Mem} {G : Nat → Ctx} {CC : Nat → List Cell} (hG : ∀ j o, ops[j]? = some o → OpU P E M ops (G j) o (CC j) (G (j + 1)) (CC (j + 1))) (h0 : CC 0 = []) : ∀ k, k ≤ ops.size →
    (∀ c ∈ CC k, ∃ s y, s < k ∧ storeAt ops s = some (c.ta, c.T, y) ∧ evalT (G s) y = some c.ψ ∧ LayOf P c.T c.L) ∧
    (∀ s t T y, s < k → storeAt ops s = some (t, T, y) → ∃ c ∈ CC k, c.ta = t) ∧ ((CC k).map (·.ta)).Nodup := by
  intro k
  induction k with
  | zero => intro _; rw [h0]; exact ⟨fun c hc => (by cases hc), fun s t T y h => absurd h (Nat.not_lt_zero _), by simp⟩
  | succ k ih =>
    intro hk
    obtain ⟨i1, i2, i3⟩ := ih (by omega)
    have ho : ops[k]? = some ops[k] := by simp [show k < ops.size by omega]
    generalize hX : G (k + 1) = X
    generalize hY : CC (k + 1) = Y
    have hop := hG k _ ho
    rw [hX, hY] at hop
    have keep : storeAt ops k = none → Y = CC k → (∀ c ∈ Y, ∃ s y, s < k + 1 ∧ storeAt ops s = some (c.ta, c.T, y) ∧ evalT (G s) y = some c.ψ ∧ LayOf P c.T c.L) ∧
        (∀ s t T y, s < k + 1 → storeAt ops s = some (t, T, y) → ∃ c ∈ Y, c.ta = t) ∧ (Y.map (·.ta)).Nodup := by
      intro hn e
      rw [e]
      refine ⟨fun c hc => let ⟨s, y, h1, h2⟩ := i1 c hc; ⟨s, y, by omega, h2⟩, fun s t T y hs hst => i2 s t T y ?_ hst, i3⟩
      rcases Nat.lt_or_ge s k with h | h
      · exact h
      · have : s = k := by omega
        subst this; rw [hn] at hst; cases hst
    cases hop with
    | pure hal hs =>
      obtain ⟨d, ψ, hd, _, _, _⟩ := (hs []).run ho
      refine keep ?_ rfl
      simp only [storeAt, ho, Option.bind_some, storeO, hd]
      split
      · rename_i heq; cases heq
      · rfl
    | alloc hL hZ hF he hd => exact keep (by simp [storeAt, ho, he, storeO]) rfl
    | @store ta T L ψ y ty pos af hL hF he hy =>
      have hst : storeAt ops k = some (ta, T, y) := by simp [storeAt, ho, he, storeO]
      refine ⟨fun c hc => ?_, fun s t T' y' hs hst' => ?_, ?_⟩
      · rcases List.mem_cons.1 hc with rfl | hc
        · exact ⟨k, y, by omega, hst, hy, hL⟩
        · obtain ⟨s, y', h1, h2⟩ := i1 c hc; exact ⟨s, y', by omega, h2⟩
      · rcases Nat.lt_or_ge s k with h | h
        · obtain ⟨c, h1, h2⟩ := i2 s t T' y' h hst'; exact ⟨c, List.mem_cons_of_mem _ h1, h2⟩
        · have : s = k := by omega
          subst this; rw [hst] at hst'; cases hst'; exact ⟨_, List.mem_cons_self, rfl⟩
      · rw [List.map_cons, List.nodup_cons]
        refine ⟨fun hm => ?_, i3⟩
        obtain ⟨c, hc, hct⟩ := List.mem_map.1 hm
        obtain ⟨s, y', h1, h2, _⟩ := i1 c hc
        rw [hct] at h2
        by_cases eT : c.T = T
        · rw [eT] at h2; exact (hU.st k ta T y hst).2 s T y' h1 h2
        · exact (hU.st k ta T y hst).2 s c.T y' h1 h2

theorem look_app (A B : Ctx) (t : Nat) : look (A ++ B) t = (look A t).or (look B t) := by
  induction A with
  | nil => rfl
  | cons p A ih =>
    obtain ⟨k, v⟩ := p
    rw [List.cons_append, look_cons, look_cons, ih]
    split <;> rfl
def ptrG (γ : Nat → Nat) (C : List Cell) : Ctx := C.map fun c => (c.ta, one (.pointer (some ⟨γ c.ta, 0, none⟩)))
def boxM (γ : Nat → Nat) (C : List Cell) : Mem := C.map fun c => boxO (γ c.ta) c.T c.L.sz [(0, c.L, c.ψ)]
theorem blks_boxM (γ : Nat → Nat) (C : List Cell) : blks (boxM γ C) = C.map fun c => γ c.ta := by
  induction C with
  | nil => rfl
  | cons c C ih => show (γ c.ta) :: _ = _; rw [List.map_cons]; congr 1
theorem look_ptrG {γ : Nat → Nat} {C : List Cell} {t : Nat} {φ : VT} (h : look (ptrG γ C) t = some φ) : ∃ c ∈ C, c.ta = t ∧ φ = one (.pointer (some ⟨γ t, 0, none⟩)) := by
  induction C with
  | nil => cases h
  | cons c C ih =>
    rw [ptrG, List.map_cons, look_cons] at h
    split at h
    · rename_i e; cases h; exact ⟨c, List.mem_cons_self, e, by rw [e]⟩
    · obtain ⟨c', h1, h2⟩ := ih h; exact ⟨c', List.mem_cons_of_mem _ h1, h2⟩

theorem InvU.fin {D : List Deferred} {M : Mem} {G : Nat → Ctx} {CC : Nat → List Cell} (hU : OkU ops) (hG : ∀ j o, ops[j]? = some o → OpU P E M ops (G j) o (CC j) (G (j + 1)) (CC (j + 1))) (h0 : CC 0 = [])
    {w1 : World} (hw1 : E.w0.heap.size ≤ w1.heap.size) {a1 : Act} {β : Nat → Nat} {l : Array Bool} {a : Act} {w : World} (hI : InvU P E D M ops G w1 a1 β l a w) (hall : ∀ j, j < ops.size → l.getD j false = true) :
    ∃ γ : Nat → Nat, St E D (ptrG γ (CC ops.size) ++ G ops.size) (boxM γ (CC ops.size) ++ M) a w := by
  obtain ⟨c1, c2, c3⟩ := cells_of hU hG h0 ops.size (Nat.le_refl _)
  obtain ⟨γ, hγ⟩ : ∃ γ : Nat → Nat, ∀ j d T, allocAt ops j = some (d, T) → γ d = β j := by
    classical
    refine ⟨fun t => if h : ∃ j T, allocAt ops j = some (t, T) then β h.choose else 0, fun j d T hj => ?_⟩
    have h : ∃ j T, allocAt ops j = some (d, T) := ⟨j, T, hj⟩
    simp only [dif_pos h]
    obtain ⟨T', h'⟩ := h.choose_spec
    rw [alloc_uniq hU h' hj]
  generalize CC ops.size = C at c1 c2 c3
  have cell : ∀ c ∈ C, ∃ j, allocAt ops j = some (c.ta, c.T) ∧ γ c.ta = β j ∧ l.getD j false = true := fun c hc => by
    obtain ⟨s, y, h1, h2, _⟩ := c1 c hc
    obtain ⟨j, hj, _⟩ := (hU.st s _ _ _ h2).1
    exact ⟨j, hj, hγ j _ _ hj, hall j (lt_of_allocAt hj)⟩
  have hmem : ∀ b, b ∈ hb ops l β ↔ b ∈ blks (boxM γ C) := by
    intro b
    rw [mem_hb, blks_boxM, List.mem_map]
    constructor
    · rintro ⟨j, ⟨d, T⟩, h1, h2, h3⟩
      obtain ⟨s, y, hs⟩ := (hU.al j d T h1).2
      obtain ⟨c, h4, h5⟩ := c2 s d T y (lt_of_storeAt hs) hs
      exact ⟨c, h4, by rw [h5, hγ j d T h1, h3]⟩
    · rintro ⟨c, hc, rfl⟩
      obtain ⟨j, h1, h2, h3⟩ := cell c hc
      exact ⟨j, _, h1, h3, h2.symm⟩
  have hset : ∀ b, b ∈ (E.hide (hb ops l β)).O ++ blks M ↔ b ∈ E.O ++ blks (boxM γ C ++ M) := by
    intro b
    simp only [Env.hide, blks_app, List.mem_append, hmem b]
    constructor
    · rintro ((h | h) | h)
      · exact .inl h
      · exact .inr (.inl h)
      · exact .inr (.inr h)
    · rintro (h | h | h)
      · exact .inl (.inl h)
      · exact .inl (.inr h)
      · exact .inr h
  have ehv : hv (E.hide (hb ops l β)) M w = hv E (boxM γ C ++ M) w := hid_congr hset _
  have hB := hI.base
  refine ⟨γ, ⟨⟨?_, ?_, ?_, ?_, fun b hb => hB.ex b ((hset b).2 hb), hB.fr⟩, hI.sz, hI.df, ?_⟩⟩
  · intro o ho
    show o.p (view w) (hv E (boxM γ C ++ M) w)
    rw [← ehv]
    rcases List.mem_append.1 ho with ho | ho
    · obtain ⟨c, hc, rfl⟩ := List.mem_map.1 ho
      obtain ⟨s, y, h1, h2, h3, hL⟩ := c1 c hc
      obtain ⟨j, hj1, hj2, hj3⟩ := cell c hc
      obtain ⟨_, cc, L', k1, k2, k3, k4, k5⟩ := hI.cell j _ _ hj1 hj3
      have := LayOf.unique k1 hL; subst this
      obtain ⟨v, k6, k7⟩ := k5 s y _ h2 (hall s (lt_of_storeAt h2)) h3
      refine ⟨cc, by rw [hj2]; exact k2, k3, k4, fun q hq => ?_⟩
      have hq := List.mem_singleton.1 hq
      subst hq
      exact ⟨v, k6, k7⟩
    · exact hB.mem o ho
  · rw [blks_app, blks_boxM, List.nodup_append]
    refine ⟨?_, hB.nd, fun x hx y hy e => ?_⟩
    · have hinj : ∀ c ∈ C, ∀ c' ∈ C, γ c.ta = γ c'.ta → c.ta = c'.ta := fun c hc c' hc' e => by
        obtain ⟨j, h1, h2, h3⟩ := cell c hc
        obtain ⟨j', h1', h2', h3'⟩ := cell c' hc'
        have := hI.inj j j' _ _ h1 h1' h3 h3' (by rw [← h2, ← h2', e])
        subst this
        exact congrArg Prod.fst (Option.some.inj (h1.symm.trans h1'))
      clear c1 c2 hmem hset ehv cell
      induction C with
      | nil => simp
      | cons c C ih =>
        rw [List.map_cons, List.nodup_cons] at c3 ⊢
        refine ⟨fun hm => ?_, ih c3.2 (fun a ha b hb => hinj a (List.mem_cons_of_mem _ ha) b (List.mem_cons_of_mem _ hb))⟩
        obtain ⟨c', hc', e⟩ := List.mem_map.1 hm
        have := hinj c' (List.mem_cons_of_mem _ hc') c List.mem_cons_self e
        exact c3.1 (List.mem_map.2 ⟨c', hc', this⟩)
    · obtain ⟨c, hc, rfl⟩ := List.mem_map.1 hx
      obtain ⟨j, h1, h2, h3⟩ := cell c hc
      have := (hI.ap j _ h1 h3).1
      rw [← h2, e] at this
      exact this (List.mem_append.2 (.inr hy))
  · intro b hb
    rw [blks_app] at hb
    rcases List.mem_append.1 hb with h | h
    · obtain ⟨j, x, h1, h2, h3⟩ := mem_hb.1 ((hmem b).2 h)
      have := (hI.ap j x h1 h2).1
      rw [h3] at this
      exact fun hO => this (List.mem_append.2 (.inl hO))
    · exact fun hO => hB.dis b h (List.mem_append.2 (.inl hO))
  · intro b hb
    rw [blks_app] at hb
    rcases List.mem_append.1 hb with h | h
    · obtain ⟨j, x, h1, h2, h3⟩ := mem_hb.1 ((hmem b).2 h)
      have := (hI.ap j x h1 h2).2.1
      rw [h3] at this
      exact .inl (by omega)
    · exact hB.lo b h
  · intro t φ ht
    rw [look_app] at ht
    cases hl : look (ptrG γ C) t with
    | some φ' =>
      rw [hl] at ht
      simp only [Option.or] at ht
      cases ht
      obtain ⟨c, hc, hct, rfl⟩ := look_ptrG hl
      obtain ⟨j, h1, h2, h3⟩ := cell c hc
      have h4 := (hI.cell j _ _ h1 h3).1
      show a.tmps.getD t undef = _
      rw [← hct, h4, h2]
    | none =>
      rw [hl] at ht
      simp only [Option.or] at ht
      show φ.p _ (hv E (boxM γ C ++ M) w)
      rw [← ehv]
      exact hI.inv ops.size (Nat.le_refl _) t φ ht (fun j hj _ => hall j hj) (fun j h1 h2 => by omega)

/-- A region in any order, with variables that are made and laid in it. -/
theorem J_regU {D : List Deferred} {Γ : Ctx} {M : Mem} {id : Nat} {Q : Exit → Act → World → Prop} (hm : P.follows .mixedOrders = true) (hok : okU ops = true)
    (hfree : ((List.range ops.size).all fun j => match allocAt ops j with | some (d, _) => (look Γ d).isNone | none => true) = true)
    (h : RunU P E M ops 0 Γ [] ops.toList (fun Γ' C => ∀ γ : Nat → Nat, PJ E D (ptrG γ C ++ Γ') (boxM γ C ++ M) .normal Q)) : J P E D Γ M (.region id ops true) Q := by
  intro a w hS
  have hU := okU_ok hok
  refine wp_region_any hm ?_
  have k : Ext w { w with drawn := w.drawn + 1 } := ⟨rfl, rfl, rfl, Nat.le_refl _, fun _ _ => rfl⟩
  obtain ⟨G, CC, hG0, hC0, hK, hG'⟩ := h.chain
  have hG : ∀ j o, ops[j]? = some o → OpU P E M ops (G j) o (CC j) (G (j + 1)) (CC (j + 1)) := fun j o ho => by
    have := hG' j o (by simpa using ho)
    simpa using this
  have hlen : ops.toList.length = ops.size := by simp
  rw [hlen, Nat.zero_add] at hK
  have hfr : ∀ kk j d T, kk ≤ ops.size → allocAt ops j = some (d, T) → look (G kk) d = none := by
    intro kk j d T
    induction kk with
    | zero =>
      intro _ hj
      rw [hG0]
      have := List.all_eq_true.1 hfree j (List.mem_range.2 (lt_of_allocAt hj))
      rw [hj] at this
      simpa using this
    | succ kk ih =>
      intro hk hj
      have ho : ops[kk]? = some ops[kk] := by simp [show kk < ops.size by omega]
      have hprev := ih (by omega) hj
      by_cases e : kk = j
      · subst e
        generalize hX : G (kk + 1) = X
        generalize hY : CC (kk + 1) = Y
        have hop := hG kk _ ho
        rw [hX, hY] at hop
        cases hop with
        | pure hal _ => simp [allocAt, ho, hal] at hj
        | alloc hL hZ hF he hd => exact hprev
        | store hL hF he hy => exact hprev
      · rw [look_stepU hG ho ((hU.al j d T hj).1 kk e)]; exact hprev
  have hl0 : ∀ j, (Array.replicate ops.size false).getD j false = false := fun j => by
    simp [Array.getD_eq_getD_getElem?, Array.getElem?_replicate]; split <;> rfl
  have hhb : hb ops (Array.replicate ops.size false) (fun _ => 0) = [] := by
    rw [List.eq_nil_iff_forall_not_mem]
    intro b hb'
    obtain ⟨j, x, _, h2, _⟩ := mem_hb.1 hb'
    rw [hl0] at h2; cases h2
  refine wpAny_inv (n := ops.size) hU.any (fun l a' w' => ∃ β, InvU P E D M ops G { w with drawn := w.drawn + 1 } a β l a' w') ?_ ?_ ops.size _ a _ ⟨by simp, fun j hj => ?_⟩ ?_ ⟨fun _ => 0, ?_⟩
  · rintro l a' w' ⟨β, hI⟩ hall
    obtain ⟨γ, hS'⟩ := hI.fin hU hG hC0 (by exact hS.base.fr.size) hall
    exact hK γ a' w' hS'
  · rintro l a' w' i ⟨β, hI⟩ hl hi1 hi2 hi
    exact stepU hU hG hfr (by exact hS.base.fr.size) hI hl hi1 hi2 hi
  · rw [hl0] at hj; cases hj
  · unfold left; refine Nat.le_trans (List.length_filter_le _ _) (by simp)
  · refine ⟨by rw [hhb, hide_nil]; exact hS.base.ext k, hS.sz, hS.df, ?_, ?_, ?_, ?_, Ext.refl _, fun t _ => rfl⟩
    · rw [hhb, hide_nil]
      intro k' hk' t φ hlk hlo _
      have hno : ∀ j, 0 ≤ j → j < k' → dstOf ops j ≠ some t := by
        intro j _ hj hd
        have := hlo j hj hd
        rw [hl0] at this; cases this
      rw [look_betweenU hG (Nat.zero_le _) hk' hno, hG0] at hlk
      exact φ.mono (Base.hv_ext k) (hS.tm t φ hlk)
    · intro j j' x x' _ _ h3 _; rw [hl0] at h3; cases h3
    · intro j x _ h3; rw [hl0] at h3; cases h3
    · intro j d T _ h3; rw [hl0] at h3; cases h3
end
end Tor
