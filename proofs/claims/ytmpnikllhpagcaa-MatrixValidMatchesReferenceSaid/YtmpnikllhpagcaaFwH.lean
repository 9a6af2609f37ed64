/-
  Regions in any order: the operations behind the first n may be ordered by a chain of edges.
  No condition: general theorems over any program.
-/
import Derived.Test.YtmpnikllhpagcaaFw2
set_option linter.unusedVariables false
set_option linter.unusedSimpArgs false
namespace Tor
open Go Go.RowKit

section
variable {P : Program} {E : Env} {ops : Array Oper}
def predN : Nat → Array Oper → Nat → Nat → Bool
  | 0, _, _, _ => false
  | f + 1, ops, i, j => predB ops i j || (List.range ops.size).any fun k => predB ops k j && predN f ops i k
def okAnyT (n : Nat) (ops : Array Oper) : Bool :=
  decide (n ≤ ops.size) &&
  ((List.range ops.size).all fun j =>
    (match ops[j]? with | some o => o.after.all (fun e => !Region.binds .any e || decide (e.on < j)) | none => true) &&
    ((List.range j).all fun i => predN 6 ops i j || (decide (j < n) && !clash ops i j)))

theorem okAny_preT {n : Nat} (h : okAnyT n ops = true) {i j : Nat} (hij : i < j) (hj : j < ops.size) : predN 6 ops i j = true ∨ (j < n ∧ clash ops i j = false) := by
  simp only [okAnyT, Bool.and_eq_true, List.all_eq_true, List.mem_range] at h
  have := (h.2 j hj).2 i hij
  simpa using this
theorem okAny_onT {n : Nat} (h : okAnyT n ops = true) {j : Nat} {o : Oper} (ho : ops[j]? = some o) {e : Edge} (he : e ∈ o.after) (hb : Region.binds .any e = true) : e.on < j := by
  simp only [okAnyT, Bool.and_eq_true, List.all_eq_true, List.mem_range] at h
  have hj : j < ops.size := by
    rcases Nat.lt_or_ge j ops.size with h | h
    · exact h
    · rw [Array.getElem?_eq_none h] at ho; cases ho
  have := (h.2 j hj).1
  rw [ho] at this
  simp only [Array.all_eq_true'] at this
  have := this e he
  simpa [hb] using this

theorem clsT {l : Array Bool} (hl : Lst ops l) : ∀ (f j : Nat), l.getD j false = true → ∀ i, predN f ops i j = true → l.getD i false = true
  | 0, j, _, i, h => by cases h
  | f + 1, j, hj, i, h => by
    simp only [predN, Bool.or_eq_true, List.any_eq_true, Bool.and_eq_true] at h
    rcases h with h | ⟨k, _, h1, h2⟩
    · exact hl.closed j hj i h
    · exact clsT hl f k (hl.closed j hj k h1) i h2
theorem rdyT {l : Array Bool} (hl : Lst ops l) {f j i : Nat} (hj : j ∈ Region.ready .any ops l) (h : predN f ops i j = true) : l.getD i false = true := by
  cases f with
  | zero => cases h
  | succ f =>
    simp only [predN, Bool.or_eq_true, List.any_eq_true, Bool.and_eq_true] at h
    rcases h with h | ⟨k, _, h1, h2⟩
    · exact ready_pred hj h
    · exact clsT hl f k (ready_pred hj h1) i h2
theorem ready_neT {n : Nat} (hok : okAnyT n ops = true) {l : Array Bool} (hs : l.size = ops.size) {j : Nat} (hj : j < ops.size) (hl : l.getD j false = false) : ∃ i, i ∈ Region.ready .any ops l := by
  induction j using Nat.strongRecOn with
  | _ j ih =>
    by_cases h : j ∈ Region.ready .any ops l
    · exact ⟨j, h⟩
    · have ho : ops[j]? = some ops[j] := by simp [hj]
      rw [mem_ready] at h
      have h1 : l.getD j true = false := by rw [getD_tf (by omega) true false]; exact hl
      have h2 : ¬ ∀ e ∈ ops[j].after, Region.binds .any e = true → l.getD e.on false = true := fun hall => h ⟨h1, _, ho, hall⟩
      obtain ⟨e, h2⟩ := Classical.not_forall.1 h2
      obtain ⟨he, h2⟩ := Classical.not_imp.1 h2
      obtain ⟨hb, h2⟩ := Classical.not_imp.1 h2
      have hlt := okAny_onT hok ho he hb
      exact ih e.on hlt (by omega) (by simpa using h2)

theorem wpAny_runT {n : Nat} (hok : okAnyT n ops = true) {G : Nat → Ctx} {M : Mem} {D : List Deferred} (hG : ∀ j o, j < n → ops[j]? = some o → StepG P E (G j) M ops o (G (j + 1)))
    {Q : Exit → Act → World → Prop} (htail : ∀ a w, St E D (G n) M a w → wpOps P ops Q (List.range' n (ops.size - n)) a w) :
    ∀ (fuel : Nat) (l : Array Bool) (a : Act) (w : World), Lst ops l → left ops l ≤ fuel → Base E M w → a.tmps.size = E.N → a.defers = D → Inv E ops n G M l a w →
      (∃ i, i < n ∧ l.getD i false = false) → wpAny P .any ops Q fuel l a w := by
  have hn : n ≤ ops.size := by simp only [okAnyT, Bool.and_eq_true] at hok; exact of_decide_eq_true hok.1
  -- the tail, once the head is done
  have tail : ∀ (m : Nat) (fuel : Nat) (l : Array Bool) (k : Nat) (a : Act) (w : World), k + m = ops.size → n ≤ k → Lst ops l → (∀ j, j < ops.size → (l.getD j false = true ↔ j < k)) → m ≤ fuel →
      wpOps P ops Q (List.range' k m) a w → wpAny P .any ops Q fuel l a w := by
    intro m
    induction m with
    | zero =>
      intro fuel l k a w hkm hnk hl hiff _ h
      have hr : Region.ready .any ops l = [] := by
        rw [List.eq_nil_iff_forall_not_mem]
        intro j hj
        have h1 := ready_lt hj
        have h2 := (mem_ready.1 hj).1
        have h3 := (hiff j h1).2 (by omega)
        rw [getD_tf (by have := hl.size; omega) true false, h3] at h2; cases h2
      have hq : Q .normal a w := by simpa [wpOps] using h
      cases fuel with
      | zero => exact ⟨hr, hq⟩
      | succ f => exact ⟨fun _ => hq, fun i hi => by rw [hr] at hi; cases hi⟩
    | succ m ih =>
      intro fuel l k a w hkm hnk hl hiff hf h
      obtain ⟨f, rfl⟩ : ∃ f, fuel = f + 1 := ⟨fuel - 1, by omega⟩
      have hsz := hl.size
      have hkl : l.getD k false = false := by
        rw [← Bool.not_eq_true]; intro h'; have := (hiff k (by omega)).1 h'; omega
      refine ⟨fun hr => ?_, fun i hi => ?_⟩
      · obtain ⟨i, hi⟩ := ready_neT hok hsz (j := k) (by omega) hkl
        rw [hr] at hi; cases hi
      · have hi1 := ready_lt hi
        have hi2 := (mem_ready.1 hi).1
        rw [getD_tf (by omega) true false] at hi2
        have hik : k ≤ i := by
          rcases Nat.lt_or_ge i k with h' | h'
          · rw [(hiff i hi1).2 h'] at hi2; cases hi2
          · exact h'
        have : i = k := by
          rcases Nat.lt_or_ge k i with h' | h'
          · rcases okAny_preT hok h' hi1 with hp | ⟨hp, _⟩
            · have := rdyT hl hi hp; rw [this] at hkl; cases hkl
            · omega
          · omega
        subst this
        rw [List.range'_succ, wpOps_cons] at h
        refine wpOp_mono (fun a' w' h' => ?_) h
        refine ih f _ (i + 1) a' w' (by omega) (by omega) ⟨by simpa using hsz, ?_⟩ ?_ (by omega) h'
        · intro j hj i' hp
          rw [getD_set (by omega)] at hj ⊢
          split
          · rfl
          · split at hj
            · rename_i h1; subst h1; exact ready_pred hi hp
            · exact hl.closed j hj i' hp
        · intro j hj
          rw [getD_set (by omega)]
          split
          · rename_i h1; subst h1; simp
          · rename_i h1; rw [hiff j hj]; omega
  intro fuel
  induction fuel with
  | zero =>
    intro l a w hl hleft _ _ _ _ ⟨i, hi, hil⟩
    have := left_set (ops := ops) hl.size (i := i) (by omega) hil
    omega
  | succ fuel ih =>
    intro l a w hl hleft hbase hsz hdf hinv ⟨i0, hi0, hil0⟩
    have hls := hl.size
    refine ⟨fun hr => ?_, fun i hi => ?_⟩
    · obtain ⟨i, hi⟩ := ready_neT hok hls (j := i0) (by omega) hil0
      rw [hr] at hi; cases hi
    · have hi1 := ready_lt hi
      have hi2 : l.getD i false = false := by
        have := (mem_ready.1 hi).1
        rw [getD_tf (by omega) true false] at this; exact this
      have hin : i < n := by
        rcases Nat.lt_or_ge i n with h' | h'
        · exact h'
        · rcases okAny_preT hok (i := i0) (j := i) (by omega) hi1 with hp | ⟨hp, _⟩
          · have := rdyT hl hi hp; rw [this] at hil0; cases hil0
          · omega
      have ho : ops[i]? = some ops[i] := by simp [hi1]
      obtain ⟨d, ψ, hd, hN, hΓ, hrun⟩ := (hG i _ hin ho).run ho
      have hdi : dstOf ops i = some d := by simp [dstOf, ho, hd]
      refine hrun a w hbase (fun t φ ht hlk => ?_) _ Q fun v w' k hv' => ?_
      · refine hinv i (by omega) t φ hlk (fun j hj hdj => ?_) (fun j hj hjs hdj => ?_)
        · rcases okAny_preT hok hj hi1 with hp | ⟨_, hp⟩
          · exact rdyT hl hi hp
          · rw [clash_name hdj (by simpa [namesOf, ho] using ht)] at hp; cases hp
        · rcases Nat.lt_or_ge i j with h' | h'
          · rw [← Bool.not_eq_true]; intro hlj
            rcases okAny_preT hok h' hjs with hp | ⟨_, hp⟩
            · have := clsT hl _ j hlj i hp; rw [this] at hi2; cases hi2
            · rw [clash_name' hdj (by simpa [namesOf, ho] using ht)] at hp; cases hp
          · have : j = i := by omega
            subst this; exact hi2
      · have hl' : Lst ops (l.setIfInBounds i true) := by
          refine ⟨by simpa using hls, fun j hj i' hp => ?_⟩
          rw [getD_set (by omega)] at hj ⊢
          split
          · rfl
          · split at hj
            · rename_i h1; subst h1; exact ready_pred hi hp
            · exact hl.closed j hj i' hp
        have hbase' := hbase.ext k
        have hsz' : (a.put (some d) v).tmps.size = E.N := by simp [Act.put, hsz]
        have hinv' : Inv E ops n G M (l.setIfInBounds i true) (a.put (some d) v) w' := by
          intro k' hk' t φ hlk hlo hhi
          by_cases htd : d = t
          · subst htd
            have hik : i < k' := by
              rcases Nat.lt_or_ge i k' with h' | h'
              · exact h'
              · have := hhi i h' hi1 hdi; rw [getD_set (by omega)] at this; simp at this
            have hno : ∀ j, i + 1 ≤ j → j < k' → dstOf ops j ≠ some d := by
              intro j h1 h2 hdj
              have h3 := hlo j h2 hdj
              rw [getD_set (by omega), if_neg (by omega)] at h3
              rcases okAny_preT hok (i := i) (j := j) (by omega) (by omega) with hp | ⟨_, hp⟩
              · have := clsT hl _ j h3 i hp; rw [this] at hi2; cases hi2
              · rw [clash_dst hdi hdj] at hp; cases hp
            rw [look_between hG hn (i := i + 1) (by omega) hk' hno, hΓ, look_cons, if_pos rfl] at hlk
            cases hlk
            rw [getD_put_self (by rw [hsz]; exact hN)]; exact hv'
          · rw [getD_put_ne htd]
            refine φ.mono (Base.hv_ext k) (hinv k' hk' t φ hlk (fun j hj hdj => ?_) (fun j hj hjs hdj => ?_))
            · have := hlo j hj hdj; rw [getD_set (by omega)] at this
              split at this
              · rename_i h1; subst h1; rw [hdi] at hdj; cases hdj; exact absurd rfl htd
              · exact this
            · have := hhi j hj hjs hdj; rw [getD_set (by omega)] at this
              split at this
              · cases this
              · exact this
        have hleft' := left_set (ops := ops) hls hi1 hi2
        by_cases hmore : ∃ i', i' < n ∧ (l.setIfInBounds i true).getD i' false = false
        · exact ih _ _ _ hl' (by omega) hbase' hsz' hdf hinv' hmore
        · have hall : ∀ j, j < n → (l.setIfInBounds i true).getD j false = true := by
            intro j hj; rw [← Bool.not_eq_false]; intro h; exact hmore ⟨j, hj, h⟩
          have hlate : ∀ j, n ≤ j → j < ops.size → (l.setIfInBounds i true).getD j false = false := by
            intro j hj hjs
            rw [getD_set (by omega), if_neg (by omega), ← Bool.not_eq_true]
            intro hlj
            rcases okAny_preT hok (i := i) (j := j) (by omega) hjs with hp | ⟨hp, _⟩
            · have := clsT hl _ j hlj i hp; rw [this] at hi2; cases hi2
            · omega
          have hSt : St E D (G n) M (a.put (some d) v) w' :=
            ⟨hbase', hsz', hdf, fun t φ hlk => hinv' n (Nat.le_refl _) t φ hlk (fun j hj _ => hall j hj) (fun j hj hjs _ => hlate j hj hjs)⟩
          refine tail (ops.size - n) fuel _ n _ w' (by omega) (Nat.le_refl _) hl' (fun j hj => ?_) ?_ (htail _ _ hSt)
          · constructor
            · intro h; rcases Nat.lt_or_ge j n with h' | h'
              · exact h'
              · rw [hlate j h' hj] at h; cases h
            · exact hall j
          · have : ops.size - n ≤ left ops (l.setIfInBounds i true) := by
              unfold left
              have h1 : (List.range' n (ops.size - n)).Sublist ((List.range ops.size).filter fun i' => !(l.setIfInBounds i true).getD i' false) := by
                have h2 : ((List.range' n (ops.size - n)).filter fun i' => !(l.setIfInBounds i true).getD i' false) = List.range' n (ops.size - n) := by
                  rw [List.filter_eq_self]
                  intro j hj; rw [List.mem_range'_1] at hj
                  rw [hlate j (by omega) (by omega)]; rfl
                rw [← h2]
                refine List.Sublist.filter _ ?_
                have h3 : List.range ops.size = List.range' 0 n ++ List.range' n (ops.size - n) := by
                  have := @List.range'_append 0 n (ops.size - n) 1
                  rw [List.range_eq_range']
                  simp only [Nat.one_mul, Nat.zero_add] at this
                  rw [this]; congr 1; omega
                rw [h3]; exact List.sublist_append_right _ _
              have := h1.length_le; simpa using this
            omega

theorem J_regdT {D : List Deferred} {Γ : Ctx} {M : Mem} {id : Nat} {Q : Exit → Act → World → Prop} (n : Nat) (hm : P.follows .mixedOrders = true) (hok : okAnyT n ops = true) (hn0 : 0 < n)
    (h : Run P E ops true 0 D Γ M (ops.toList.take n) (fun D' Γ' M' => Run P E ops false n D' Γ' M' (ops.toList.drop n) (fun D' Γ' M' => PJ E D' Γ' M' .normal Q))) : J P E D Γ M (.region id ops true) Q := by
  intro a w hS
  have hn : n ≤ ops.size := by simp only [okAnyT, Bool.and_eq_true] at hok; exact of_decide_eq_true hok.1
  refine wp_region_any hm ?_
  have k : Ext w { w with drawn := w.drawn + 1 } := ⟨rfl, rfl, rfl, Nat.le_refl _, fun _ _ => rfl⟩
  obtain ⟨G, hG0, hK, hG⟩ := h.chain rfl
  have hlen : (ops.toList.take n).length = n := by simp [hn]
  rw [hlen, Nat.zero_add] at hK
  refine wpAny_runT (D := D) hok (G := G) (M := M) (fun j o hj ho => ?_) (fun a' w' hS' => ?_) ops.size _ a _ ⟨by simp, fun j hj => ?_⟩ ?_ (hS.base.ext k) hS.sz hS.df ?_ ⟨0, hn0, ?_⟩
  · have := hG j o (by rw [List.getElem?_take, if_pos hj]; simpa using ho)
    simpa using this
  · have := hK.seq Q [] (fun j _ => by simp [List.getElem?_drop]) (fun D' Γ' M' a w hK hS => by simpa [wpOps] using hK a w hS) a' w' hS'
    simpa using this
  · simp [Array.getD_eq_getD_getElem?, Array.getElem?_replicate] at hj; split at hj <;> simp at hj
  · unfold left; refine Nat.le_trans (List.length_filter_le _ _) (by simp)
  · intro k' hk' t φ hlk hlo _
    have hno : ∀ j, 0 ≤ j → j < k' → dstOf ops j ≠ some t := by
      intro j _ hj hd
      have := hlo j hj hd
      simp [Array.getD_eq_getD_getElem?, Array.getElem?_replicate] at this; split at this <;> simp at this
    rw [look_between (fun j o hj ho => by have := hG j o (by rw [List.getElem?_take, if_pos hj]; simpa using ho); simpa using this) hn (Nat.zero_le _) hk' hno, hG0] at hlk
    exact φ.mono (Base.hv_ext k) (hS.tm t φ hlk)
  · simp [Array.getD_eq_getD_getElem?, Array.getElem?_replicate]; split <;> rfl

end
end Tor
