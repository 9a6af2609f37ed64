/-
  Own memory in another order; results that hand over own memory.
  No condition: general theorems over any program.
-/
import Derived.Test.YtmpnikllhpagcaaFwA
set_option linter.unusedVariables false
set_option linter.unusedSimpArgs false
set_option linter.unusedSectionVars false
namespace Tor
open Go Go.RowKit
section
variable {P : Program} {E : Env} {D : List Deferred} {Γ : Ctx} {M M' : Mem} {Q : Exit → Act → World → Prop}
theorem blks_perm (h : M.Perm M') : (blks M).Perm (blks M') := h.flatMap_right _
theorem hv_perm {w : World} (h : M.Perm M') : hv E M w = hv E M' w := by
  funext b
  have : b ∈ E.O ++ blks M ↔ b ∈ E.O ++ blks M' := by simp only [List.mem_append, (blks_perm h).mem_iff]
  simp only [hv, hid, this]
theorem St_perm {a : Act} {w : World} (h : M.Perm M') (hS : St E D Γ M a w) : St E D Γ M' a w where
  base := {
    mem := fun o ho => by
      have := hS.base.mem o (h.mem_iff.2 ho)
      have e : hid (E.O ++ blks M) (view w) = hid (E.O ++ blks M') (view w) := hv_perm h
      rw [e] at this; exact this
    nd := (blks_perm h).nodup_iff.1 hS.base.nd
    dis := fun b hb => hS.base.dis b ((blks_perm h).mem_iff.2 hb)
    lo := fun b hb => hS.base.lo b ((blks_perm h).mem_iff.2 hb)
    ex := fun b hb => hS.base.ex b (by
      simp only [List.mem_append, (blks_perm h).mem_iff] at hb ⊢; exact hb)
    fr := hS.base.fr }
  sz := hS.sz
  df := hS.df
  tm := fun t φ ht => hv_perm (E := E) (w := w) h ▸ hS.tm t φ ht
theorem J_perm {c : Code} (h : M.Perm M') (hj : J P E D Γ M' c Q) : J P E D Γ M c Q := fun a w hS => hj a w (St_perm h hS)
theorem PJ_perm {e : Exit} (h : M.Perm M') (hj : PJ E D Γ M' e Q) : PJ E D Γ M e Q := fun a w hS => hj a w (St_perm h hS)
/-- The result and the own memory that goes to the caller. -/
def RetM {σ : Type} (O : List Nat) (ψ : σ → VT) (Ms : σ → Mem) (w : World) (e : Ending) (w' : World) : Prop :=
  ∃ s v, e = .returned v ∧ (ψ s).p v (hid (O ++ blks (Ms s)) (view w')) ∧ Ext w w' ∧ (∀ o ∈ Ms s, o.p (view w') (hid (O ++ blks (Ms s)) (view w'))) ∧ (blks (Ms s)).Nodup ∧ ∀ b ∈ blks (Ms s), w.heap.size ≤ b ∧ b < w'.heap.size ∧ b ∉ O
def OkM {σ : Type} (P : Program) (f : FuncId) (φs : List VT) (ψ : σ → VT) (Ms : σ → Mem) : Prop :=
  ∀ (w : World) (O : List Nat) (vs : List Value), (∀ b ∈ O, b < w.heap.size) → tupP φs vs (hid O (view w)) → Calls P f vs.toArray w (RetM O ψ Ms w)
theorem blks_app (N M : Mem) : blks (N ++ M) = blks N ++ blks M := List.flatMap_append
/-- New own memory comes in with a value. -/
theorem St.take {a : Act} {w w' : World} (hS : St E D Γ M a w) (hx : Ext w w') {N : Mem} (hmem : ∀ o ∈ N, o.p (view w') (hid ((E.O ++ blks M) ++ blks N) (view w'))) (hnd : (blks N).Nodup)
    (hb : ∀ b ∈ blks N, w.heap.size ≤ b ∧ b < w'.heap.size) {d : Nat} (hd : d < E.N) {v : Value} {ψ : VT} (hv' : ψ.p v (hid ((E.O ++ blks M) ++ blks N) (view w'))) :
    St E D ((d, ψ) :: Γ) (N ++ M) (a.put (some d) v) w' := by
  have hnew : ∀ b ∈ E.O ++ blks M, b < w.heap.size := hS.base.ex
  have ehv : hid (E.O ++ blks (N ++ M)) (view w') = hid ((E.O ++ blks M) ++ blks N) (view w') := by
    funext b
    have : b ∈ E.O ++ blks (N ++ M) ↔ b ∈ (E.O ++ blks M) ++ blks N := by
      simp only [blks_app, List.mem_append]
      constructor
      · rintro (h | h | h)
        · exact .inl (.inl h)
        · exact .inr h
        · exact .inl (.inr h)
      · rintro ((h | h) | h)
        · exact .inl h
        · exact .inr (.inr h)
        · exact .inr (.inl h)
    simp only [hid, this]
  have hle : Hp.le (hv E M w) (hid (E.O ++ blks (N ++ M)) (view w')) := by
    intro b x e
    obtain ⟨h1, h2⟩ := hid_some e
    refine hid_of ?_ (hx.view _ _ h2)
    intro h
    have hlt := view_lt h2
    rw [blks_app] at h
    rcases List.mem_append.1 h with h | h
    · exact h1 (List.mem_append.2 (.inl h))
    · rcases List.mem_append.1 h with h | h
      · have := (hb b h).1; omega
      · exact h1 (List.mem_append.2 (.inr h))
  have hb' := hS.base.ext hx
  refine ⟨⟨?_, ?_, ?_, ?_, ?_, hb'.fr⟩, by simp [Act.put, hS.sz], hS.df, ?_⟩
  · intro q hq
    rcases List.mem_append.1 hq with hq | hq
    · rw [ehv]; exact hmem q hq
    · exact q.loc (fun b hb => (view_eq (hx.block b (hS.base.ex b (List.mem_append.2 (.inr (blks_mem hq hb)))))).symm) hle (hS.base.mem q hq)
  · rw [blks_app, List.nodup_append]
    refine ⟨hnd, hS.base.nd, fun x hx y hy => ?_⟩
    have h1 := (hb x hx).1
    have h2 := hnew y (List.mem_append.2 (.inr hy)); omega
  · intro b h
    rw [blks_app] at h
    rcases List.mem_append.1 h with h | h
    · intro hO; have := hnew _ (List.mem_append.2 (.inl hO)); have := (hb b h).1; omega
    · exact hS.base.dis b h
  · intro b h
    rw [blks_app] at h
    rcases List.mem_append.1 h with h | h
    · exact .inl (Nat.le_trans hS.base.fr.size (hb b h).1)
    · exact hS.base.lo b h
  · intro b h
    rw [blks_app] at h
    rcases List.mem_append.1 h with h | h
    · exact hb'.ex b (List.mem_append.2 (.inl h))
    · rcases List.mem_append.1 h with h | h
      · exact (hb b h).2
      · exact hb'.ex b (List.mem_append.2 (.inr h))
  · intro t φ h
    rw [look_cons] at h
    show φ.p _ (hid (E.O ++ blks (N ++ M)) (view w'))
    split at h
    · rename_i e; cases h; rw [← e, getD_put_self (by rw [hS.sz]; exact hd), ehv]; exact hv'
    · rename_i e; rw [getD_put_ne e]; exact φ.mono hle (hS.tm t φ h)
theorem OkM.enter {σ : Type} {f : FuncId} {fn : Func} {c : Code} {N : Nat} {φs : List VT} {ψ : σ → VT} {Ms : σ → Mem} (hf : P.funcs[f]? = some fn) (hb : fn.body = some c) (hN : fn.ntmps = N) (hle : Nat.ble φs.length N = true)
    (h : ∀ (w : World) (O : List Nat), J P ⟨w, O, [], N⟩ [] (argCtx 0 φs) [] c (bodyPost P fn (RetM O ψ Ms w))) : OkM P f φs ψ Ms :=
  fun w O vs hO hv => Tor.enter hf hb hN hO hv (Nat.le_of_ble_eq_true hle) (h w O)
theorem retM1 {σ : Type} {w0 : World} {O : List Nat} {N : Nat} {fn : Func} {r : ResultVar} {ψ : σ → VT} {Ms : σ → Mem} (s : σ) (hr : fn.results = #[r]) (h : ResOk P Γ M r (ψ s)) (hm : SubM M (Ms s)) :
    PJ ⟨w0, O, [], N⟩ [] Γ M .ret (bodyPost P fn (RetM O ψ Ms w0)) := by
  intro a w hS
  obtain ⟨v, h1, h2⟩ := h.run hS
  have hB := hS.base.sub hm
  refine ⟨hS.df, v, ?_, s, v, rfl, (ψ s).mono (hv_sub fun b hb => hm.sub.subset hb) h2, hS.ret, hB.mem, hB.nd, fun b hb => ⟨?_, hB.ex b (List.mem_append.2 (.inr hb)), hB.dis b hb⟩⟩
  · have hm : (fn.results.mapM (resS a.tmps)).run P w = .ok #[v] w := by rw [hr]; simp [h1]
    rw [results_eq, Sem.run_bind, hm]; rfl
  · rcases hB.lo b hb with h | h
    · exact h
    · cases h
variable {ops : Array Oper} {i : Nat} {ty : TypeId} {pos : String} {af : Array Edge} {os : List Oper} {K : List Deferred → Ctx → Mem → Prop}
/-- A call whose own memory the caller takes over. -/
theorem a_callM {σ : Type} {f : FuncId} [hF : Fn P f] {xs : Array Operand} {ats : Array TypeId} {φs φs' : List VT} {ψ : σ → VT} {Ms : σ → Mem} {d : Nat} (h : OkM P f φs' ψ Ms) (hx : evalL Γ xs.toList = some φs) (hle : leAll φs φs')
    (hi : ops[i]? = some ⟨some d, .call ⟨.value (.func f), xs, ats⟩, ty, pos, af, none⟩) (hd : Nat.ble (d + 1) E.N = true)
    (hr : ∀ s, Run P E ops false (i + 1) D ((d, ψ s) :: Γ) (Ms s ++ M) os K) : Run P E ops false i D Γ M (⟨some d, .call ⟨.value (.func f), xs, ats⟩, ty, pos, af, none⟩ :: os) K := by
  refine .act (K' := fun D' Γ' M' => ∃ s, D' = D ∧ Γ' = (d, ψ s) :: Γ ∧ M' = Ms s ++ M) (fun a w hS next Q hn => ?_) (fun D' Γ' M' ⟨s, h1, h2, h3⟩ => by subst h1 h2 h3; exact hr s)
  have hp := evalL_p (a := a) (h := hv E M w) hx (fun x φ hx' he => evalT_p hS he)
  have hc := h w _ _ hS.base.ex (leAll_p hle hp)
  simp only [wpOp, hi, wanted_none (o := ⟨some d, .call ⟨.value (.func f), xs, ats⟩, ty, pos, af, none⟩) rfl, if_true]
  refine .inl ?_
  unfold Oper.wp
  have hr : (execOp a.eval ⟨some d, .call ⟨.value (.func f), xs, ats⟩, ty, pos, af, none⟩).run P w = .ok (.enter f (xs.toList.map a.eval).toArray) w := by
    have h0 : a.eval (.func f) = .func (.func f) #[] #[] := rfl
    have h9 : (xs.map a.eval) = (xs.toList.map a.eval).toArray := by simp [← Array.toList_map]
    simp [execOp, resolve, Deferred.ofValue, invoke, h0, hF.run, h9]
  rw [hr]
  refine Calls.mono hc ?_
  rintro e w' ⟨s, v, rfl, hv', hext, hmem, hnd, hb⟩
  exact hn _ _ _ _ _ ⟨s, rfl, rfl, rfl⟩ (hS.take hext hmem hnd (fun b h => ⟨(hb b h).1, (hb b h).2.1⟩) (Nat.le_of_ble_eq_true hd) hv')
theorem Run_perm (h : M.Perm M') (hr : Run P E ops false i D Γ M' os K) : Run P E ops false i D Γ M os K := .conv (fun a w hS => St_perm h hS) hr
/-- The front piece of own memory goes to the end. -/
theorem PJ_rot {e : Exit} {o : Own} (hj : PJ E D Γ (M ++ [o]) e Q) : PJ E D Γ (o :: M) e Q := PJ_perm (List.perm_append_singleton o M).symm hj
theorem SubM.dropN : ∀ (N : Mem) {K : Mem}, SubM (N ++ K) K
  | [], K => SubM.refl K
  | _ :: N, _ => .drop (SubM.dropN N)
/-- A slice of own rows becomes memory that is only read. -/
theorem St_freezeRows {t c n cap : Nat} {sv : Option Nat} {T T' : TypeId} {L : Lay} {rs : List (Nat × (Nat → VT))} {z : Nat × (Nat → VT)} {Kp : Mem} (ht : look Γ t = some (one (slV sv n cap))) (hn : rs.length = n)
    {a : Act} {w : World} (hS : St E D Γ (sliO sv T .one cap n (fun q => one (slV (some (rs.getD q z).1) c c)) :: ((rs.map fun p => sliO (some p.1) T' L c c p.2) ++ Kp)) a w) :
    St E D ((t, slT .one n (fun q => slT L c (rs.getD q z).2)) :: Γ) Kp a w := by
  have hsub : SubM (sliO sv T .one cap n (fun q => one (slV (some (rs.getD q z).1) c c)) :: ((rs.map fun p => sliO (some p.1) T' L c c p.2) ++ Kp)) Kp := .drop (SubM.dropN _)
  refine ⟨hS.base.sub hsub, hS.sz, hS.df, fun s ψ hs => ?_⟩
  have hle := hv_sub (E := E) (w := w) fun b hb => hsub.sub.subset hb
  have hout : ∀ b, b ∈ blks (sliO sv T .one cap n (fun q => one (slV (some (rs.getD q z).1) c c)) :: (rs.map fun p => sliO (some p.1) T' L c c p.2)) → view w b = hv E Kp w b := by
    intro b hb
    have hnd := hS.base.nd
    have e : ∀ (o : Own) (N : Mem), blks (o :: (N ++ Kp)) = blks (o :: N) ++ blks Kp := fun o N => by simp [blks_app]
    have hbM : b ∈ blks (sliO sv T .one cap n (fun q => one (slV (some (rs.getD q z).1) c c)) :: ((rs.map fun p => sliO (some p.1) T' L c c p.2) ++ Kp)) := by rw [e]; exact List.mem_append.2 (.inl hb)
    rw [e, List.nodup_append] at hnd
    have h : b ∉ E.O ++ blks Kp := by
      rw [List.mem_append, not_or]
      exact ⟨hS.base.dis b hbM, fun h => hnd.2.2 b hb b h rfl⟩
    simp only [hv, hid, if_neg h]
  rw [look_cons] at hs
  split at hs
  · rename_i e; subst e; cases hs
    have hval : a.tmps.getD t undef = slV sv n cap := hS.tm t _ ht
    rw [hval]
    have h0 := Own.freeze (hS.base.mem _ List.mem_cons_self) hle (fun b hb => hout b (by simp [sliO, hb]))
    obtain ⟨ad, cap', h1, h2, h3, he⟩ := h0
    refine ⟨ad, cap', h1, h2, h3, fun i hi => ?_⟩
    obtain ⟨b, o, cc, T1, f, x, h4, h5, h6, h7⟩ := he i hi
    refine ⟨b, o, cc, T1, f, x, h4, h5, h6, ?_⟩
    have h7 : x = slV (some (rs.getD i z).1) c c := h7
    rw [h7]
    have hi' : i < rs.length := by omega
    have hg : rs.getD i z = rs[i] := by simp [List.getD, hi']
    have hm : sliO (some (rs.getD i z).1) T' L c c (rs.getD i z).2 ∈ (rs.map fun p => sliO (some p.1) T' L c c p.2) := by
      rw [hg]; exact List.mem_map.2 ⟨rs[i], List.getElem_mem hi', rfl⟩
    exact Own.freeze (hS.base.mem _ (List.mem_cons_of_mem _ (List.mem_append.2 (.inl hm)))) hle (fun b hb => hout b (by
      rw [blks_cons]; exact List.mem_append.2 (.inr (blks_mem hm (by cases hb; simp [sliO])))))
  · exact ψ.mono hle (hS.tm s ψ hs)
/-- The same where a part of a slot's struct holds the slice. -/
theorem St_freezeRowsA {t m k c n cap : Nat} {sv : Option Nat} {T T' : TypeId} {L : Lay} {cs : Comps} {rs : List (Nat × (Nat → VT))} {z : Nat × (Nat → VT)} {Kp : Mem} (ht : look Γ t = some (aggT m cs))
    (hk : (k, Lay.one, one (slV sv n cap)) ∈ cs) (hn : rs.length = n) {u : Nat} (hu : u < E.N)
    {a : Act} {w : World} (hS : St E D Γ (sliO sv T .one cap n (fun q => one (slV (some (rs.getD q z).1) c c)) :: ((rs.map fun p => sliO (some p.1) T' L c c p.2) ++ Kp)) a w) :
    St E D ((t, aggT m ((k, .one, slT .one n (fun q => slT L c (rs.getD q z).2)) :: cs)) :: Γ) Kp a w := by
  have hS2 : St E D [(u, one (slV sv n cap))] _ (a.put (some u) (slV sv n cap)) w := ⟨hS.base, by simp [Act.put, hS.sz], hS.df, fun s ψ hs => by
    rw [look_cons] at hs
    split at hs
    · rename_i e; cases hs; rw [← e, getD_put_self (by rw [hS.sz]; exact hu)]; rfl
    · cases hs⟩
  have h1 := (St_freezeRows (t := u) (by rw [look_cons, if_pos rfl]) hn hS2).tm u _ (by rw [look_cons, if_pos rfl])
  rw [getD_put_self (by rw [hS.sz]; exact hu)] at h1
  have hsub : SubM (sliO sv T .one cap n (fun q => one (slV (some (rs.getD q z).1) c c)) :: ((rs.map fun p => sliO (some p.1) T' L c c p.2) ++ Kp)) Kp := .drop (SubM.dropN _)
  have hle := hv_sub (E := E) (w := w) fun b hb => hsub.sub.subset hb
  refine ⟨hS.base.sub hsub, hS.sz, hS.df, fun s ψ hs => ?_⟩
  rw [look_cons] at hs
  split at hs
  · rename_i e; subst e; cases hs
    obtain ⟨cc, h2, h3, h4, h5⟩ := hS.tm t _ ht
    refine ⟨cc, h2, h3, h4, fun q hq => ?_⟩
    rcases List.mem_cons.1 hq with rfl | hq
    · obtain ⟨x, h6, h7⟩ := h5 _ hk
      have h7 : x = slV sv n cap := h7
      exact ⟨x, h6, h7 ▸ h1⟩
    · obtain ⟨x, h6, h7⟩ := h5 _ hq
      exact ⟨x, h6, q.2.2.mono hle h7⟩
  · exact ψ.mono hle (hS.tm s ψ hs)
theorem PJ_freezeRows {e : Exit} {t c n cap : Nat} {sv : Option Nat} {T T' : TypeId} {L : Lay} {rs : List (Nat × (Nat → VT))} {z : Nat × (Nat → VT)} {Kp : Mem} (ht : look Γ t = some (one (slV sv n cap))) (hn : rs.length = n)
    (hp : M.Perm (sliO sv T .one cap n (fun q => one (slV (some (rs.getD q z).1) c c)) :: ((rs.map fun p => sliO (some p.1) T' L c c p.2) ++ Kp)))
    (h : PJ E D ((t, slT .one n (fun q => slT L c (rs.getD q z).2)) :: Γ) Kp e Q) : PJ E D Γ M e Q := fun a w hS => h a w (St_freezeRows ht hn (St_perm hp hS))
theorem J_freezeRows {cd : Code} {t c n cap : Nat} {sv : Option Nat} {T T' : TypeId} {L : Lay} {rs : List (Nat × (Nat → VT))} {z : Nat × (Nat → VT)} {Kp : Mem} (ht : look Γ t = some (one (slV sv n cap))) (hn : rs.length = n)
    (hp : M.Perm (sliO sv T .one cap n (fun q => one (slV (some (rs.getD q z).1) c c)) :: ((rs.map fun p => sliO (some p.1) T' L c c p.2) ++ Kp)))
    (h : J P E D ((t, slT .one n (fun q => slT L c (rs.getD q z).2)) :: Γ) Kp cd Q) : J P E D Γ M cd Q := fun a w hS => h a w (St_freezeRows ht hn (St_perm hp hS))
theorem Run_freezeRows {t c n cap : Nat} {sv : Option Nat} {T T' : TypeId} {L : Lay} {rs : List (Nat × (Nat → VT))} {z : Nat × (Nat → VT)} {Kp : Mem} (ht : look Γ t = some (one (slV sv n cap))) (hn : rs.length = n)
    (hp : M.Perm (sliO sv T .one cap n (fun q => one (slV (some (rs.getD q z).1) c c)) :: ((rs.map fun p => sliO (some p.1) T' L c c p.2) ++ Kp)))
    (h : Run P E ops false i D ((t, slT .one n (fun q => slT L c (rs.getD q z).2)) :: Γ) Kp os K) : Run P E ops false i D Γ M os K := .conv (fun a w hS => St_freezeRows ht hn (St_perm hp hS)) h
theorem Run_freezeRowsA {t m k c n cap : Nat} {sv : Option Nat} {T T' : TypeId} {L : Lay} {cs : Comps} {rs : List (Nat × (Nat → VT))} {z : Nat × (Nat → VT)} {Kp : Mem} (ht : look Γ t = some (aggT m cs))
    (hk : (k, Lay.one, one (slV sv n cap)) ∈ cs) (hn : rs.length = n) {u : Nat} (hu : u < E.N)
    (hp : M.Perm (sliO sv T .one cap n (fun q => one (slV (some (rs.getD q z).1) c c)) :: ((rs.map fun p => sliO (some p.1) T' L c c p.2) ++ Kp)))
    (h : Run P E ops false i D ((t, aggT m ((k, .one, slT .one n (fun q => slT L c (rs.getD q z).2)) :: cs)) :: Γ) Kp os K) : Run P E ops false i D Γ M os K := .conv (fun a w hS => St_freezeRowsA ht hk hn hu (St_perm hp hS)) h
/-- The place of a row in the memory. -/
theorem mem_row {α : Type} {pre : Mem} {rs : List α} {f : α → Own} {i : Nat} {p : α} (h : rs[i]? = some p) : (pre ++ rs.map f)[pre.length + i]? = some (f p) := by
  rw [List.getElem?_append_right (Nat.le_add_right _ _)]; simp [h]
theorem set_row {α : Type} {pre : Mem} {rs : List α} {f : α → Own} {i : Nat} {p : α} : (pre ++ rs.map f).set (pre.length + i) (f p) = pre ++ (rs.set i p).map f := by
  rw [List.set_append_right _ _ (Nat.le_add_right _ _)]; simp [List.map_set]
end
end Tor
