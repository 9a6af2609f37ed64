/-
  Own rows as one piece of memory; own memory that changes its form; own memory that is opened for reading.
  No condition: general theorems over any program.
-/
import Derived.Test.YtmpnikllhpagcaaFwB
set_option linter.unusedVariables false
set_option linter.unusedSimpArgs false
set_option linter.unusedSectionVars false
namespace Tor
open Go Go.RowKit

section
variable {P : Program} {E : Env} {D : List Deferred} {Γ : Ctx} {M : Mem} {Q : Exit → Act → World → Prop}
variable {ops : Array Oper} {i : Nat} {ty : TypeId} {pos : String} {af : Array Edge} {os : List Oper} {K : List Deferred → Ctx → Mem → Prop} {d : Option Tmp} {gd : Option (Nat × Bool)}

/-- Own rows of one length: their blocks, and the elements by row and column. -/
def rowsO (T : TypeId) (L : Lay) (c : Nat) (bs : List Nat) (φ : Nat → Nat → VT) : Own where
  bl := bs
  p g h := ∀ i b, bs[i]? = some b → (sliO (some b) T L c c (φ i)).p g h
  loc := fun he H hp i b hb => (sliO (some b) T L c c (φ i)).loc (fun b' hb' => he b' (by
    have : b' = b := by simpa [sliO] using hb'
    rw [this]; exact List.mem_of_getElem? hb)) H (hp i b hb)
theorem rowsO_le {T : TypeId} {L : Lay} {c : Nat} {bs : List Nat} {φ ψ : Nat → Nat → VT} (H : ∀ i j, i < bs.length → j < c → VT.le (φ i j) (ψ i j)) : Own.le (rowsO T L c bs φ) (rowsO T L c bs ψ) :=
  ⟨rfl, fun g h hp i b hb => (sliO_le (fun q hq => H i q (List.getElem?_eq_some_iff.1 hb).1 hq)).2 g h (hp i b hb)⟩
theorem rowsO_eq {T : TypeId} {L : Lay} {c : Nat} {bs : List Nat} {φ ψ : Nat → Nat → VT} (H : ∀ i j, i < bs.length → j < c → φ i j = ψ i j) : Own.le (rowsO T L c bs φ) (rowsO T L c bs ψ) :=
  rowsO_le fun i j hi hj => H i j hi hj ▸ VT.le_refl _

theorem s_loadR {T T' : TypeId} {L : Lay} [LayOf P T L] {x : Operand} {b i' j c : Nat} {bs : List Nat} {φ : Nat → Nat → VT} (k : Nat) (hx : evalT Γ x = some (eP b j L.sz)) (hM : M[k]? = some (rowsO T' L c bs φ)) (hb' : bs[i']? = some b) (hj : j < c) :
    StepO P E Γ M ⟨d, .load T x, ty, pos, af, gd⟩ (φ i' j) :=
  StepO.ofRun fun a w hb hf => by
    have h1 : a.eval x = .pointer (some ⟨b, j * L.sz, none⟩) := hf x _ (by simp [Op.operands]) hx
    obtain ⟨_, _, _, h4⟩ := own_get hb hM i' b hb'
    obtain ⟨c, hc, _, he⟩ := h4 b rfl
    obtain ⟨v, hx', hp⟩ := he j hj
    refine ⟨v, ?_, hp⟩
    simp only [execOp, h1, Instr.loadAt, Instr.sureAddr, Sem.run_bind, Sem.run_pure, Result.andThen_ok, run_loadVar' hc hx']

def upd2 (φ : Nat → Nat → VT) (i j : Nat) (ψ : VT) : Nat → Nat → VT := fun q k => if q = i ∧ k = j then ψ else φ q k
theorem own_nodup {M : Mem} {k : Nat} {o : Own} (hn : (blks M).Nodup) (hM : M[k]? = some o) : o.bl.Nodup := by
  induction M generalizing k with
  | nil => simp at hM
  | cons x M ih =>
    rw [blks_cons, List.nodup_append] at hn
    cases k with
    | zero => simp at hM; subst hM; exact hn.1
    | succ k => simp at hM; exact ih hn.2.1 hM
/-- An element of an own row is written. -/
theorem a_storeR {T T' : TypeId} {x y : Operand} {b i' k c : Nat} {bs : List Nat} {φ : Nat → Nat → VT} {L : Lay} {ψ : VT} [hL : LayOf P T L] [hF : Flat ψ L] (j : Nat) (hx : evalT Γ x = some (eP b k L.sz)) (hy : evalT Γ y = some ψ)
    (hM : M[j]? = some (rowsO T' L c bs φ)) (hb' : bs[i']? = some b) (hk : k < c) (hi : ops[i]? = some ⟨none, .store T x y, ty, pos, af, none⟩)
    (h : Run P E ops false (i + 1) D Γ (M.set j (rowsO T' L c bs (upd2 φ i' k ψ))) os K) : Run P E ops false i D Γ M (⟨none, .store T x y, ty, pos, af, none⟩ :: os) K := by
  refine Run.one (K' := fun D' Γ' M' => D' = D ∧ Γ' = Γ ∧ M' = M.set j (rowsO T' L c bs (upd2 φ i' k ψ))) rfl (fun a w hS => ?_) (fun D' Γ' M' ⟨h1, h2, h3⟩ => by subst h1 h2 h3; exact h) hi
  have h1 : a.eval x = .pointer (some ⟨b, k * L.sz, none⟩) := evalT_p hS hx
  have h2 := evalT_p hS hy
  obtain ⟨f1, f2, f3⟩ := hF.ok _ _ h2
  have hnd := own_nodup hS.base.nd hM
  have hall := own_get hS.base hM
  obtain ⟨g1, g2, g3, g4⟩ := hall i' b hb'
  obtain ⟨cc, hc, hs, he⟩ := g4 b rfl
  have hmul : ∀ q, q < c → q * L.sz + L.sz ≤ c * L.sz := fun q hq => by
    have := Nat.mul_le_mul_right L.sz (show q + 1 ≤ c by omega); rwa [Nat.succ_mul] at this
  have hfit : k * L.sz + L.sz ≤ cc.size := by rw [hs]; exact hmul k hk
  have hst := run_storeVar' (P := P) (T := T) (L := L) (o := k * L.sz) hc f1 hfit f2
  refine ⟨.ok .skip (w.setRow b (splice cc (k * L.sz) (a.eval y).cells)), ?_, D, Γ, _, ⟨rfl, rfl, rfl⟩, ?_⟩
  · simp only [execOp, h1, Instr.storeAt, Instr.sureAddr, Sem.run_bind, Sem.run_pure, Result.andThen_ok, hst]
  · show St E D Γ _ a _
    have hbm : b ∈ bs := List.mem_of_getElem? hb'
    refine hS.own hM rfl (fun k' hk' => setRow_other _ _ _ _ (by intro e; exact hk' (by rw [e]; exact hbm))) (setRow_size _ _ _) rfl rfl rfl ?_
    intro q b' hq
    have hlen := List.getElem?_eq_some_iff.1 hb'
    have hlen2 := List.getElem?_eq_some_iff.1 hq
    by_cases e : q = i'
    · subst e
      have : b' = b := by rw [hb'] at hq; cases hq; rfl
      subst this
      refine ⟨g1, g2, g3, fun b'' hb'' => ?_⟩
      cases hb''
      refine ⟨_, view_setRow hc, by rw [splice_size (by omega)]; exact hs, fun q' hq' => ?_⟩
      show ∃ x, _ ∧ (upd2 φ q k ψ q q').p x _
      unfold upd2
      by_cases e : q' = k
      · subst e; rw [if_pos ⟨rfl, rfl⟩]; exact ⟨_, valAt_splice hfit f1 f3, h2⟩
      · rw [if_neg (fun h => e h.2)]
        obtain ⟨v, hv, hp⟩ := he q' hq'
        refine ⟨v, ?_, hp⟩
        rw [valAt_splice_ne (by omega)]; · exact hv
        rw [f1]
        rcases Nat.lt_or_ge q' k with h' | h'
        · left
          have := Nat.mul_le_mul_right L.sz (show q' + 1 ≤ k by omega); rwa [Nat.succ_mul] at this
        · right
          have := Nat.mul_le_mul_right L.sz (show k + 1 ≤ q' by omega); rwa [Nat.succ_mul] at this
    · have hne : b' ≠ b := by
        intro eb
        have h3 : bs[q]'hlen2.1 = bs[i']'hlen.1 := by rw [hlen2.2, hlen.2, eb]
        have hpw := List.pairwise_iff_getElem.1 hnd
        rcases Nat.lt_or_gt_of_ne e with h4 | h4
        · exact hpw q i' hlen2.1 hlen.1 h4 h3
        · exact hpw i' q hlen.1 hlen2.1 h4 h3.symm
      have hrow := hall q b' hq
      have e2 : ∀ j', upd2 φ i' k ψ q j' = φ q j' := fun j' => by unfold upd2; rw [if_neg (fun h => e h.1)]
      have e3 : (upd2 φ i' k ψ q) = φ q := funext e2
      rw [e3]
      refine (sliO (some b') T' L c c (φ q)).loc (fun b'' hb'' => ?_) (Hp.le_refl _) hrow
      have : b'' = b' := by simpa [sliO] using hb''
      subst this
      exact (view_eq (setRow_other _ _ _ _ hne)).symm

/-! ### The same memory in another form -/
structure ConvM (M M' : Mem) : Prop where
  pm : (blks M).Perm (blks M')
  mem : ∀ g h, (∀ o ∈ M, o.p g h) → ∀ o ∈ M', o.p g h
theorem St_conv {M' : Mem} {a : Act} {w : World} (h : ConvM M M') (hS : St E D Γ M a w) : St E D Γ M' a w := by
  have hmem : ∀ b, b ∈ E.O ++ blks M ↔ b ∈ E.O ++ blks M' := fun b => by simp only [List.mem_append, h.pm.mem_iff]
  have e : hv E M w = hv E M' w := by
    funext b; simp only [hv, hid, hmem b]
  refine ⟨⟨?_, h.pm.nodup_iff.1 hS.base.nd, fun b hb => hS.base.dis b (h.pm.mem_iff.2 hb), fun b hb => hS.base.lo b (h.pm.mem_iff.2 hb), fun b hb => hS.base.ex b ((hmem b).2 hb), hS.base.fr⟩, hS.sz, hS.df, fun t φ ht => e ▸ hS.tm t φ ht⟩
  have := h.mem (view w) (hv E M w) hS.base.mem
  intro o ho
  have e' : hid (E.O ++ blks M') (view w) = hv E M w := e.symm
  rw [e']; exact this o ho
theorem J_conv {M' : Mem} {c : Code} (h : ConvM M M') (hj : J P E D Γ M' c Q) : J P E D Γ M c Q := fun a w hS => hj a w (St_conv h hS)
theorem PJ_conv {M' : Mem} {e : Exit} (h : ConvM M M') (hj : PJ E D Γ M' e Q) : PJ E D Γ M e Q := fun a w hS => hj a w (St_conv h hS)
theorem Run_conv {M' : Mem} (h : ConvM M M') (hr : Run P E ops false i D Γ M' os K) : Run P E ops false i D Γ M os K := .conv (fun a w hS => St_conv h hS) hr
theorem ConvM.ofPerm {M' : Mem} (h : M.Perm M') : ConvM M M' := ⟨blks_perm h, fun g k H o ho => H o (h.mem_iff.2 ho)⟩
theorem ConvM.trans {A B C : Mem} (h : ConvM A B) (k : ConvM B C) : ConvM A C := ⟨h.pm.trans k.pm, fun g h' H => k.mem g h' (h.mem g h' H)⟩
theorem ConvM.rows0 {T : TypeId} {L : Lay} {c : Nat} {φ : Nat → Nat → VT} (M : Mem) : ConvM M (M ++ [rowsO T L c [] φ]) :=
  ⟨by simp [blks_app, rowsO], fun g h H o ho => (List.mem_append.1 ho).elim (H o) (fun e => by
    rw [List.mem_singleton.1 e]; intro i b hb; simp at hb)⟩
theorem blks_set_app : ∀ {M : Mem} {k : Nat} {o o' : Own} {b : List Nat}, M[k]? = some o → o'.bl = o.bl ++ b → (blks (M.set k o')).Perm (b ++ blks M)
  | [], _, _, _, _, h, _ => by simp at h
  | x :: M, 0, o, o', b, h, e => by
    simp at h; subst h
    show (o'.bl ++ blks M).Perm (b ++ (x.bl ++ blks M))
    rw [e, ← List.append_assoc]; exact List.perm_append_comm.append_right _
  | x :: M, k + 1, o, o', b, h, e => by
    simp at h
    show (x.bl ++ blks (M.set k o')).Perm (b ++ (x.bl ++ blks M))
    refine ((blks_set_app h e).append_left _).trans ?_
    rw [← List.append_assoc, ← List.append_assoc]
    exact List.perm_append_comm.append_right _
/-- A new row joins the own rows. -/
theorem ConvM.row {T : TypeId} {L : Lay} {c b k : Nat} {bs : List Nat} {φ : Nat → Nat → VT} {ψ : Nat → VT} (hM : M[k]? = some (rowsO T L c bs φ)) :
    ConvM (sliO (some b) T L c c ψ :: M) (M.set k (rowsO T L c (bs ++ [b]) (fun q => if q < bs.length then φ q else ψ))) := by
  refine ⟨(blks_set_app (b := [b]) hM rfl).symm, fun g h H o ho => ?_⟩
  obtain ⟨j, hj⟩ := List.mem_iff_getElem?.1 ho
  rw [List.getElem?_set] at hj
  by_cases e : k = j
  · subst e
    have hlt := (List.getElem?_eq_some_iff.1 hM).1
    simp [hlt] at hj; subst hj
    intro q b' hq
    by_cases hql : q < bs.length
    · rw [List.getElem?_append_left hql] at hq
      have := H _ (List.mem_cons_of_mem _ (List.mem_of_getElem? hM)) q b' hq
      show (sliO (some b') T L c c (if q < bs.length then φ q else ψ)).p g h
      rw [if_pos hql]; exact this
    · have hlt2 := (List.getElem?_eq_some_iff.1 hq).1
      simp at hlt2
      have e : q = bs.length := by omega
      subst e
      simp at hq
      subst hq
      show (sliO (some b) T L c c (if bs.length < bs.length then φ bs.length else ψ)).p g h
      rw [if_neg hql]; exact H _ List.mem_cons_self
  · simp [e] at hj
    exact H o (List.mem_cons_of_mem _ (List.mem_of_getElem? hj))

/-! ### Own memory is opened -/
structure Opn (Ms : Mem) (g h h' : Hp) : Prop where
  le : Hp.le h h'
  eq : ∀ b ∈ blks Ms, g b = h' b
  mem : ∀ o ∈ Ms, o.p g h
def Ent (Ms : Mem) (φ ψ : VT) : Prop := ∀ g h h' v, Opn Ms g h h' → φ.p v h → ψ.p v h'
def EntO (Ms : Mem) (o o' : Own) : Prop := o.bl = o'.bl ∧ ∀ g h h', Opn Ms g h h' → o.p g h → o'.p g h'
inductive EntM (Ms : Mem) : Mem → Mem → Prop
  | nil : EntM Ms [] []
  | keep {o o' M M'} : EntO Ms o o' → EntM Ms M M' → EntM Ms (o :: M) (o' :: M')
theorem EntM.blks {Ms A B : Mem} (h : EntM Ms A B) : Tor.blks A = Tor.blks B := by
  induction h with
  | nil => rfl
  | keep h _ ih => rw [blks_cons, blks_cons, h.1, ih]
theorem EntM.mem {Ms A B : Mem} (h : EntM Ms A B) : ∀ o' ∈ B, ∃ o ∈ A, EntO Ms o o' := by
  induction h with
  | nil => intro o ho; cases ho
  | keep h _ ih =>
    intro o ho
    rcases List.mem_cons.1 ho with rfl | ho
    · exact ⟨_, List.mem_cons_self, h⟩
    · obtain ⟨x, hx, hx'⟩ := ih o ho; exact ⟨x, List.mem_cons_of_mem _ hx, hx'⟩
def EntG (Ms : Mem) (Γ Γ' : Ctx) : Prop := ∀ t ψ, look Γ' t = some ψ → ∃ φ, look Γ t = some φ ∧ Ent Ms φ ψ
theorem Ent.refl {Ms : Mem} (φ : VT) : Ent Ms φ φ := fun g h h' v ho hp => φ.mono ho.le hp
theorem Ent.le {Ms : Mem} {φ ψ : VT} (h : VT.le φ ψ) : Ent Ms φ ψ := fun g h0 h' v ho hp => ψ.mono ho.le (h _ _ hp)
theorem Ent.then {Ms : Mem} {φ ψ χ : VT} (h : Ent Ms φ ψ) (k : VT.le ψ χ) : Ent Ms φ χ := fun g h0 h' v ho hp => k _ _ (h g h0 h' v ho hp)
theorem EntO.refl {Ms : Mem} (o : Own) : EntO Ms o o := ⟨rfl, fun g h h' ho hp => o.loc (fun _ _ => rfl) ho.le hp⟩
theorem EntM.refl {Ms : Mem} : ∀ M : Mem, EntM Ms M M
  | [] => .nil
  | o :: M => .keep (EntO.refl o) (EntM.refl M)
theorem EntG.refl {Ms : Mem} (Γ : Ctx) : EntG Ms Γ Γ := fun t ψ h => ⟨ψ, h, Ent.refl _⟩
theorem EntG.set {Ms : Mem} {t : Nat} {φ ψ : VT} (h : look Γ t = some φ) (he : Ent Ms φ ψ) : EntG Ms Γ ((t, ψ) :: Γ) := fun s χ hs => by
  rw [look_cons] at hs
  split at hs
  · rename_i e; subst e; cases hs; exact ⟨φ, h, he⟩
  · exact ⟨χ, hs, Ent.refl _⟩
theorem St_open {Ms Kp Kp' : Mem} {Γ' : Ctx} {a : Act} {w : World} (hp : M.Perm (Ms ++ Kp)) (hk : EntM Ms Kp Kp') (hg : EntG Ms Γ Γ') (hS0 : St E D Γ M a w) : St E D Γ' Kp' a w := by
  have hS := St_perm hp hS0
  have eb := hk.blks
  have hopn : Opn Ms (view w) (hv E (Ms ++ Kp) w) (hv E Kp' w) := by
    refine ⟨?_, ?_, fun o ho => hS.base.mem o (List.mem_append.2 (.inl ho))⟩
    · unfold hv
      refine hid_sub fun b hb => ?_
      rw [← eb] at hb
      rw [blks_app]
      rcases List.mem_append.1 hb with h | h
      · exact List.mem_append.2 (.inl h)
      · exact List.mem_append.2 (.inr (List.mem_append.2 (.inr h)))
    · intro b hb
      have hbM : b ∈ blks (Ms ++ Kp) := by rw [blks_app]; exact List.mem_append.2 (.inl hb)
      have hnd := hS.base.nd
      rw [blks_app, List.nodup_append] at hnd
      have h : b ∉ E.O ++ blks Kp' := by
        rw [← eb, List.mem_append, not_or]
        exact ⟨hS.base.dis b hbM, fun h => hnd.2.2 b hb b h rfl⟩
      simp only [hv, hid, if_neg h]
  have hsub : SubM (Ms ++ Kp) Kp := SubM.dropN Ms
  have hB := hS.base.sub hsub
  refine ⟨⟨fun o' ho' => ?_, eb ▸ hB.nd, fun b hb => hB.dis b (eb ▸ hb), fun b hb => hB.lo b (eb ▸ hb), fun b hb => hB.ex b (eb ▸ hb), hB.fr⟩, hS.sz, hS.df, fun t ψ ht => ?_⟩
  · obtain ⟨o, ho, he⟩ := hk.mem o' ho'
    exact he.2 _ _ _ hopn (hS.base.mem o (List.mem_append.2 (.inr ho)))
  · obtain ⟨φ, hφ, he⟩ := hg t ψ ht
    exact he _ _ _ _ hopn (hS.tm t φ hφ)
theorem J_open {c : Code} (Ms : Mem) {Kp Kp' : Mem} {Γ' : Ctx} (hp : M.Perm (Ms ++ Kp)) (hk : EntM Ms Kp Kp') (hg : EntG Ms Γ Γ') (h : J P E D Γ' Kp' c Q) : J P E D Γ M c Q := fun a w hS => h a w (St_open hp hk hg hS)
theorem PJ_open {e : Exit} (Ms : Mem) {Kp Kp' : Mem} {Γ' : Ctx} (hp : M.Perm (Ms ++ Kp)) (hk : EntM Ms Kp Kp') (hg : EntG Ms Γ Γ') (h : PJ E D Γ' Kp' e Q) : PJ E D Γ M e Q := fun a w hS => h a w (St_open hp hk hg hS)
theorem Run_open (Ms : Mem) {Kp Kp' : Mem} {Γ' : Ctx} (hp : M.Perm (Ms ++ Kp)) (hk : EntM Ms Kp Kp') (hg : EntG Ms Γ Γ') (h : Run P E ops false i D Γ' Kp' os K) : Run P E ops false i D Γ M os K := .conv (fun a w hS => St_open hp hk hg hS) h

theorem Ent.slE {Ms : Mem} {sv : Option Nat} {T : TypeId} {L : Lay} {cap n : Nat} {φ ψ : Nat → VT} (hm : sliO sv T L cap n φ ∈ Ms) (H : ∀ q, q < n → Ent Ms (φ q) (ψ q)) : Ent Ms (one (slV sv n cap)) (slT L n ψ) := by
  intro g h h' v ho hv
  have hv : v = slV sv n cap := hv
  subst hv
  obtain ⟨h1, h2, h3, h4⟩ := ho.mem _ hm
  cases sv with
  | none =>
    have hc := h3 rfl
    exact ⟨none, cap, rfl, h1, h2, fun i hi => by omega⟩
  | some b =>
    obtain ⟨c, hc, hs, he⟩ := h4 b rfl
    refine ⟨some ⟨b, 0, none⟩, cap, rfl, h1, h2, fun i hi => ?_⟩
    obtain ⟨x, hx, hp⟩ := he i hi
    exact ⟨b, 0, c, T, (0, 0), x, rfl, by rw [← ho.eq b (blks_mem hm (by simp [sliO]))]; exact hc, by rw [Nat.zero_add]; exact hx, H i hi g h h' x ho hp⟩
theorem Ent.sl {Ms : Mem} {sv : Option Nat} {T : TypeId} {L : Lay} {cap n : Nat} {φ : Nat → VT} (hm : sliO sv T L cap n φ ∈ Ms) : Ent Ms (one (slV sv n cap)) (slT L n φ) := Ent.slE hm fun q _ => Ent.refl _
theorem Ent.row {Ms : Mem} {T : TypeId} {L : Lay} {c i b : Nat} {bs : List Nat} {φ : Nat → Nat → VT} (hm : rowsO T L c bs φ ∈ Ms) (hb : bs[i]? = some b) : Ent Ms (one (slV (some b) c c)) (slT L c (φ i)) := by
  intro g h h' v ho hv
  have hv : v = slV (some b) c c := hv
  subst hv
  obtain ⟨h1, h2, h3, h4⟩ := ho.mem _ hm i b hb
  obtain ⟨x, hc, hs, he⟩ := h4 b rfl
  refine ⟨some ⟨b, 0, none⟩, c, rfl, h1, h2, fun j hj => ?_⟩
  obtain ⟨y, hy, hp⟩ := he j hj
  exact ⟨b, 0, x, T, (0, 0), y, rfl, by rw [← ho.eq b (blks_mem hm (List.mem_of_getElem? hb))]; exact hc, by rw [Nat.zero_add]; exact hy, (φ i j).mono ho.le hp⟩
def EntC (Ms : Mem) (cs cs' : Comps) : Prop := ∀ q ∈ cs', ∃ ψ, (q.1, q.2.1, ψ) ∈ cs ∧ Ent Ms ψ q.2.2
theorem EntC.ok {Ms : Mem} {cs cs' : Comps} (hE : EntC Ms cs cs') {g h h' : Hp} (ho : Opn Ms g h h') {c : Array Value} (hc : compsP cs c h) : compsP cs' c h' := fun q hq => by
  obtain ⟨ψ, h1, h2⟩ := hE q hq
  obtain ⟨x, hx, hp⟩ := hc _ h1
  exact ⟨x, hx, h2 g h h' x ho hp⟩
theorem Ent.agg {Ms : Mem} {m : Nat} {cs cs' : Comps} (hE : EntC Ms cs cs') : Ent Ms (aggT m cs) (aggT m cs') :=
  fun g h h' v ho ⟨c, h1, h2, h3, h4⟩ => ⟨c, h1, h2, h3, hE.ok ho h4⟩
theorem EntO.box {Ms : Mem} {b : Nat} {T : TypeId} {m : Nat} {cs cs' : Comps} (hE : EntC Ms cs cs') : EntO Ms (boxO b T m cs) (boxO b T m cs') :=
  ⟨rfl, fun g h h' ho ⟨c, h1, h2, h3, h4⟩ => ⟨c, h1, h2, h3, hE.ok ho h4⟩⟩
theorem EntC.cons {Ms : Mem} {cs : Comps} {k : Nat} {L : Lay} {φ ψ : VT} {cs' : Comps} (h : (k, L, φ) ∈ cs) (he : Ent Ms φ ψ) (hr : EntC Ms cs cs') : EntC Ms cs ((k, L, ψ) :: cs') := fun q hq => by
  rcases List.mem_cons.1 hq with rfl | hq
  · exact ⟨φ, h, he⟩
  · exact hr q hq
/-- A result whose own memory is not written any more. -/
theorem OkM.ok {σ : Type} {f : FuncId} {φs : List VT} {ψ : σ → VT} {Ms : σ → Mem} {χ : VT} (h : OkM P f φs ψ Ms) (H : ∀ s, Ent (Ms s) (ψ s) χ) : Ok P f φs χ := by
  intro w O vs hO hp
  refine Calls.mono (h w O vs hO hp) ?_
  rintro e w' ⟨s, v, rfl, hv', hext, hmem, hnd, hb⟩
  refine ⟨v, rfl, ?_, hext⟩
  refine H s (view w') _ _ v ⟨hid_sub fun b hb => List.mem_append.2 (.inl hb), fun b hb' => ?_, hmem⟩ hv'
  simp only [hid, if_neg (hb b hb').2.2]
theorem EntC.nil {Ms : Mem} {cs : Comps} : EntC Ms cs [] := fun q hq => by cases hq
end
end Tor
