/-
  More rules: results in memory, structs and slices that are built, guards, append.
  No condition: general theorems over any program.
-/
import Derived.Test.YtmpnikllhpagcaaFw7
set_option linter.unusedVariables false
set_option linter.unusedSimpArgs false
set_option linter.unusedSectionVars false
namespace Tor
open Go Go.RowKit

section
variable {P : Program} {E : Env} {D : List Deferred} {Γ : Ctx} {M : Mem} {Q : Exit → Act → World → Prop}
variable {ops : Array Oper} {i : Nat} {ty : TypeId} {pos : String} {af : Array Edge} {os : List Oper} {K : List Deferred → Ctx → Mem → Prop} {d : Option Tmp} {gd : Option (Nat × Bool)} {dr : Bool} {op : Op}

/-! ### Guards -/
theorem sg1 {d t j : Nat} {want : Bool} {ψ : VT} (hg : guardT ops ⟨some d, op, ty, pos, af, some (j, want)⟩ = some (some t, want)) (hb : look Γ t = some (one (.bool want))) (h : StepO P E Γ M ⟨some d, op, ty, pos, af, some (j, want)⟩ ψ) (hd : Nat.ble (d + 1) E.N = true)
    (hr : Run P E ops dr (i + 1) D ((d, ψ) :: Γ) M os K) : Run P E ops dr i D Γ M (⟨some d, op, ty, pos, af, some (j, want)⟩ :: os) K := by
  refine .step (.guarded1 hg hb h rfl (ltN hd)) hr
theorem sg0 {d t j : Nat} {b want : Bool} (hg : guardT ops ⟨some d, op, ty, pos, af, some (j, want)⟩ = some (some t, want)) (hb : look Γ t = some (one (.bool b))) (hne : (b == want) = false) (hd : Nat.ble (d + 1) E.N = true)
    (hr : Run P E ops dr (i + 1) D ((d, anyT) :: Γ) M os K) : Run P E ops dr i D Γ M (⟨some d, op, ty, pos, af, some (j, want)⟩ :: os) K := by
  refine .step (.guarded0 hg hb hne rfl (ltN hd)) hr
theorem bsel {t : Nat} {b : Bool} (ht : look Γ t = some (one (.bool b))) (h : ∀ b', b = b' → Run P E ops dr i D Γ M os K) : Run P E ops dr i D Γ M os K := h b rfl
theorem s_pickT {c x y : Operand} {φ : VT} (hc : evalT Γ c = some (one (.bool true))) (hx : evalT Γ x = some φ) : StepO P E Γ M ⟨d, .pick c x y, ty, pos, af, gd⟩ φ :=
  StepO.ofRun fun ac w hb hf => by
    have hc' : ac.eval c = .bool true := hf c _ (by simp [Op.operands]) hc
    exact ⟨ac.eval x, by simp [execOp, hc', asBool], hf x _ (by simp [Op.operands]) hx⟩
theorem s_pickF {c x y : Operand} {φ : VT} (hc : evalT Γ c = some (one (.bool false))) (hy : evalT Γ y = some φ) : StepO P E Γ M ⟨d, .pick c x y, ty, pos, af, gd⟩ φ :=
  StepO.ofRun fun ac w hb hf => by
    have hc' : ac.eval c = .bool false := hf c _ (by simp [Op.operands]) hc
    exact ⟨ac.eval y, by simp [execOp, hc', asBool], hf y _ (by simp [Op.operands]) hy⟩

/-! ### Results -/
inductive ResOk (P : Program) (Γ : Ctx) (M : Mem) : ResultVar → VT → Prop
  | tmp {t : Nat} {φ ψ : VT} : look Γ t = some φ → VT.le φ ψ → ResOk P Γ M (.tmp t) ψ
  | cellB {t b m : Nat} {T T' : TypeId} {L : Lay} {cs : Comps} {φ ψ : VT} (i : Nat) [LayOf P T L] : look Γ t = some (one (.pointer (some ⟨b, 0, none⟩))) → M[i]? = some (boxO b T' m cs) → lookC cs 0 = some (L, φ) → VT.le φ ψ → ResOk P Γ M (.cell t T) ψ
  | cellW {t b m : Nat} {T T' : TypeId} {cs : Comps} {ψ : VT} (i : Nat) [LayOf P T (.agg m)] : look Γ t = some (one (.pointer (some ⟨b, 0, none⟩))) → M[i]? = some (boxO b T' m cs) → VT.le (aggT m cs) ψ → ResOk P Γ M (.cell t T) ψ
def resS (tmps : Array Value) : ResultVar → Sem Value
  | .tmp t => pure (tmps.getD t undef)
  | .cell c t => do loadVar t (← asAddr (tmps.getD c undef))
theorem results_eq (fn : Func) (tmps : Array Value) : results fn tmps = (do
    let vs ← fn.results.mapM (resS tmps)
    pure (if h : vs.size = 1 then vs[0] else .tuple vs)) := rfl
theorem ResOk.run {r : ResultVar} {ψ : VT} (h : ResOk P Γ M r ψ) {a : Act} {w : World} (hS : St E D Γ M a w) :
    ∃ v, (resS a.tmps r).run P w = .ok v w ∧ ψ.p v (hv E M w) := by
  cases h with
  | tmp h1 h2 => exact ⟨_, rfl, h2 _ _ (hS.tm _ _ h1)⟩
  | @cellB t b m T T' L cs φ _ i hL h1 h2 h3 h4 =>
    have e : a.tmps.getD t undef = .pointer (some ⟨b, 0, none⟩) := hS.tm _ _ h1
    obtain ⟨c, hc, _, _, hcs⟩ := own_get hS.base h2
    obtain ⟨v, hv', hp⟩ := hcs _ (lookC_mem h3)
    refine ⟨v, ?_, h4 _ _ hp⟩
    simp only [resS, e, asAddr, Sem.run_bind, Sem.run_pure, Result.andThen_ok, run_loadVar' hc hv']
  | @cellW t b m T T' cs _ i hL h1 h2 h3 =>
    have e : a.tmps.getD t undef = .pointer (some ⟨b, 0, none⟩) := hS.tm _ _ h1
    obtain ⟨c, hc, hs, ha, hcs⟩ := own_get hS.base h2
    have hx' : valAt (.agg m) c 0 = some (.agg c) := by simp [valAt, ← hs]
    refine ⟨.agg c, ?_, h3 _ _ ⟨c, rfl, hs, ha, hcs⟩⟩
    simp only [resS, e, asAddr, Sem.run_bind, Sem.run_pure, Result.andThen_ok, run_loadVar' hc hx']
theorem hv_out {w : World} {ψ : VT} {v : Value} (h : ψ.p v (hv E M w)) : ψ.p v (hid E.O (view w)) := ψ.mono (hid_sub fun b hb => List.mem_append.2 (.inl hb)) h
theorem retc1 {w0 : World} {O : List Nat} {N : Nat} {fn : Func} {r : ResultVar} {ψ : VT} (hr : fn.results = #[r]) (h : ResOk P Γ M r ψ) :
    PJ ⟨w0, O, [], N⟩ [] Γ M .ret (bodyPost P fn (Ret O ψ w0)) := by
  intro a w hS
  obtain ⟨v, h1, h2⟩ := h.run hS
  refine ⟨hS.df, v, ?_, v, rfl, hv_out h2, hS.ret⟩
  have hm : (fn.results.mapM (resS a.tmps)).run P w = .ok #[v] w := by rw [hr]; simp [h1]
  rw [results_eq, Sem.run_bind, hm]; rfl
theorem retc2 {w0 : World} {O : List Nat} {N : Nat} {fn : Func} {r r' : ResultVar} {ψ ψ' : VT} (hr : fn.results = #[r, r']) (h : ResOk P Γ M r ψ) (h' : ResOk P Γ M r' ψ') :
    PJ ⟨w0, O, [], N⟩ [] Γ M .ret (bodyPost P fn (Ret O (tupT [ψ, ψ']) w0)) := by
  intro a w hS
  obtain ⟨v, h1, h2⟩ := h.run hS
  obtain ⟨v', h1', h2'⟩ := h'.run hS
  refine ⟨hS.df, .tuple #[v, v'], ?_, _, rfl, ⟨[_, _], rfl, hv_out h2, hv_out h2', trivial⟩, hS.ret⟩
  have hm : (fn.results.mapM (resS a.tmps)).run P w = .ok #[v, v'] w := by rw [hr]; simp [h1, h1']
  rw [results_eq, Sem.run_bind, hm]; rfl
theorem retc3 {w0 : World} {O : List Nat} {N : Nat} {fn : Func} {r r' r'' : ResultVar} {ψ ψ' ψ'' : VT} (hr : fn.results = #[r, r', r'']) (h : ResOk P Γ M r ψ) (h' : ResOk P Γ M r' ψ') (h'' : ResOk P Γ M r'' ψ'') :
    PJ ⟨w0, O, [], N⟩ [] Γ M .ret (bodyPost P fn (Ret O (tupT [ψ, ψ', ψ'']) w0)) := by
  intro a w hS
  obtain ⟨v, h1, h2⟩ := h.run hS
  obtain ⟨v', h1', h2'⟩ := h'.run hS
  obtain ⟨v'', h1'', h2''⟩ := h''.run hS
  refine ⟨hS.df, .tuple #[v, v', v''], ?_, _, rfl, ⟨[_, _, _], rfl, hv_out h2, hv_out h2', hv_out h2'', trivial⟩, hS.ret⟩
  have hm : (fn.results.mapM (resS a.tmps)).run P w = .ok #[v, v', v''] w := by rw [hr]; simp [h1, h1', h1'']
  rw [results_eq, Sem.run_bind, hm]; rfl

/-! ### Struct literals -/
/-- A struct or array type by its parts: offset and layout of each, and its zero. -/
class BuildOf (P : Program) (T : TypeId) (m : outParam Nat) (z : outParam (Array Value)) (pl : outParam (List (Nat × Lay))) : Prop where
  zero : ∀ w, (zeroValue T).run P w = .ok (.agg z) w
  zs : z.size = m
  zo : z.all (·.oneCell') = true
  run : ∀ (parts : Array (Nat × Value)) (cells : Array Value) (w : World), Instr.fill (fun i => (pl[i]?).map fun q => (q.1, q.2.sz)) z parts.toList = some cells →
    (Instr.build T parts).run P w = .ok (.agg cells) w

def zeroC (z : Array Value) : List (Nat × Lay) → Comps
  | [] => []
  | (o, L) :: r => (o, L, match valAt L z o with | some v => one v | none => anyT) :: zeroC z r
inductive BuildOk (Γ : Ctx) (pl : List (Nat × Lay)) : Comps → List (Nat × Operand) → Comps → Prop
  | nil {C} : BuildOk Γ pl C [] C
  | cons {C i x r C' o L φ χ} [hF : Flat φ L] : pl[i]? = some (o, L) → evalT Γ x = some φ → lookC C o = some (L, χ) → BuildOk Γ pl (setC C o φ) r C' → BuildOk Γ pl C ((i, x) :: r) C'

theorem foldl_splice (v : Array Value) (off : Nat) (c : Array Value) (h : off + v.size ≤ c.size) : v.zipIdx.foldl (fun cs (x, j) => cs.setIfInBounds (off + j) x) c = splice c off v := by
  have key : ∀ (l : List Value) (k : Nat) (c : Array Value), off + k + l.length ≤ c.size → (l.zipIdx k).foldl (fun cs (x : Value × Nat) => cs.setIfInBounds (off + x.2) x.1) c = splice c (off + k) l.toArray := by
    intro l
    induction l with
    | nil => intro k c h; apply Array.ext_getElem?; intro j; rw [splice_at (by simp at h ⊢; omega), if_neg (by simp only [List.size_toArray, List.length_nil]; omega)]; rfl
    | cons x l ih =>
      intro k c h
      simp only [List.length_cons] at h
      simp only [List.zipIdx_cons, List.foldl_cons]
      rw [ih (k + 1) _ (by simp; omega)]
      apply Array.ext_getElem?; intro j
      have q1 : off + (k + 1) + l.toArray.size ≤ (c.setIfInBounds (off + k) x).size := by simp only [List.size_toArray, Array.size_setIfInBounds]; omega
      have q2 : off + k + (x :: l).toArray.size ≤ c.size := by simp only [List.size_toArray, List.length_cons]; omega
      rw [splice_at q1, splice_at q2]
      simp only [List.size_toArray, List.length_cons]
      by_cases hj : j = off + k
      · have hlt : off + k < c.size := by omega
        subst hj; rw [if_neg (by omega), if_pos (by omega), Nat.sub_self]; simp [hlt]
      · by_cases h2 : off + (k + 1) ≤ j ∧ j < off + (k + 1) + l.length
        · rw [if_pos h2, if_pos (by omega)]
          rw [show j - (off + k) = (j - (off + (k + 1))) + 1 by omega]; simp
        · rw [if_neg h2, if_neg (by omega)]; simp [Ne.symm hj]
  have := key v.toList 0 c (by simpa using h)
  simp only [Nat.add_zero, Array.toArray_toList] at this
  rw [← this, ← Array.foldl_toList, Array.toList_zipIdx]

theorem apartC_set : ∀ {C : Comps} {o : Nat} {φ : VT}, apartC C = true → apartC (setC C o φ) = true := by
  have hall : ∀ (C : Comps) (o : Nat) (φ : VT) (p : Nat → Lay → Bool), (setC C o φ).all (fun q => p q.1 q.2.1) = C.all (fun q => p q.1 q.2.1) := by
    intro C o φ p
    induction C with
    | nil => rfl
    | cons q C ih =>
      obtain ⟨k, l, v⟩ := q
      rw [setC]; cases h : Nat.beq k o
      · simp only [cond_false, List.all_cons, ih]
      · simp only [cond_true, List.all_cons]
  intro C
  induction C with
  | nil => intro o φ h; rfl
  | cons q C ih =>
    obtain ⟨k, l, v⟩ := q
    intro o φ h
    simp only [apartC, Bool.and_eq_true] at h
    rw [setC]; cases hk : Nat.beq k o
    · simp only [cond_false, apartC, Bool.and_eq_true]
      exact ⟨by rw [hall C o φ (fun a b => decide (k + l.sz ≤ a) || decide (a + b.sz ≤ k))]; exact h.1, ih h.2⟩
    · simp only [cond_true, apartC, Bool.and_eq_true]; exact h
theorem zeroC_ok {z : Array Value} {h : Hp} : ∀ {pl : List (Nat × Lay)}, (pl.all fun q => (valAt q.2 z q.1).isSome) = true → compsP (zeroC z pl) z h
  | [], _, q, hq => by cases hq
  | (o, L) :: r, ha, q, hq => by
    simp only [List.all_cons, Bool.and_eq_true] at ha
    rw [zeroC] at hq
    rcases List.mem_cons.1 hq with rfl | hq
    · obtain ⟨v, hv⟩ := Option.isSome_iff_exists.1 ha.1
      simp only at hv ⊢; rw [hv]; exact ⟨v, rfl, rfl⟩
    · exact zeroC_ok ha.2 q hq
theorem build_ok {a : Act} {h : Hp} {pl : List (Nat × Lay)} {m : Nat} : ∀ {C C' : Comps} {parts : List (Nat × Operand)} {c : Array Value}, BuildOk Γ pl C parts C' → (∀ x φ, x ∈ parts.map (·.2) → evalT Γ x = some φ → φ.p (a.eval x) h) →
    (∀ q ∈ pl, q.1 + q.2.sz ≤ m) → c.size = m → c.all (·.oneCell') = true → apartC C = true → compsP C c h →
    ∃ c', Instr.fill (fun i => (pl[i]?).map fun q => (q.1, q.2.sz)) c (parts.map fun (i, x) => (i, a.eval x)) = some c' ∧ c'.size = m ∧ c'.all (·.oneCell') = true ∧ compsP C' c' h
  | C, _, [], c, .nil, _, _, hs, ho, _, hc => ⟨c, rfl, hs, ho, hc⟩
  | C, C', (i, x) :: r, c, .cons (o := o) (L := L) (φ := φ) (hF := hF) h1 h2 h3 h4, hf, hpl, hs, ho, hap, hc => by
    have hp := hf x φ (by simp) h2
    obtain ⟨f1, f2, f3⟩ := hF.ok _ _ hp
    have hfit := hpl _ (List.mem_of_getElem? h1)
    simp only at hfit
    have hle : o + (a.eval x).cells.size ≤ c.size := by rw [f1, hs]; exact hfit
    obtain ⟨c', k1, k2, k3, k4⟩ := build_ok (c := splice c o (a.eval x).cells) h4 (fun y ψ hy he => hf y ψ (by simp at hy ⊢; exact .inr hy) he) hpl (by rw [splice_size hle]; exact hs) (splice_all ho f2) (apartC_set hap)
      (setC_ok hle f1 (valAt_splice (by rw [hs]; exact hfit) f1 f3) hp hap h3 hc)
    refine ⟨c', ?_, k2, k3, k4⟩
    simp only [List.map_cons, Instr.fill, h1, Option.map_some]
    rw [if_neg (by simp [f1, hs]; exact hfit), foldl_splice _ _ _ hle]
    exact k1
theorem s_build {T : TypeId} {m : Nat} {z : Array Value} {pl : List (Nat × Lay)} [hB : BuildOf P T m z pl] {parts : Array (Nat × Operand)} {C : Comps}
    (h : BuildOk Γ pl (zeroC z pl) parts.toList C) (hz : (pl.all fun q => (valAt q.2 z q.1).isSome && decide (q.1 + q.2.sz ≤ m)) = true) (hap : apartC (zeroC z pl) = true) :
    StepO P E Γ M ⟨d, .build T parts, ty, pos, af, gd⟩ (aggT m C) :=
  StepO.ofRun fun a w hb hf => by
    have hz1 : (pl.all fun q => (valAt q.2 z q.1).isSome) = true := by
      rw [List.all_eq_true] at hz ⊢; intro q hq; have := hz q hq; simp only [Bool.and_eq_true] at this; exact this.1
    have hz2 : ∀ q ∈ pl, q.1 + q.2.sz ≤ m := by
      rw [List.all_eq_true] at hz; intro q hq; have := hz q hq; simp only [Bool.and_eq_true, decide_eq_true_eq] at this; exact this.2
    obtain ⟨c', k1, k2, k3, k4⟩ := build_ok (a := a) (h := hv E M w) h (fun x φ hx he => hf x φ (by simpa [Op.operands] using hx) he) hz2 hB.zs hB.zo hap (zeroC_ok hz1)
    refine ⟨.agg c', ?_, c', rfl, k2, k3, k4⟩
    have hr := hB.run (parts.map fun (i, x) => (i, a.eval x)) c' w (by rw [Array.toList_map]; exact k1)
    simp only [execOp, Sem.run_bind, hr, Result.andThen_ok, Sem.run_pure]

/-! ### BuildOf from closed facts -/
def structInfo (P : Program) (T : TypeId) : Option (List (Nat × Option Nat)) :=
  match P.underlying T with
  | some (.struct fs) => some (fs.toList.map fun f => (f.offset, (P.info? f.type).map (·.size)))
  | _ => none
theorem run_places : ∀ (fs : List Field) (pl : List (Nat × Lay)) (w : World), fs.map (fun f => (f.offset, (P.info? f.type).map (·.size))) = pl.map (fun q => (q.1, some q.2.sz)) →
    (fs.mapM fun f => (do pure (f.offset, ← Go.sizeOf f.type) : Sem (Nat × Nat))).run P w = .ok (pl.map fun q => (q.1, q.2.sz)) w
  | [], [], w, _ => by simp
  | [], _ :: _, w, h => by simp at h
  | _ :: _, [], w, h => by simp at h
  | f :: fs, q :: pl, w, h => by
    simp only [List.map_cons, List.cons.injEq, Prod.mk.injEq] at h
    have ih := run_places fs pl w h.2
    have hs : (Go.sizeOf f.type).run P w = .ok q.2.sz w := by
      cases hi : P.info? f.type with
      | none => rw [hi] at h; simp at h
      | some i => rw [hi] at h; simp at h; simp [Go.sizeOf, Sem.run_bind, run_typeInfo hi, h.1.2]
    simp only [List.mapM_cons, Sem.run_bind, hs, Result.andThen_ok, Sem.run_pure, ih, List.map_cons, h.1.1]
theorem BuildOf.by_struct {T : TypeId} {m by' : Nat} {z : Array Value} {pl : List (Nat × Lay)} (hz : ZeroOf P T (.agg z) by') (hs : z.size = m) (ho : z.all (·.oneCell') = true)
    (h : structInfo P T = some (pl.map fun q => (q.1, some q.2.sz))) : BuildOf P T m z pl where
  zero := fun w => ZeroOf.run w
  zs := hs
  zo := ho
  run := by
    intro parts cells w hfill
    unfold structInfo at h
    split at h
    · rename_i fs hfs
      simp only [Option.some.injEq] at h
      have hp := run_places fs.toList pl w h
      have hp' : (fs.mapM fun f => (do pure (f.offset, ← Go.sizeOf f.type) : Sem (Nat × Nat))).run P w = .ok (pl.map fun q => (q.1, q.2.sz)).toArray w := by
        rw [Array.mapM_eq_mapM_toList]
        show ((fs.toList.mapM fun f => (do pure (f.offset, ← Go.sizeOf f.type) : Sem (Nat × Nat))) >>= fun l => pure l.toArray).run P w = _
        rw [Sem.run_bind, hp]; rfl
      have hz' := ZeroOf.run (P := P) (T := T) (z := .agg z) w
      unfold Instr.build
      simp only [Sem.run_bind, hz', Result.andThen_ok, run_underlying' hfs, hp', Value.cells]
      have e : (fun x => (pl.map fun q => (q.1, q.2.sz)).toArray[x]?) = fun (i : Nat) => (pl[i]?).map fun (q : Nat × Lay) => (q.1, q.2.sz) := by funext i; simp
      rw [e, hfill]; rfl
    · cases h
theorem fill_congr {f g : Nat → Option (Nat × Nat)} {m : Nat} (h : ∀ i, f i = g i ∨ (g i = none ∧ ∃ o s, f i = some (o, s) ∧ 0 < s ∧ m < o + s)) : ∀ (l : List (Nat × Value)) (c : Array Value), c.size = m → Instr.fill f c l = Instr.fill g c l
  | [], c, _ => rfl
  | (i, v) :: l, c, hc => by
    simp only [Instr.fill]
    rcases h i with h1 | ⟨h1, o, s, h2, h3, h4⟩
    · rw [h1]
      cases g i with
      | none => rfl
      | some q =>
        obtain ⟨o, s⟩ := q
        simp only
        split
        · rfl
        · rename_i hh
          refine fill_congr h l _ ?_
          rw [foldl_splice _ _ _ (by simp at hh; omega), splice_size (by simp at hh; omega)]; exact hc
    · rw [h1, h2]; simp only
      rw [if_pos]
      simp only [ne_eq, Bool.or_eq_true, decide_eq_true_eq]
      by_cases hv : v.cells.size = s
      · right; omega
      · left; exact hv
theorem BuildOf.by_array {T e : TypeId} {n m by' : Nat} {L : Lay} {z : Array Value} (hz : ZeroOf P T (.agg z) by') (hA : ArrayOf P T n e) (hL : LayOf P e L) (hs : z.size = m) (ho : z.all (·.oneCell') = true) (hm : n * L.sz = m) (h0 : 0 < L.sz) :
    BuildOf P T m z ((List.range n).map fun i => (i * L.sz, L)) where
  zero := fun w => ZeroOf.run w
  zs := hs
  zo := ho
  run := by
    intro parts cells w hfill
    have hz' := ZeroOf.run (P := P) (T := T) (z := .agg z) w
    unfold Instr.build
    simp only [Sem.run_bind, hz', Result.andThen_ok, run_underlying' hA.und, run_sizeOf' (L := L), Value.cells]
    rw [fill_congr (g := fun i => (((List.range n).map fun i => (i * L.sz, L))[i]?).map fun q => (q.1, q.2.sz)) (m := m) (fun i => ?_) _ _ hs]
    · rw [hfill]; rfl
    · rcases Nat.lt_or_ge i n with h | h
      · left; simp [h]
      · right
        refine ⟨by simp [List.getElem?_eq_none, h], i * L.sz, L.sz, rfl, h0, ?_⟩
        have := Nat.mul_le_mul_right L.sz h
        omega
end
end Tor
