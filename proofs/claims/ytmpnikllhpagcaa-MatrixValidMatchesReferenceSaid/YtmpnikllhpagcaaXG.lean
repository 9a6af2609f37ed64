/-
  torsionlaw05.MatrixValidMatchesReference returns true for every input, and its arguments read afterwards as before.
  No condition.
-/
import Derived.Test.YtmpnikllhpagcaaRows
import Derived.Test.YtmpnikllhpagcaaXE
import Derived.ProofKit
import Derived.Lib.SmallJoins
import Derived.Laws.IdiomArrays
import Derived.SizedLaws
set_option linter.unusedVariables false
set_option linter.unusedSimpArgs false
namespace Tor
open Go Go.RowKit Go.ChangeShapes Go.WideShapes Go.ChangeAt Go.Joins

section
variable {H : Type} {enc : TypeId × Value → H} {P : Program} {W : World} {base : Nat} {held : Bool}

theorem cell_view {w : World} {a : Addr} {x : Value} (h : w.cell? a = some x) : a.spot = none ∧ ∃ c T f, view w a.block = some (c, T, f) ∧ c[a.off]? = some x := by
  unfold World.cell? at h
  split at h
  · rename_i c T f hb
    split at h
    · cases h
    · rename_i hs
      exact ⟨by simpa using hs, c, T, f, view_of hb, h⟩
  · cases h
theorem addr_eq {a : Addr} (h : a.spot = none) : a = ⟨a.block, a.off, none⟩ := by cases a; simp_all
theorem wf_u32 {x : Int} (h : (Lit.int .u32 x).wf = true) : 0 ≤ x := by simp [Lit.wf, IntKind.min, IntKind.signed] at h; omega
theorem wf_u8 {x : Int} (h : (Lit.int .u8 x).wf = true) : 0 ≤ x := by simp [Lit.wf, IntKind.min, IntKind.signed] at h; omega
/-- The parts of a struct are within the reach. -/
theorem agg_weight {ts : List TypeId} {ds : List (DataW H)} (h : (DataW.weightsEach P ts ds).all (· ≤ reachBytes) = true) {j : Nat} {t : TypeId} {fs : Array Field} {parts : List (DataW H)} (ht : ts[j]? = some t) (hd : ds[j]? = some (.agg parts))
    (hu : P.underlying t = some (.struct fs)) : (DataW.weightsEach P (fs.toList.map (·.type)) parts).all (· ≤ reachBytes) = true := by
  rw [List.all_eq_true] at h ⊢
  intro x hx
  exact h x (DataW.weights_mem_each ht hd x (by simp only [DataW.weights, hu]; exact hx))
theorem num_of_trod {t e : TypeId} {k : IntKind} {fuel : Nat} {v : Value} {y : DataW H × List MemPlace} (ht : P.underlying t = some (.slice e)) (he : P.underlying e = some (.int k)) (hc : P.cellsOf e = 1) (hby : 1 ≤ P.bytesOf e)
    (h : DataW.trod enc P W base (fun _ => true) held fuel t [v] = some y) (hw : ∀ elems spare, y.1 = .slice elems spare → (elems.length + spare.length) * P.bytesOf e ≤ reachBytes) : ∃ l : List Int, (numT k l).p v (view W) ∧ ∀ x ∈ l, (Lit.int k x).wf = true := by
  rcases open_ints ht he hc h with ⟨hcs, _⟩ | ⟨a, len, cap, zs, hcs, _, h1, h2, h3, hy, h4, h5⟩
  · simp only [List.cons.injEq, and_true] at hcs
    subst hcs
    exact ⟨[], ⟨none, 0, rfl, Nat.le_refl _, by decide, fun i hi => absurd hi (Nat.not_lt_zero _)⟩, fun x hx => by cases hx⟩
  · simp only [List.cons.injEq, and_true] at hcs
    subst hcs
    have h3 : zs.length = cap := h3
    have hlen : (zs.take len).length = len := by simp; omega
    refine ⟨zs.take len, ?_, fun x hx => h5 x (List.mem_of_mem_take hx)⟩
    show (slT .one (zs.take len).length _).p _ _
    have h2' : cap ≤ 2 ^ 48 := by
      have hw' := hw _ _ (by rw [hy])
      have e1 : (lits (H := H) k (zs.take len)).length + (lits (H := H) k (zs.drop len)).length = cap := by simp [lits]; omega
      rw [e1] at hw'
      have : cap ≤ cap * P.bytesOf e := Nat.le_mul_of_pos_right _ hby
      have := reachBytes_lt
      omega
    refine ⟨some a, cap, by rw [hlen], by omega, by omega, fun i hi => ?_⟩
    rw [hlen] at hi
    have h0 := cell_view (h4 0 (by omega))
    have ha0 : a.add 0 = a := by simp [Addr.add]
    rw [ha0] at h0
    have hi' := h4 i (by omega)
    have hadd : a.add i = ⟨a.block, a.off + i, none⟩ := by
      rw [addr_eq h0.1]; exact addr_add
    rw [hadd] at hi'
    obtain ⟨_, c, T, f, h6, h7⟩ := cell_view hi'
    refine ⟨a.block, a.off, c, T, f, _, by rw [← addr_eq h0.1], h6, ?_, rfl⟩
    show c[a.off + i * 1]? = _
    rw [Nat.mul_one]
    have e : (zs.take len).getD i 0 = zs.getD i 0 := by simp [List.getD, List.getElem?_take, hi]
    rw [e]; exact h7
theorem lim_of_trod {t e : TypeId} {fuel : Nat} {v : Value} {y : DataW H × List MemPlace} (ht : P.underlying t = some (.slice e)) (he : P.underlying e = some (.int .u32)) (hc : P.cellsOf e = 1) (hby : 1 ≤ P.bytesOf e)
    (h : DataW.trod enc P W base (fun _ => true) held fuel t [v] = some y) (hw : ∀ elems spare, y.1 = .slice elems spare → (elems.length + spare.length) * P.bytesOf e ≤ reachBytes) : ∃ l : List Nat, (limT l).p v (view W) := by
  obtain ⟨l, h1, h2⟩ := num_of_trod ht he hc hby h hw
  refine ⟨l.map Int.toNat, slT_le' (by simp) (fun i hi => ?_) _ _ h1⟩
  have hm : l.getD i 0 ∈ l := by simp only [List.getD, List.getElem?_eq_getElem hi, Option.getD_some]; exact List.getElem_mem hi
  have hw := h2 _ hm
  have h0 : 0 ≤ l.getD i 0 := wf_u32 hw
  congr 2
  simp only [List.getD, List.getElem?_map, List.getElem?_eq_getElem hi, Option.map_some, Option.getD_some] at h0 ⊢
  omega
theorem int_of_trod {t : TypeId} {k : IntKind} {fuel : Nat} {v : Value} {y : DataW H × List MemPlace} {sp : Nat → Bool} (ht : P.underlying t = some (.int k)) (h : DataW.trod enc P W base sp held fuel t [v] = some y) : ∃ n : Int, v = .int k n ∧ (Lit.int k n).wf = true := by
  obtain ⟨n, h1, _, h3⟩ := DataW.trod_int ht h
  simp only [List.cons.injEq, and_true] at h1
  exact ⟨n, h1, h3⟩
theorem nat_of_trod {t : TypeId} {fuel : Nat} {v : Value} {y : DataW H × List MemPlace} {sp : Nat → Bool} (ht : P.underlying t = some (.int .u8)) (h : DataW.trod enc P W base sp held fuel t [v] = some y) : ∃ n : Nat, v = .int .u8 n := by
  obtain ⟨n, h1, h2⟩ := int_of_trod ht h
  have h0 : 0 ≤ n := wf_u8 h2
  exact ⟨n.toNat, by rw [h1]; congr 1; omega⟩
theorem bool_of_trod {t : TypeId} {fuel : Nat} {v : Value} {y : DataW H × List MemPlace} {sp : Nat → Bool} (ht : P.underlying t = some .bool) (h : DataW.trod enc P W base sp held fuel t [v] = some y) : ∃ b : Bool, v = .bool b := by
  obtain ⟨b, h1, _⟩ := DataW.trod_bool ht h
  simp only [List.cons.injEq, and_true] at h1
  exact ⟨b, h1⟩
theorem one_slice {L : Lay} {n : Nat} {φ : Nat → VT} {v : Value} {h : Hp} (H : (slT L n φ).p v h) : v.oneCell' = true := by
  obtain ⟨a, cap, e, _⟩ := H; subst e; rfl
/-- A struct of two cells. -/
theorem agg2_p {v0 v1 : Value} {φ0 φ1 : VT} {h : Hp} (h0 : φ0.p v0 h) (h1 : φ1.p v1 h) (o0 : v0.oneCell' = true) (o1 : v1.oneCell' = true) : (aggT 2 [(0, .one, φ0), (1, .one, φ1)]).p (.agg #[v0, v1]) h := by
  refine ⟨_, rfl, rfl, by simp [o0, o1], fun q hq => ?_⟩
  rcases List.mem_cons.1 hq with rfl | hq
  · exact ⟨v0, rfl, h0⟩
  rcases List.mem_cons.1 hq with rfl | hq
  · exact ⟨v1, rfl, h1⟩
  cases hq
theorem agg3_p {v0 v1 v2 : Value} {φ0 φ1 φ2 : VT} {h : Hp} (h0 : φ0.p v0 h) (h1 : φ1.p v1 h) (h2 : φ2.p v2 h) (o0 : v0.oneCell' = true) (o1 : v1.oneCell' = true) (o2 : v2.oneCell' = true) :
    (aggT 3 [(0, .one, φ0), (1, .one, φ1), (2, .one, φ2)]).p (.agg #[v0, v1, v2]) h := by
  refine ⟨_, rfl, rfl, by simp [o0, o1, o2], fun q hq => ?_⟩
  rcases List.mem_cons.1 hq with rfl | hq
  · exact ⟨v0, rfl, h0⟩
  rcases List.mem_cons.1 hq with rfl | hq
  · exact ⟨v1, rfl, h1⟩
  rcases List.mem_cons.1 hq with rfl | hq
  · exact ⟨v2, rfl, h2⟩
  cases hq
theorem okWide_array {r : Reach} {b0 n : Nat} {t e : TypeId} {v : Value} (ht : P.underlying t = some (.array n e)) (h : Value.okWide P W r b0 t v) : ∃ cs, v = .agg cs ∧ cs.size = P.cellsOf t := by
  simp only [Value.okWide, ht] at h
  obtain ⟨cs, h1, h2, _⟩ := h
  exact ⟨cs, h1, h2⟩
/-- What a law's contract says of a call from the outside. -/
theorem Ok.outer {f : FuncId} {φs : List VT} {ψ : VT} (h : Ok P f φs ψ) {args : Array Value} (hp : tupP φs args.toList (view W)) : Calls P f args W (fun e W' => ∃ v, e = .returned v ∧ ψ.p v (view W') ∧ Below W.heap.size W W') := by
  have h0 := h W [] args.toList (fun b hb => by cases hb) (by
    have e : hid [] (view W) = view W := by funext b; simp [hid]
    rw [e]; exact hp)
  have e : args.toList.toArray = args := by simp
  rw [e] at h0
  refine Calls.mono h0 ?_
  rintro e w' ⟨v, rfl, hv', hext⟩
  have e : hid [] (view w') = view w' := by funext b; simp [hid]
  exact ⟨v, rfl, e ▸ hv', hext⟩
end
end Tor
namespace Go.Proofs.Ytmpnikllhpagcaa
open Go.ChangeShapes Go.WideShapes Go.ChangeAt Go.RowKit Go.Joins Tor

theorem valid_own : ownKnob Try.prog.godebug = none := by kernel_rfl
theorem valid_laid : laidOutB Try.prog = true := by kernel_rfl

set_option maxRecDepth 100000 in
theorem valid_lifted (os : Os) (started : os.Started) (H : Type) (enc : TypeId × Value → H) :
    ReturnsInHanded {} Try.checked os 3 .any (Rows.matrixValidMatchesReferenceSpec.pre6 enc Try.prog Try.f3 Rows.matrixValidMatchesReferenceRow.domain false) (Rows.matrixValidMatchesReferenceSpec.post enc Try.prog Try.f3 false true false false) := by
  refine returnsInHanded_of_change_sized (C := Try.checked) valid_own started (by kernel_rfl) Try.func3
    (ChangeSpec.witness6 (enc := enc) (C := Try.checked) false ⟨#[], #[.agg #[.int .u8 0, .int .u8 0, .slice none 0 0], .agg #[.int .i8 0, .int .i8 0, .int .i8 0], .agg #[.bool false, .slice none 0 0]], []⟩ 8 (by kernel_rfl) (by kernel_rfl) (by kernel_rfl) (by kernel_rfl)) ?_
  intro W base args ds gs before hval0 hW hcnd hsz0 _
  have hval : ∀ (j : Nat) t v, Try.f3.params[j]? = some t → args[j]? = some v → Value.okWide Try.prog W .any base t v := hval0
  have hsz : (DataW.weightsEach Try.prog (Try.f3.params.toList ++ Rows.matrixValidMatchesReferenceSpec.plain.varTypes Try.prog) (ds ++ gs)).all (· ≤ reachBytes) = true := hsz0
  have hW' := hW
  obtain ⟨p, q, hA0, hV, rfl, hfz, hnd⟩ := hW
  have hA : DataW.TrodAll enc Try.prog W 0 (fun _ => true) true Try.f3.params.toList args.toList ds p := hA0
  rw [Try.params3] at hA hval hsz
  obtain ⟨v0, v1, v2, d0, d1, d2, p0, p1, p2, rfl, rfl, rfl, h0, h1, h2⟩ := trodAll_three hA
  obtain ⟨rfl, rfl⟩ := trodVars_none hV
  have k0 := h0
  have k1 := h1
  have k2 := h2
  obtain ⟨a0, a1, a2, y0, y1, y2, n, rfl, rfl, rfl, g0, g1, g2⟩ := open_agg3 Try.underlying24 (by kernel_rfl) (by kernel_rfl) (hval 0 24 _ rfl rfl) h0
  obtain ⟨r, rfl⟩ := nat_of_trod Try.underlying5 g0
  obtain ⟨c, rfl⟩ := nat_of_trod Try.underlying5 g1
  obtain ⟨l, hl, _⟩ := num_of_trod Try.underlying22 Try.underlying25 (by kernel_rfl) (of_decide_eq_true (by kernel_rfl)) g2 (fun elems spare e => sized_slice (agg_weight hsz (j := 0) rfl rfl Try.underlying24) (j := 2) rfl (by show some y2.1 = _; rw [e]) Try.underlying22)
  obtain ⟨cs, rfl, hcs⟩ := okWide_array Try.underlying26 (hval 1 26 _ rfl rfl)
  obtain ⟨b0, b1, b2, rfl⟩ := array3 (hcs.trans (by kernel_rfl))
  obtain ⟨fu, hf⟩ := h1
  obtain ⟨z0, z1, z2, m, _, e0, e1, e2⟩ := trod_array3 Try.underlying26 (by kernel_rfl) hf
  obtain ⟨w0, rfl, _⟩ := int_of_trod Try.underlying25 e0
  obtain ⟨w1, rfl, _⟩ := int_of_trod Try.underlying25 e1
  obtain ⟨w2, rfl, _⟩ := int_of_trod Try.underlying25 e2
  obtain ⟨u0, u1, x0, x1, n', rfl, rfl, rfl, i0, i1⟩ := open_agg2 Try.underlying29 (by kernel_rfl) (by kernel_rfl) (hval 2 29 _ rfl rfl) h2
  obtain ⟨neg, rfl⟩ := bool_of_trod Try.underlying4 i0
  obtain ⟨lv, hlv⟩ := lim_of_trod Try.underlying27 Try.underlying79 (by kernel_rfl) (of_decide_eq_true (by kernel_rfl)) i1 (fun elems spare e => sized_slice (agg_weight hsz (j := 2) rfl rfl Try.underlying29) (j := 1) rfl (by show some x1.1 = _; rw [e]) Try.underlying27)
  have hp : tupP [rawInT r c l, w3T w0 w1 w2, rawT neg lv] (#[Value.agg #[.int .u8 r, .int .u8 c, a2], .agg #[.int .i8 w0, .int .i8 w1, .int .i8 w2], .agg #[.bool neg, u1]] : Array Value).toList (view W) :=
    ⟨agg3_p rfl rfl hl rfl rfl (one_slice hl), agg3_p rfl rfl rfl rfl rfl rfl, agg2_p rfl hlv rfl (one_slice hlv), trivial⟩
  refine (Ok.outer (validLaw_ok r c l w0 w1 w2 neg lv) hp).mono fun e W' ⟨v, he, hv, hw⟩ => ?_
  subst he
  have hv : v = .bool true := hv
  subst hv
  refine ⟨_, rfl, _, [], _, [], _, [], hW', trodAll_mk1 (shut_bool Try.underlying4 true), trodAll_mk3
    (Below.trod valid_laid (by kernel_rfl) (of_decide_eq_true (by kernel_rfl)) k0 hw (fun x hx => by simpa using hW'.lt x (by simp only [List.mem_append] at hx ⊢; simp [hx])))
    (Below.trod valid_laid (by kernel_rfl) (of_decide_eq_true (by kernel_rfl)) k1 hw (fun x hx => by simpa using hW'.lt x (by simp only [List.mem_append] at hx ⊢; simp [hx])))
    (Below.trod valid_laid (by kernel_rfl) (of_decide_eq_true (by kernel_rfl)) k2 hw (fun x hx => by simpa using hW'.lt x (by simp only [List.mem_append] at hx ⊢; simp [hx]))), rfl, hw.frame _, fun h => by cases h⟩

theorem valid_holds : Rows.MatrixValidMatchesReferenceSaid :=
  OpenClaim.holds_of_wide 3 Try.f3 rfl rfl rfl rfl rfl rfl rfl ⟨rfl, rfl, rfl, rfl, rfl⟩ rfl rfl rfl rfl rfl (by kernel_rfl) Try.func3 (by kernel_rfl)
    (of_decide_eq_true (by kernel_rfl)) (by unfold Func.isWrapper; first | (rw [if_pos (by decide +kernel)]; kernel_rfl) | (rw [if_neg (by decide +kernel)]; exact ⟨rfl, rfl⟩))
    (fun os started H enc _ => valid_lifted os started H enc)
end Go.Proofs.Ytmpnikllhpagcaa
