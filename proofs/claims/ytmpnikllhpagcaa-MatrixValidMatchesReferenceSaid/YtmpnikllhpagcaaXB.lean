/-
  torsionlaw05: the fixed examples: what each call gives.
-/
import Derived.Test.YtmpnikllhpagcaaXA
set_option linter.unusedVariables false
set_option linter.unusedSimpArgs false
namespace Tor
open Go Go.RowKit Go.Proofs
/-- A matrix that is given row by row. -/
def intsF (c : Nat) (l : List Int) : Nat → Nat → Int := fun i j => l.getD (i * c + j) 0
def IN (r c : Nat) (l : List Int) : VT := matF r c (intsF c l)
def eqOn (r c : Nat) (F G : Nat → Nat → Int) : Bool := (List.range r).all fun i => (List.range c).all fun j => F i j == G i j
theorem eqOn_le {r c : Nat} {F G : Nat → Nat → Int} (h : eqOn r c F G = true) : VT.le (matF r c F) (matF r c G) :=
  matF_le fun i j hi hj => by
    simp only [eqOn, List.all_eq_true, List.mem_range, beq_iff_eq] at h
    exact h i hi j hj
theorem num_le (k : IntKind) (l : List Int) : VT.le (slT .one l.length (fun q => (l.map fun x => one (.int k x)).getD q anyT)) (numT k l) := by
  unfold numT
  refine slT_le fun i hi => ?_
  simp only [List.getD, List.getElem?_map, List.getElem?_eq_getElem hi, Option.map_some, Option.getD_some]
  exact VT.le_refl _
theorem vec_le (l : List Int) : VT.le (slT (.agg 2) l.length (fun q => (l.map bigT).getD q anyT)) (rowF l.length (fun j => l.getD j 0)) := by
  unfold rowF
  refine slT_le fun i hi => ?_
  simp only [List.getD, List.getElem?_map, List.getElem?_eq_getElem hi, Option.map_some, Option.getD_some]
  exact VT.le_refl _
theorem rowF_vec' (l : List Int) : VT.le (rowF l.length (fun j => l.getD j 0)) (vecT l) := VT.le_refl _
theorem rowF_le {n : Nat} {f g : Nat → Int} (h : ((List.range n).all fun j => f j == g j) = true) : VT.le (rowF n f) (rowF n g) := by
  unfold rowF
  refine slT_le fun j hj => ?_
  simp only [List.all_eq_true, List.mem_range, beq_iff_eq] at h
  exact le_eq (by rw [h j hj])
instance (x : Int) : Decidable (mod4 x) := inferInstanceAs (Decidable (_ ≤ _))
theorem mod4_ints {c : Nat} {l : List Int} (h : ∀ x ∈ l, mod4 x) : ∀ i j, mod4 (intsF c l i j) := fun i j => getD_mem h (Nat.zero_le _)
theorem mod4_list {l : List Int} (h : ∀ x ∈ l, mod4 x) : ∀ j, mod4 (l.getD j 0) := fun j => getD_mem h (Nat.zero_le _)
theorem mod4_zero : ∀ i j : Nat, mod4 ((fun _ _ => 0 : Nat → Nat → Int) i j) := fun i j => Nat.zero_le _
theorem small_ints {c : Nat} {l : List Int} (h : ∀ x ∈ l, mod4 x) : ∀ i j, small (intsF c l i j) := fun i j => mod4_small (mod4_ints h i j)
theorem i64_ints {l : List Int} (h : (l.all fun x => decide (-9223372036854775808 ≤ x) && decide (x ≤ 9223372036854775807)) = true) : ∀ x ∈ l, -9223372036854775808 ≤ x ∧ x ≤ 9223372036854775807 := fun x hx => by
  have := List.all_eq_true.1 h x hx
  simpa using this
theorem rSameF_ok (r c r' c' : Nat) (F G : Nat → Nat → Int) (hr : r ≤ 1048576) : Ok Try.prog 23 [matF r c F, matF r' c' G] (one (.bool (decide ((r : Int) = r' ∧ (c : Int) = c' ∧ tab r c F = tab r' c' G)))) :=
  (rSameMat_ok r c r' c' (tab r c F) (tab r' c' G) (by simp; omega)).le ⟨matF_mat _ _ _, matF_mat _ _ _, trivial⟩ (VT.le_refl _)
theorem same_self (r c : Nat) (F : Nat → Nat → Int) (hr : r ≤ 1048576) : Ok Try.prog 23 [matF r c F, matF r c F] (one (.bool true)) := by
  have h := rSameF_ok r c r c F F hr
  simpa using h
theorem sameVec_self (l : List Int) : Ok Try.prog 32 [vecT l, vecT l] (one (.bool true)) := by
  have h := rSameVec_ok l l
  simpa using h
theorem ints_ok (r c : Nat) (l : List Int) (hr : r ≤ 1048576) (hc : c ≤ 1048576) (h : (l.all fun x => decide (-9223372036854775808 ≤ x) && decide (x ≤ 9223372036854775807)) = true) : Ok Try.prog 52 [one (.int .i64 r), one (.int .i64 c), numT .i64 l] (IN r c l) := rInts_ok r c l hr hc (i64_ints h)
theorem new_mat (r c : Nat) (hr : r ≤ 1048576) (hc : c ≤ 1048576) : Ok Try.prog 28 [one (.int .i64 r), one (.int .i64 c)] (matF r c (fun _ _ => 0)) := (rNew_ok r c hr hc).ok fun s => newT_mat _ s
theorem resT_le {ok : Bool} {e : Int} {r c : Nat} {F G : Nat → Nat → Int} (h : ok = true) (hF : VT.le (matF r c F) (matF r c G)) : VT.le (resT ok e r c F) (tupT [matF r c G, one (.int .i64 0)]) := by
  subst h
  unfold resT
  rintro v g ⟨vs, h1, h2⟩
  refine ⟨vs, h1, ?_⟩
  match vs, h2 with
  | [a, b], ⟨p, q, _⟩ => exact ⟨hF _ _ p, q, trivial⟩
theorem resT_bad {ok : Bool} {e : Int} {r c : Nat} {F : Nat → Nat → Int} (h : ok = false) : VT.le (resT ok e r c F) (tupT [matF 0 0 F, one (.int .i64 e)]) := by
  subst h; exact VT.le_refl _
theorem resV_le {ok : Bool} {e : Int} {n : Nat} {f g : Nat → Int} (h : ok = true) (hf : VT.le (rowF n f) (rowF n g)) : VT.le (resV ok e n f) (tupT [rowF n g, one (.int .i64 0)]) := by
  subst h
  unfold resV
  rintro v k ⟨vs, h1, h2⟩
  refine ⟨vs, h1, ?_⟩
  match vs, h2 with
  | [a, b], ⟨p, q, _⟩ => exact ⟨hf _ _ p, q, trivial⟩
def row (l : List Int) : VT := rowF l.length (fun j => l.getD j 0)
theorem ex_a : Ok Try.prog 20 [IN 2 2 [1, 2, 3, 4], IN 2 2 [0, 1, 1, 0]] (tupT [IN 2 2 [2, 1, 4, 3], one (.int .i64 0)]) :=
  (MMul_ok 2 2 _ 2 2 _ (by decide) (by decide) (by decide) (mod4_ints (by decide +kernel)) (mod4_ints (by decide +kernel))).le (leAll_refl _) (resT_le (by decide) (eqOn_le (by decide +kernel)))
theorem ex_b : Ok Try.prog 30 [row [1, -1], IN 2 2 [1, 2, 3, 4]] (tupT [row [-2, -2], one (.int .i64 0)]) :=
  (Times_ok 2 (fun j => [1, -1].getD j 0) 2 2 _ (by decide) (by decide) (mod4_list (by decide +kernel)) (mod4_ints (by decide +kernel))).le (leAll_refl _) (resV_le (by decide) (rowF_le (by decide +kernel)))
theorem ex_c : Ok Try.prog 17 [IN 1 2 [1, 2], IN 1 2 [3, 4]] (tupT [IN 2 2 [1, 2, 3, 4], one (.int .i64 0)]) :=
  (Stack_ok 1 2 _ 1 2 _ (by decide) (by decide) (by decide) (small_ints (by decide +kernel)) (small_ints (by decide +kernel))).le (leAll_refl _) (resT_le (by decide) (eqOn_le (by decide +kernel)))
theorem ex_d : Ok Try.prog 18 [IN 2 1 [1, 2], IN 2 1 [3, 4]] (tupT [IN 2 2 [1, 3, 2, 4], one (.int .i64 0)]) :=
  (Beside_ok 2 1 _ 2 1 _ (by decide) (by decide) (by decide) (small_ints (by decide +kernel)) (small_ints (by decide +kernel))).le (leAll_refl _) (resT_le (by decide) (eqOn_le (by decide +kernel)))
theorem ex_p : Ok Try.prog 25 [IN 2 3 [1, 2, 3, 4, 5, 6], numT .i64 [1, 1], numT .i64 [2, 0]] (tupT [IN 2 2 [6, 4, 6, 4], one (.int .i64 0)]) :=
  (Pick_ok 2 3 _ [1, 1] [2, 0] (by decide) (by decide) (small_ints (by decide +kernel))).le (leAll_refl _) (resT_le (by decide) (eqOn_le (by decide +kernel)))
theorem ex_z : Ok Try.prog 20 [matF 2 0 (fun _ _ => 0), matF 0 3 (fun _ _ => 0)] (tupT [matF 2 3 (fun _ _ => 0), one (.int .i64 0)]) :=
  (MMul_ok 2 0 _ 0 3 _ (by decide) (by decide) (by decide) mod4_zero mod4_zero).le (leAll_refl _) (resT_le (by decide) (eqOn_le (by decide +kernel)))
theorem ex_k : Ok Try.prog 20 [IN 1 2 [1, 2], IN 1 2 [1, 2]] (tupT [matF 0 0 (mulF 2 (intsF 2 [1, 2]) (intsF 2 [1, 2])), one (.int .i64 50)]) :=
  (MMul_ok 1 2 _ 1 2 _ (by decide) (by decide) (by decide) (mod4_ints (by decide +kernel)) (mod4_ints (by decide +kernel))).le (leAll_refl _) (resT_bad (by decide))
theorem ex_l : Ok Try.prog 25 [IN 2 2 [1, 2, 3, 4], numT .i64 [2], numT .i64 []] (tupT [matF 0 0 (pickF [2] [] (intsF 2 [1, 2, 3, 4])), one (.int .i64 1)]) :=
  (Pick_ok 2 2 _ [2] [] (by decide) (by decide) (small_ints (by decide +kernel))).le (leAll_refl _) (resT_bad (by decide))
theorem ex_n : Ok Try.prog 33 [row [1], row []] (tupT [bigT 0, one (.int .i64 50)]) :=
  (Dot_ok 1 0 (fun j => [1].getD j 0) (fun j => [].getD j 0) (by decide) (by decide) (mod4_list (by decide +kernel)) (mod4_list (by decide +kernel))).le (leAll_refl _) (VT.le_refl _)
theorem ex_v1 : Ok Try.prog 13 [rawMatT 1 0 []] (one (.bool false)) := by
  have h := matValid_ok 1 0 []
  have e : validM 1 0 [] = false := by decide
  rwa [e] at h
theorem ex_z1 : Ok Try.prog 36 [vecT []] (one (.bool true)) := Zero_ok []
theorem ex_z2 : Ok Try.prog 36 [vecT [1, 2]] (one (.bool false)) := by
  have h := Zero_ok [1, 2]
  have e : ([1, 2].all fun x : Int => decide (x = 0)) = false := by decide
  rwa [e] at h
end Tor
