/-
  Limbs to the base 2^32: plain facts on lists of numbers.
  No condition.
-/
import Derived.Test.YtmpnikllhpagcaaTy
set_option linter.unusedVariables false
namespace Tor

/-- The value of limbs, the least significant first. -/
def lv : List Nat → Nat
  | [] => 0
  | d :: l => d + 4294967296 * lv l
def Limbs (l : List Nat) : Prop := ∀ d ∈ l, d < 4294967296
/-- No zero limb at the end. -/
def Trimmed : List Nat → Prop
  | [] => True
  | [d] => d ≠ 0
  | _ :: d :: l => Trimmed (d :: l)
def digsF : Nat → Nat → List Nat
  | 0, _ => []
  | f + 1, n => if n = 0 then [] else n % 4294967296 :: digsF f (n / 4294967296)
/-- The limbs of a number. -/
def digs (n : Nat) : List Nat := digsF n n

theorem digsF_eq : ∀ (f n : Nat), n ≤ f → ∀ g, n ≤ g → digsF f n = digsF g n
  | 0, n, h, g, hg => by
    have : n = 0 := by omega
    subst this; cases g <;> simp [digsF]
  | f + 1, n, h, 0, hg => by
    have : n = 0 := by omega
    subst this; simp [digsF]
  | f + 1, n, h, g + 1, hg => by
    simp only [digsF]
    split
    · rfl
    · rw [digsF_eq f (n / 4294967296) (by omega) g (by omega)]
theorem digs_zero : digs 0 = [] := rfl
theorem digs_pos {n : Nat} (h : n ≠ 0) : digs n = n % 4294967296 :: digs (n / 4294967296) := by
  unfold digs
  obtain ⟨m, rfl⟩ : ∃ m, n = m + 1 := ⟨n - 1, by omega⟩
  rw [digsF, if_neg h, digsF_eq m _ (by omega) ((m + 1) / 4294967296) (Nat.le_refl _)]
theorem lv_digs (n : Nat) : lv (digs n) = n := by
  induction n using Nat.strongRecOn with
  | _ n ih =>
    by_cases h : n = 0
    · subst h; rfl
    · rw [digs_pos h, lv, ih _ (by omega)]; omega
theorem limbs_digs (n : Nat) : Limbs (digs n) := by
  induction n using Nat.strongRecOn with
  | _ n ih =>
    by_cases h : n = 0
    · subst h; intro d hd; cases hd
    · rw [digs_pos h]; intro d hd
      rcases List.mem_cons.1 hd with rfl | hd
      · omega
      · exact ih _ (by omega) d hd
theorem Limbs.tail {d : Nat} {l : List Nat} (h : Limbs (d :: l)) : Limbs l := fun x hx => h x (List.mem_cons_of_mem _ hx)
theorem Limbs.head {d : Nat} {l : List Nat} (h : Limbs (d :: l)) : d < 4294967296 := h d List.mem_cons_self
theorem lv_pos : ∀ {l : List Nat}, l ≠ [] → Trimmed l → 0 < lv l
  | [], h, _ => absurd rfl h
  | [d], _, h => by have h : d ≠ 0 := h; simp only [lv]; omega
  | d :: e :: l, _, h => by have := lv_pos (l := e :: l) (by simp) h; simp only [lv] at *; omega
theorem Trimmed.tail {d : Nat} : ∀ {l : List Nat}, Trimmed (d :: l) → Trimmed l
  | [], _ => trivial
  | _ :: _, h => h
/-- Limbs without a zero at the end are those of their value. -/
theorem digs_lv : ∀ {l : List Nat}, Limbs l → Trimmed l → digs (lv l) = l
  | [], _, _ => rfl
  | d :: l, hl, ht => by
    have h0 : lv (d :: l) ≠ 0 := by have := lv_pos (l := d :: l) (by simp) ht; omega
    have hd := hl.head
    rw [digs_pos h0]
    simp only [lv]
    rw [show (d + 4294967296 * lv l) % 4294967296 = d by omega, show (d + 4294967296 * lv l) / 4294967296 = lv l by omega, digs_lv hl.tail ht.tail]
theorem trimmed_digs (n : Nat) : Trimmed (digs n) := by
  induction n using Nat.strongRecOn with
  | _ n ih =>
    by_cases h : n = 0
    · subst h; trivial
    · rw [digs_pos h]
      have := ih (n / 4294967296) (by omega)
      by_cases h2 : n / 4294967296 = 0
      · rw [h2, digs_zero]; show n % 4294967296 ≠ 0; omega
      · rw [digs_pos h2] at this ⊢; exact this
theorem lv_append (l m : List Nat) : lv (l ++ m) = lv l + 4294967296 ^ l.length * lv m := by
  induction l with
  | nil => simp [lv]
  | cons d l ih =>
    simp only [List.cons_append, lv, ih, List.length_cons, Nat.pow_succ, Nat.mul_add]
    have : 4294967296 * (4294967296 ^ l.length * lv m) = 4294967296 ^ l.length * 4294967296 * lv m := by
      rw [← Nat.mul_assoc, Nat.mul_comm 4294967296]
    omega
theorem lv_lt : ∀ {l : List Nat}, Limbs l → lv l < 4294967296 ^ l.length
  | [], _ => by simp [lv]
  | d :: l, h => by
    have := lv_lt h.tail
    have hd := h.head
    simp only [lv, List.length_cons, Nat.pow_succ]
    have h2 : lv l + 1 ≤ 4294967296 ^ l.length := this
    have := Nat.mul_le_mul_right 4294967296 h2
    omega
theorem take_succ_getD {l : List Nat} {k : Nat} (h : k < l.length) : l.take (k + 1) = l.take k ++ [l.getD k 0] := by
  rw [List.take_add_one]; simp [List.getD, h]
theorem lv_take_succ {l : List Nat} {k : Nat} (h : k < l.length) : lv (l.take (k + 1)) = lv (l.take k) + 4294967296 ^ k * l.getD k 0 := by
  rw [take_succ_getD h, lv_append, List.length_take_of_le (by omega)]; simp [lv]
theorem getD_lt {l : List Nat} (h : Limbs l) (k : Nat) : l.getD k 0 < 4294967296 := by
  by_cases hk : k < l.length
  · have : l.getD k 0 = l[k] := by simp [List.getD, hk]
    rw [this]; exact h _ (List.getElem_mem hk)
  · have : l.getD k 0 = 0 := by simp [List.getD, List.getElem?_eq_none (Nat.le_of_not_lt hk)]
    omega
theorem getD_snoc (l : List Nat) (x q : Nat) : (l ++ [x]).getD q 0 = if q = l.length then x else l.getD q 0 := by
  simp only [List.getD, List.getElem?_append]
  by_cases h : q < l.length
  · rw [if_pos h, if_neg (by omega)]
  · rw [if_neg h]
    by_cases h2 : q = l.length
    · subst h2; simp
    · rw [if_neg h2, List.getElem?_eq_none (by simp; omega), List.getElem?_eq_none (by omega)]
theorem Limbs.take {l : List Nat} (h : Limbs l) (k : Nat) : Limbs (l.take k) := fun d hd => h d (List.mem_of_mem_take hd)
theorem lv_zero_tail {l : List Nat} (k : Nat) (h : ∀ i, k ≤ i → l.getD i 0 = 0) : lv l = lv (l.take k) := by
  induction l generalizing k with
  | nil => simp
  | cons d l ih =>
    cases k with
    | zero =>
      have h0 := h 0 (Nat.le_refl _)
      have := ih 0 (fun i _ => by have := h (i + 1) (by omega); simpa using this)
      simp only [List.take_zero, lv] at *
      simp at h0; omega
    | succ k =>
      simp only [List.take_succ_cons, lv]
      rw [ih k (fun i hi => by have := h (i + 1) (by omega); simpa using this)]

/-- Where trim cuts. -/
def trimN (l : List Nat) : Nat → Nat
  | 0 => 0
  | n + 1 => if l.getD n 0 = 0 then trimN l n else n + 1
theorem trimN_le (l : List Nat) : ∀ n, trimN l n ≤ n
  | 0 => Nat.le_refl _
  | n + 1 => by rw [trimN]; split; · have := trimN_le l n; omega
                · exact Nat.le_refl _
theorem trimmed_take {l : List Nat} : ∀ {n : Nat}, n < l.length → l.getD n 0 ≠ 0 → Trimmed (l.take (n + 1)) := by
  induction l with
  | nil => intro n h; simp at h
  | cons d l ih =>
    intro n h h0
    cases n with
    | zero => simp at h0 ⊢; exact h0
    | succ n =>
      have := ih (n := n) (by simpa using h) (by simpa using h0)
      rw [List.take_succ_cons]
      cases hl : l.take (n + 1) with
      | nil => rw [List.take_eq_nil_iff] at hl; rcases hl with hl | hl
               · omega
               · subst hl; simp at h
      | cons e r => rw [hl] at this; exact this
theorem take_trim {l : List Nat} (hl : Limbs l) : ∀ {n : Nat}, n ≤ l.length → lv l = lv (l.take n) → l.take (trimN l n) = digs (lv l)
  | 0, _, h => by rw [trimN, h]; simp [lv, digs_zero]
  | n + 1, hn, h => by
    rw [trimN]
    split
    · rename_i h0
      refine take_trim hl (by omega) ?_
      rw [h, lv_take_succ (by omega), h0]; simp
    · rename_i h0
      rw [h]
      exact (digs_lv (hl.take _) (trimmed_take (by omega) h0)).symm
theorem take_trimN {l : List Nat} (hl : Limbs l) : l.take (trimN l l.length) = digs (lv l) := take_trim hl (Nat.le_refl _) (by rw [List.take_length])

/-- How many limbs a number has. -/
def nlen (x : Int) : Nat := (digs x.natAbs).length
theorem digs_len_le : ∀ {k n : Nat}, n < 4294967296 ^ k → (digs n).length ≤ k
  | 0, n, h => by have : n = 0 := by simpa using h
                  subst this; simp [digs_zero]
  | k + 1, n, h => by
    by_cases h0 : n = 0
    · subst h0; simp [digs_zero]
    · rw [digs_pos h0, List.length_cons]
      have : n / 4294967296 < 4294967296 ^ k := by
        rw [Nat.pow_succ] at h
        exact Nat.div_lt_of_lt_mul (by rw [Nat.mul_comm]; exact h)
      have := digs_len_le this
      omega
theorem lt_of_digs_len (n : Nat) : n < 4294967296 ^ (digs n).length := by
  have := lv_lt (limbs_digs n); rwa [lv_digs] at this
theorem digs_inj {a b : Nat} (h : digs a = digs b) : a = b := by rw [← lv_digs a, ← lv_digs b, h]

theorem lv_split (l : List Nat) (k : Nat) (hk : k ≤ l.length) : lv l = lv (l.take k) + 4294967296 ^ k * lv (l.drop k) := by
  have h := lv_append (l.take k) (l.drop k)
  rwa [List.take_append_drop, List.length_take_of_le hk] at h
theorem drop_getD {l : List Nat} {k : Nat} (h : k < l.length) : l.drop k = l.getD k 0 :: l.drop (k + 1) := by
  rw [List.drop_eq_getElem_cons h]; simp [List.getD, h]
theorem lv_cmp {l m : List Nat} (hl : Limbs l) (hm : Limbs m) (hn : l.length = m.length) {i : Nat} (hi : i < l.length) (hd : l.drop (i + 1) = m.drop (i + 1)) (hlt : l.getD i 0 < m.getD i 0) : lv l < lv m := by
  have e1 := drop_getD hi
  have e2 := drop_getD (hn ▸ hi : i < m.length)
  rw [lv_split l i (by omega), lv_split m i (by omega), e1, e2, hd]
  simp only [lv]
  have h1 := lv_lt (hl.take i)
  rw [List.length_take_of_le (by omega)] at h1
  generalize 4294967296 ^ i = B at *
  generalize lv (m.drop (i + 1)) = t
  have h2 : B * (l.getD i 0 + 4294967296 * t) + B ≤ B * (m.getD i 0 + 4294967296 * t) := by
    rw [← Nat.mul_succ]; exact Nat.mul_le_mul_left B (by omega)
  omega
theorem digs_len_mono {a b : Nat} (h : (digs a).length < (digs b).length) : a < b := by
  rcases Nat.lt_or_ge a b with h' | h'
  · exact h'
  · have h1 : b < 4294967296 ^ (digs a).length := Nat.lt_of_le_of_lt h' (lt_of_digs_len a)
    have := digs_len_le h1; omega
theorem digs_len_le' {a b : Nat} (h : a ≤ b) : (digs a).length ≤ (digs b).length := digs_len_le (Nat.lt_of_le_of_lt h (lt_of_digs_len b))
def cmpI (a b : Int) : Int := if a < b then -1 else if b < a then 1 else 0
def cmpN (a b : Nat) : Int := if a < b then -1 else if b < a then 1 else 0
theorem getD_setL {l : List Nat} {k v q : Nat} (h : k < l.length) : (l.set k v).getD q 0 = if q = k then v else l.getD q 0 := by
  simp only [List.getD, List.getElem?_set]
  by_cases e : k = q
  · subst e; simp [h]
  · rw [if_neg e, if_neg (fun h => e h.symm)]
theorem lv_set {l : List Nat} : ∀ {k v : Nat}, k < l.length → lv (l.set k v) + 4294967296 ^ k * l.getD k 0 = lv l + 4294967296 ^ k * v := by
  induction l with
  | nil => intro k v h; simp at h
  | cons d l ih =>
    intro k v h
    cases k with
    | zero => simp [lv]; omega
    | succ k =>
      have := ih (k := k) (v := v) (by simpa using h)
      simp only [List.set_cons_succ, lv, List.getD_cons_succ, Nat.pow_succ]
      have e1 : 4294967296 ^ k * 4294967296 * l.getD k 0 = 4294967296 * (4294967296 ^ k * l.getD k 0) := by rw [Nat.mul_comm (4294967296 ^ k), Nat.mul_assoc]
      have e2 : 4294967296 ^ k * 4294967296 * v = 4294967296 * (4294967296 ^ k * v) := by rw [Nat.mul_comm (4294967296 ^ k), Nat.mul_assoc]
      rw [e1, e2]; omega
theorem Limbs.set {l : List Nat} (h : Limbs l) {k v : Nat} (hv : v < 4294967296) : Limbs (l.set k v) := fun d hd => by
  rcases List.mem_or_eq_of_mem_set hd with h' | h'
  · exact h d h'
  · omega
theorem mul_lim {a b c d : Nat} (ha : a < 4294967296) (hb : b < 4294967296) (hc : c < 4294967296) (hd : d < 4294967296) : d + (a * b + c) < 18446744073709551616 ∧ a * b < 18446744073709551616 ∧ a * b + c < 18446744073709551616 := by
  have : a * b ≤ 4294967295 * 4294967295 := Nat.mul_le_mul (by omega) (by omega)
  omega
end Tor
