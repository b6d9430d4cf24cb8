/- Standings: the number of the last element with a property; the greatest common divisor; fractions. Plain Lean: no program in sight. -/
import Derived.Test.YtdnmoppegncioaaGreatDoorProg
namespace Go.Proofs.YtdnmoppegncioaaGreatDoor
set_option linter.unusedVariables false
set_option linter.unusedSimpArgs false

/-- The number, from 1 on, of the last element with a property; 0 if there is none. -/
def fLast {α : Type} (p : α → Bool) (l : List α) : Nat := l.length - l.reverse.findIdx p
theorem fLast_nil {α : Type} (p : α → Bool) : fLast p [] = 0 := rfl
theorem fLast_snoc {α : Type} (p : α → Bool) (l : List α) (x : α) : fLast p (l ++ [x]) = if p x then l.length + 1 else fLast p l := by
  unfold fLast
  rw [List.reverse_append, List.reverse_cons, List.reverse_nil, List.nil_append, List.singleton_append, List.findIdx_cons]
  cases p x <;> simp <;> omega
theorem fLast_le {α : Type} (p : α → Bool) (l : List α) : fLast p l ≤ l.length := by unfold fLast; omega
theorem fLast_take {α : Type} (p : α → Bool) (l : List α) (z : α) (k : Nat) (hk : k < l.length) : fLast p (l.take (k + 1)) = if p (l.getD k z) then k + 1 else fLast p (l.take k) := by
  rw [List.take_succ_eq_append_getElem hk, fLast_snoc, show l.getD k z = l[k] from by simp [List.getElem?_eq_getElem hk]]
  rw [List.length_take, Nat.min_eq_left (Nat.le_of_lt hk)]
theorem fLast_after {α : Type} (p : α → Bool) (l : List α) (z : α) (k : Nat) (hk : k ≤ l.length) (h0 : ∀ j, k ≤ j → j < l.length → p (l.getD j z) = false) : fLast p l = fLast p (l.take k) := by
  suffices h : ∀ d, k + d ≤ l.length → fLast p (l.take (k + d)) = fLast p (l.take k) by
    have := h (l.length - k) (by omega)
    rwa [show k + (l.length - k) = l.length from by omega, List.take_length] at this
  intro d
  induction d with
  | zero => intro _; rfl
  | succ d ih =>
    intro hd
    rw [show k + (d + 1) = (k + d) + 1 from rfl, fLast_take p l z (k + d) (by omega), h0 (k + d) (by omega) (by omega)]
    exact ih (by omega)
theorem fLast_hit {α : Type} (p : α → Bool) (l : List α) (z : α) (k : Nat) (hk : k < l.length) (h0 : ∀ j, k < j → j < l.length → p (l.getD j z) = false) (h1 : p (l.getD k z) = true) : fLast p l = k + 1 := by
  rw [fLast_after p l z (k + 1) hk (fun j hj hl => h0 j (by omega) hl), fLast_take p l z k hk, h1]
  rfl
theorem fLast_miss {α : Type} (p : α → Bool) (l : List α) (z : α) (h0 : ∀ j, j < l.length → p (l.getD j z) = false) : fLast p l = 0 := by
  rw [fLast_after p l z 0 (Nat.zero_le _) (fun j _ hl => h0 j hl)]
  rfl
theorem snoc_rec {α : Type} {P : List α → Prop} (h0 : P []) (h1 : ∀ l x, P l → P (l ++ [x])) (l : List α) : P l := by
  suffices h : ∀ r : List α, P r.reverse by have := h l.reverse; rwa [List.reverse_reverse] at this
  intro r
  induction r with
  | nil => exact h0
  | cons x r ih => rw [List.reverse_cons]; exact h1 _ _ ih
theorem getD_snoc {α : Type} (l : List α) (x z : α) (j : Nat) : (l ++ [x]).getD j z = if j < l.length then l.getD j z else if j = l.length then x else z := by
  by_cases h : j < l.length
  · rw [if_pos h]; simp [List.getElem?_append_left h]
  · rw [if_neg h]
    by_cases h2 : j = l.length
    · rw [if_pos h2, h2]; simp
    · rw [if_neg h2]
      rw [List.getD_eq_getElem?_getD, List.getElem?_append_right (by omega), List.getElem?_eq_none (by simp; omega)]
      rfl
theorem fLast_spec {α : Type} (p : α → Bool) (z : α) (l : List α) : (0 < fLast p l → p (l.getD (fLast p l - 1) z) = true) ∧ ∀ j, fLast p l ≤ j → j < l.length → p (l.getD j z) = false := by
  induction l using snoc_rec with
  | h0 => exact ⟨fun h => absurd h (Nat.lt_irrefl 0), fun j _ hj => absurd hj (Nat.not_lt_zero _)⟩
  | h1 l x ih =>
    have hle := fLast_le p l
    rw [fLast_snoc]
    cases hx : p x with
    | true =>
      rw [if_pos rfl]
      refine ⟨fun _ => ?_, fun j hj hl => ?_⟩
      · rw [getD_snoc, if_neg (by omega), if_pos (by omega)]; exact hx
      · rw [List.length_append, List.length_singleton] at hl; omega
    | false =>
      rw [if_neg (by simp)]
      refine ⟨fun h => ?_, fun j hj hl => ?_⟩
      · rw [getD_snoc, if_pos (by omega)]; exact ih.1 h
      · rw [List.length_append, List.length_singleton] at hl
        rw [getD_snoc]
        by_cases h : j < l.length
        · rw [if_pos h]; exact ih.2 j hj h
        · rw [if_neg h, if_pos (by omega)]; exact hx
theorem fLast_mono {α : Type} (p q : α → Bool) (l : List α) (h : ∀ x ∈ l, p x = true → q x = true) : fLast p l ≤ fLast q l := by
  induction l using snoc_rec with
  | h0 => exact Nat.le_refl _
  | h1 l x ih =>
    have h1 := ih (fun y hy => h y (List.mem_append_left _ hy))
    have hx := h x (List.mem_append_right _ (List.mem_singleton.2 rfl))
    have hle := fLast_le p l
    rw [fLast_snoc, fLast_snoc]
    cases hp : p x <;> cases hq : q x <;> simp_all <;> omega
theorem fLast_congr {α : Type} (p q : α → Bool) (l : List α) (h : ∀ x ∈ l, p x = q x) : fLast p l = fLast q l := by
  induction l using snoc_rec with
  | h0 => rfl
  | h1 l x ih =>
    rw [fLast_snoc, fLast_snoc, ih (fun y hy => h y (List.mem_append_left _ hy)), h x (List.mem_append_right _ (List.mem_singleton.2 rfl))]
theorem fLast_map {α β : Type} (p : β → Bool) (f : α → β) (l : List α) : fLast p (l.map f) = fLast (fun x => p (f x)) l := by
  induction l using snoc_rec with
  | h0 => rfl
  | h1 l x ih => rw [List.map_append, List.map_cons, List.map_nil, fLast_snoc, fLast_snoc, ih, List.length_map]
theorem fLast_pos {α : Type} (p : α → Bool) (l : List α) : decide (0 < fLast p l) = l.any p := by
  induction l using snoc_rec with
  | h0 => rfl
  | h1 l x ih =>
    rw [fLast_snoc, List.any_append, ← ih]
    cases h : p x
    · rw [if_neg (by simp)]; simp [h]
    · rw [if_pos rfl]; simp [h]

/-- Fractions: numerator and denominator are bounded by 2^30, and in lowest terms. -/
def fMost : Int := 1073741824
def fRatio (n d : Int) : Bool := decide (1 ≤ d) && decide (d ≤ fMost) && decide (-fMost ≤ n) && decide (n ≤ fMost) && (Nat.gcd n.natAbs d.natAbs == 1)
/-- The sign of the comparison of two fractions. -/
def fSign (x y : Int) : Int := if x < y then -1 else if y < x then 1 else 0
theorem fSign_le (x y : Int) : decide (fSign x y ≤ 0) = decide (x ≤ y) := by
  unfold fSign
  by_cases h : x < y
  · rw [if_pos h]; simp; omega
  · rw [if_neg h]
    by_cases h2 : y < x
    · rw [if_pos h2]; simp; omega
    · rw [if_neg h2]; simp; omega
theorem prod_bound (a b : Int) (ha : -fMost ≤ a) (ha2 : a ≤ fMost) (hb : 1 ≤ b) (hb2 : b ≤ fMost) : -1152921504606846976 ≤ a * b ∧ a * b ≤ 1152921504606846976 := by
  unfold fMost at *
  have h1 : a * b ≤ 1073741824 * b := Int.mul_le_mul_of_nonneg_right ha2 (by omega)
  have h2 : -1073741824 * b ≤ a * b := Int.mul_le_mul_of_nonneg_right ha (by omega)
  omega
/-- A fraction that is at least another one that is at least a third one. -/
theorem cross_trans (a b c d e f : Int) (hb : 1 ≤ b) (hd : 1 ≤ d) (hf : 1 ≤ f) (h1 : a * d ≤ c * b) (h2 : c * f ≤ e * d) : a * f ≤ e * b := by
  have h3 : (a * d) * f ≤ (c * b) * f := Int.mul_le_mul_of_nonneg_right h1 (by omega)
  have h4 : (c * f) * b ≤ (e * d) * b := Int.mul_le_mul_of_nonneg_right h2 (by omega)
  have h5 : (a * f) * d ≤ (e * b) * d := by
    calc (a * f) * d = (a * d) * f := by rw [Int.mul_assoc, Int.mul_comm f d, ← Int.mul_assoc]
      _ ≤ (c * b) * f := h3
      _ = (c * f) * b := by rw [Int.mul_assoc, Int.mul_comm b f, ← Int.mul_assoc]
      _ ≤ (e * d) * b := h4
      _ = (e * b) * d := by rw [Int.mul_assoc, Int.mul_comm d b, ← Int.mul_assoc]
  exact Int.le_of_mul_le_mul_right h5 (by omega)
end Go.Proofs.YtdnmoppegncioaaGreatDoor
