/-
  Plain numbers: common divisors, by rests and by halves. No program here.
-/
import Derived.Test.YtjkkeilmnklpcaaQuotMath
set_option linter.unusedVariables false
set_option linter.unusedSimpArgs false
namespace Wd

/-- One step by what is left. -/
theorem gcd_rest (a b : Nat) : Nat.gcd b (a % b) = Nat.gcd a b := by
  rw [Nat.gcd_comm a b, Nat.gcd_comm b (a % b), ← Nat.gcd_rec]
theorem gcd_len {a b n : Nat} (ha : (words a).length ≤ n) (hb : (words b).length ≤ n) : (words (Nat.gcd a b)).length ≤ n := by
  rcases Nat.eq_zero_or_pos b with h | h
  · subst h; rw [Nat.gcd_zero_right]; exact ha
  · exact Nat.le_trans (words_mono (Nat.gcd_le_right a h)) hb

/-- A number without the noughts at its end. -/
def oddN (n : Nat) : Nat := n / 2 ^ tz n
theorem oddN_mul (n : Nat) : 2 ^ tz n * oddN n = n := Nat.mul_div_cancel' (tz_dvd n)
theorem oddN_odd {n : Nat} (h : n ≠ 0) : oddN n % 2 = 1 := tz_odd_rest h
theorem oddN_le (n : Nat) : oddN n ≤ n := Nat.div_le_self _ _
theorem oddN_pos {n : Nat} (h : n ≠ 0) : oddN n ≠ 0 := fun h0 => by
  have := oddN_odd h
  rw [h0] at this
  omega
theorem odd_coprime_two {x : Nat} (h : x % 2 = 1) (k : Nat) : Nat.Coprime x (2 ^ k) := by
  refine Nat.Coprime.pow_right k ?_
  show Nat.gcd x 2 = 1
  rw [Nat.gcd_comm, Nat.gcd_rec, h, Nat.gcd_one_left]
theorem gcd_two_right {x : Nat} (h : x % 2 = 1) (k y : Nat) : Nat.gcd x (2 ^ k * y) = Nat.gcd x y :=
  Nat.Coprime.gcd_mul_left_cancel_right y (odd_coprime_two h k).symm
theorem gcd_odd {x y m n : Nat} (hx : x % 2 = 1) (hy : y % 2 = 1) : Nat.gcd (2 ^ m * x) (2 ^ n * y) = Nat.gcd x y * 2 ^ min m n := by
  rcases Nat.le_total m n with h | h
  · obtain ⟨d, rfl⟩ := Nat.exists_eq_add_of_le h
    rw [Nat.min_eq_left h, Nat.pow_add, Nat.mul_assoc, Nat.gcd_mul_left, gcd_two_right hx, Nat.mul_comm]
  · obtain ⟨d, rfl⟩ := Nat.exists_eq_add_of_le h
    rw [Nat.min_eq_right h, Nat.pow_add, Nat.mul_assoc, Nat.gcd_mul_left, Nat.gcd_comm _ y, gcd_two_right hy, Nat.gcd_comm y x, Nat.mul_comm]
/-- The common divisor, by halves. -/
theorem gcd_halves {a b : Nat} (ha : a ≠ 0) (hb : b ≠ 0) : Nat.gcd a b = Nat.gcd (oddN a) (oddN b) * 2 ^ min (tz a) (tz b) := by
  have e := gcd_odd (m := tz a) (n := tz b) (oddN_odd ha) (oddN_odd hb)
  rw [oddN_mul, oddN_mul] at e
  exact e
/-- One step by halves. -/
theorem gcd_less {x y : Nat} (hy : y % 2 = 1) (h : y < x) : Nat.gcd (oddN (x - y)) y = Nat.gcd x y := by
  have h1 : Nat.gcd (x - y) y = Nat.gcd x y := Nat.gcd_sub_self_left (Nat.le_of_lt h)
  have h2 : Nat.gcd y (2 ^ tz (x - y) * oddN (x - y)) = Nat.gcd y (oddN (x - y)) := gcd_two_right hy _ _
  rw [oddN_mul] at h2
  rw [Nat.gcd_comm, ← h2, Nat.gcd_comm, h1]

/-- What of all, so far. -/
def vgcd (ls : List (List Nat)) : Nat := (ls.map val).foldl Nat.gcd 0
theorem vgcd_nil : vgcd [] = 0 := rfl
theorem vgcd_snoc (ls : List (List Nat)) (l : List Nat) : vgcd (ls ++ [l]) = Nat.gcd (vgcd ls) (val l) := by
  unfold vgcd
  rw [List.map_append, List.foldl_append]; rfl
theorem vgcd_take_succ {ls : List (List Nat)} {k : Nat} (h : k < ls.length) : vgcd (ls.take (k + 1)) = Nat.gcd (vgcd (ls.take k)) (val ls[k]) := by
  rw [List.take_succ_eq_append_getElem h, vgcd_snoc]
theorem vgcd_len {ls : List (List Nat)} {n : Nat} (h : ∀ l ∈ ls, Ok l ∧ l.length ≤ n) (k : Nat) : (words (vgcd (ls.take k))).length ≤ n := by
  induction k with
  | zero => rw [List.take_zero, vgcd_nil, words_zero]; simp
  | succ k ih =>
    by_cases hk : k < ls.length
    · rw [vgcd_take_succ hk]
      have := h ls[k] (List.getElem_mem hk)
      exact gcd_len ih (Nat.le_trans (words_val_length this.1) this.2)
    · rw [List.take_of_length_le (by omega)]
      rw [List.take_of_length_le (by omega)] at ih
      exact ih

theorem gcd_eq_zero {a b : Nat} : Nat.gcd a b = 0 ↔ a = 0 ∧ b = 0 := Nat.gcd_eq_zero_iff
theorem div_gcd_left (a b : Nat) : Nat.gcd a b * (a / Nat.gcd a b) = a := Nat.mul_div_cancel' (Nat.gcd_dvd_left a b)
theorem div_gcd_right (a b : Nat) : Nat.gcd a b * (b / Nat.gcd a b) = b := Nat.mul_div_cancel' (Nat.gcd_dvd_right a b)
theorem gcd_rest_one {a b : Nat} (h : Nat.gcd a b ≠ 0) : Nat.gcd (a / Nat.gcd a b) (b / Nat.gcd a b) = 1 := by
  have e := Nat.gcd_mul_left (Nat.gcd a b) (a / Nat.gcd a b) (b / Nat.gcd a b)
  rw [div_gcd_left, div_gcd_right] at e
  have : Nat.gcd a b * 1 = Nat.gcd a b * Nat.gcd (a / Nat.gcd a b) (b / Nat.gcd a b) := by rw [← e, Nat.mul_one]
  exact (Nat.eq_of_mul_eq_mul_left (by omega) this).symm
end Wd
