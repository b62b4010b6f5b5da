/-
  Plain fractions: powers. No program here.
-/
import Derived.Test.YtjkkeilmnklpcaaFracMath2
namespace Wd

theorem iv_pow (s : Bool) (N n : Nat) : (iv s N) ^ n = iv (s && decide (n % 2 = 1)) (N ^ n) := by
  induction n with
  | zero => cases s <;> simp [iv]
  | succ n ih =>
    have e : (s && decide ((n + 1) % 2 = 1)) = ((s && decide (n % 2 = 1)) != s) := by
      by_cases h : n % 2 = 1
      · rw [decide_eq_true h, decide_eq_false (by omega)]; cases s <;> rfl
      · rw [decide_eq_false h, decide_eq_true (by omega)]; cases s <;> rfl
    rw [Int.pow_succ, ih, Nat.pow_succ, e, iv_mul]
/-- May it be raised to that power? -/
def powB (q : Rat) (e : Int) : Bool := decide (-8 ≤ e ∧ e ≤ 8 ∧ ¬(e < 0 ∧ q = 0))
def powQ (q : Rat) (e : Int) : Rat := if powB q e then q ^ e else 0
theorem pow_up (q : Rat) (n : Nat) : (q ^ (n : Int)).num = iv (ngb q.num && decide (n % 2 = 1)) (q.num.natAbs ^ n) ∧ (q ^ (n : Int)).den = q.den ^ n := by
  rw [Rat.zpow_natCast, Rat.num_pow, Rat.den_pow]
  refine ⟨?_, rfl⟩
  rw [← iv_pow, iv_ngb]
theorem iv_sign {s : Bool} {N : Nat} (h : N ≠ 0) (M : Nat) : (iv s N).sign * (M : Int) = iv s M := by
  cases s
  · rw [iv_false, iv_false, Int.sign_eq_one_of_pos (by omega), Int.one_mul]
  · rw [iv_true, iv_true, Int.sign_eq_neg_one_of_neg (by omega), Int.neg_mul, Int.one_mul]
theorem pow_down {q : Rat} (h : q ≠ 0) (n : Nat) : (q ^ (-(n : Int))).num = iv (ngb q.num && decide (n % 2 = 1)) (q.den ^ n) ∧ (q ^ (-(n : Int))).den = q.num.natAbs ^ n := by
  have h0 : q.num.natAbs ≠ 0 := by
    intro e
    exact h (Rat.num_eq_zero.1 (by omega))
  have hp : q.num.natAbs ^ n ≠ 0 := by
    have := Nat.pow_pos (n := n) (Nat.pos_of_ne_zero h0)
    omega
  have hn : (q ^ n).num = iv (ngb q.num && decide (n % 2 = 1)) (q.num.natAbs ^ n) := by rw [Rat.num_pow, ← iv_pow, iv_ngb]
  rw [Rat.zpow_neg, Rat.zpow_natCast, Rat.num_inv, Rat.den_inv, hn, Rat.den_pow, iv_sign hp, iv_abs, if_neg (fun e => hp (iv_eq_zero.1 e))]
  exact ⟨rfl, rfl⟩
theorem words_pow_le {N k : Nat} (h : (words N).length ≤ k) (n : Nat) : (words (N ^ n)).length ≤ k * n + 1 := by
  induction n with
  | zero => rw [Nat.pow_zero]; exact Nat.le_trans words_one_len (by omega)
  | succ n ih => rw [Nat.pow_succ]; exact Nat.le_trans (words_mul_le ih h) (by rw [Nat.mul_succ]; omega)
end Wd
