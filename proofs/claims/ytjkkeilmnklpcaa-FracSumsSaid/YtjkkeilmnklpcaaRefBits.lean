/-
  The walks of the document's layer 3 that shift.
-/
import Derived.Test.YtjkkeilmnklpcaaShift
import Derived.Test.YtjkkeilmnklpcaaRefNat
set_option linter.unusedVariables false
set_option linter.unusedSimpArgs false
namespace Go.Proofs.Ytjkkeilmnklpcaa
open Go.RowKit

theorem low_add {z b : Nat} (hz : z < 2 ^ b) (hb : b < 32) : IntKind.u32.wrap ((z : Int) + IntKind.u32.wrap (2 ^ b)) = ((z + 2 ^ b : Nat) : Int) ∧ z + 2 ^ b < Wd.B := by
  have h1 : (2 : Nat) ^ b ≤ 2 ^ 31 := Nat.pow_le_pow_right (by omega) (by omega)
  have e1 : ((2 : Int) ^ b) = ((2 ^ b : Nat) : Int) := by rw [Int.natCast_pow]; rfl
  rw [e1, Wd.B_eq]
  generalize 2 ^ b = p at *
  rw [IntKind.wrap_u32', IntKind.wrap_u32']
  omega


/-- What stands at a place of a number shifted. -/
theorem bit_up (N n i : Nat) : bitZ N ((-(n : Int)) + (i : Nat)) = Wd.bitN (N * 2 ^ n) i := by
  unfold bitZ
  by_cases h : i < n
  · rw [if_pos (by omega)]
    unfold Wd.bitN
    have e : N * 2 ^ n = 2 ^ i * (2 * (2 ^ (n - i - 1) * N)) := by
      have e2 : 2 ^ n = 2 ^ i * (2 * 2 ^ (n - i - 1)) := by
        rw [← Nat.pow_succ', ← Nat.pow_add]; congr 1; omega
      rw [e2]; ac_rfl
    rw [e, Nat.mul_div_cancel_left _ (Nat.two_pow_pos i), Nat.mul_mod_right]
    rfl
  · rw [if_neg (by omega), show (-(n : Int) + (i : Nat)).toNat = i - n from by omega]
    unfold Wd.bitN
    rw [show i = n + (i - n) from by omega, Nat.pow_add, ← Nat.div_div_eq_div_mul, Nat.mul_div_cancel _ (Nat.two_pow_pos n), Nat.add_sub_cancel_left]
theorem bit_down (N n i : Nat) : bitZ N ((n : Int) + (i : Nat)) = Wd.bitN (N / 2 ^ n) i := by
  unfold bitZ
  rw [if_neg (by omega), show ((n : Int) + (i : Nat)).toNat = n + i from by omega]
  unfold Wd.bitN
  rw [Nat.div_div_eq_div_mul, ← Nat.pow_add]
theorem bit_low (N i : Nat) : bitZ N ((0 : Int) + (i : Nat)) = Wd.bitN N i := by
  have := bit_down N 0 i
  rw [Nat.pow_zero, Nat.div_one] at this
  exact this


theorem min_len {j L : Nat} : ((min j L : Nat) : Int) = if (L : Int) < (j : Int) then (L : Int) else (j : Int) := by split <;> omega
theorem div_far {N L j : Nat} (h : N < 2 ^ L) : N / 2 ^ min j L = N / 2 ^ j := by
  by_cases hj : j ≤ L
  · rw [Nat.min_eq_left hj]
  · rw [Nat.min_eq_right (by omega), Nat.div_eq_of_lt h, Nat.div_eq_of_lt (Nat.lt_of_lt_of_le h (Nat.pow_le_pow_right (by omega) (by omega)))]
theorem mod_far {N L j : Nat} (h : N < 2 ^ L) : N % 2 ^ min j L = N % 2 ^ j := by
  by_cases hj : j ≤ L
  · rw [Nat.min_eq_left hj]
  · rw [Nat.min_eq_right (by omega), Nat.mod_eq_of_lt h, Nat.mod_eq_of_lt (Nat.lt_of_lt_of_le h (Nat.pow_le_pow_right (by omega) (by omega)))]



end Go.Proofs.Ytjkkeilmnklpcaa
