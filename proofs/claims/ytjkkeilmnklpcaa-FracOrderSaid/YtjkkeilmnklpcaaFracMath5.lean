/-
  Plain fractions: their order. No program here.
-/
import Derived.Test.YtjkkeilmnklpcaaFracMath4
namespace Wd
theorem cmpQ_swap (a b : Rat) : cmpQ b a = -cmpQ a b := by
  unfold cmpQ
  rw [← Rat.neg_sub, Rat.neg_num, sgn_neg_]
theorem cmpQ_add (a b c : Rat) : cmpQ (a + c) (b + c) = cmpQ a b := by
  unfold cmpQ
  have : a + c - (b + c) = a - b := by grind
  rw [this]
theorem num_mul_sgn (a b : Rat) : sgn (a * b).num = sgn a.num * sgn b.num := by
  rw [Rat.mul_def', sgn_mkRat _ _ (Nat.mul_ne_zero a.den_nz b.den_nz), sgn_mul]
theorem cmpQ_mul (a b c : Rat) : cmpQ (a * c) (b * c) = cmpQ a b * sgn c.num := by
  unfold cmpQ
  have : a * c - b * c = (a - b) * c := by grind
  rw [this, num_mul_sgn]
theorem cmpQ_bd (a b : Rat) : -1 ≤ cmpQ a b ∧ cmpQ a b ≤ 1 := sgn_bd _
theorem sgn_num_nonneg (a : Rat) : 0 ≤ sgn a.num ↔ 0 ≤ a := by
  rw [← Rat.num_nonneg]
  rcases sgn_cases a.num with ⟨h, e⟩ | ⟨h, e⟩ | ⟨h, e⟩ <;> rw [e] <;> omega
theorem cmpQ_nonneg (a b : Rat) : 0 ≤ cmpQ a b ↔ b ≤ a := by
  unfold cmpQ
  rw [sgn_num_nonneg]
  exact (Rat.le_iff_sub_nonneg b a).symm
theorem cmpQ_pos (a b : Rat) : 0 < cmpQ a b ↔ b < a := by
  have h1 := cmpQ_nonneg b a
  have h2 := cmpQ_swap a b
  rw [← Rat.not_le, ← h1, h2]
  omega
theorem cmpQ_order {a b c : Rat} (h : 0 ≤ cmpQ a b) (k : 0 ≤ cmpQ b c) : ¬ cmpQ a c < max (cmpQ a b) (cmpQ b c) := by
  have e1 := (cmpQ_nonneg a b).1 h
  have e2 := (cmpQ_nonneg b c).1 k
  have e3 := (cmpQ_nonneg a c).2 (Rat.le_trans e2 e1)
  have b1 := cmpQ_bd a b
  have b2 := cmpQ_bd b c
  by_cases h1 : 0 < cmpQ a b
  · have := (cmpQ_pos a c).2 (by have := (cmpQ_pos a b).1 h1; grind)
    omega
  · by_cases h2 : 0 < cmpQ b c
    · have := (cmpQ_pos a c).2 (by have := (cmpQ_pos b c).1 h2; grind)
      omega
    · omega
end Wd
