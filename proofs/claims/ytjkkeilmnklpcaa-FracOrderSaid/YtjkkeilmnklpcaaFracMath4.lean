/-
  Plain fractions: powers, their lengths. No program here.
-/
import Derived.Test.YtjkkeilmnklpcaaFracMath3
namespace Wd
theorem Lq.zpow {q : Rat} {k n : Nat} (h : Lq q k) {e : Int} (h1 : -(n : Int) ≤ e) (h2 : e ≤ n) : Lq (q ^ e) (k * n + 1) := by
  have hm : ∀ m, m ≤ n → Lq (q ^ m) (k * n + 1) := fun m hm => (h.pow m).mono (by have := Nat.mul_le_mul_left k hm; omega)
  rcases Int.lt_or_le e 0 with h0 | h0
  · obtain ⟨m, hm2⟩ := Int.eq_ofNat_of_zero_le (a := -e) (by omega)
    obtain rfl : e = -(m : Int) := by omega
    rw [Rat.zpow_neg, Rat.zpow_natCast]
    exact (hm m (by omega)).inv
  · obtain ⟨m, rfl⟩ := Int.eq_ofNat_of_zero_le h0
    rw [Rat.zpow_natCast]
    exact hm m (by omega)
theorem powB_yes {q : Rat} {e : Int} (hq : q ≠ 0) (h1 : -8 ≤ e) (h2 : e ≤ 8) : powB q e = true ∧ powQ q e = q ^ e := by
  have h : powB q e = true := by unfold powB; exact decide_eq_true ⟨h1, h2, fun hh => hq hh.2⟩
  exact ⟨h, by unfold powQ; rw [h]; rfl⟩
end Wd
