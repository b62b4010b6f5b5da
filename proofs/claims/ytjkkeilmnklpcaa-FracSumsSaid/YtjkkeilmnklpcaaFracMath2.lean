/-
  Plain fractions: without a sign, rounded down, how many bits. No program here.
-/
import Derived.Test.YtjkkeilmnklpcaaFracMath
import Derived.Test.YtjkkeilmnklpcaaTwosMath
namespace Wd

/-- A fraction without its sign. -/
def absQ (q : Rat) : Rat := if q.num < 0 then -q else q
theorem absQ_num (q : Rat) : (absQ q).num = (q.num.natAbs : Int) := by
  unfold absQ
  split
  · rw [Rat.neg_num]; omega
  · omega
theorem absQ_den (q : Rat) : (absQ q).den = q.den := by
  unfold absQ
  split
  · rw [Rat.neg_den]
  · rfl
theorem floor_mk (z : Int) {d : Nat} (hd : d ≠ 0) : (mkRat z d).floor = z / (d : Int) := by
  rw [Rat.floor_def, Rat.num_mkRat, Rat.den_mkRat, if_neg hd, if_neg hd]
  have h1 := Nat.gcd_dvd_left d z.natAbs
  have h2 : ((d.gcd z.natAbs : Nat) : Int) ∣ z := by rw [← Int.dvd_natAbs, Int.ofNat_dvd]; exact Nat.gcd_dvd_right d z.natAbs
  have hg : 0 < d.gcd z.natAbs := Nat.gcd_pos_of_pos_left _ (by omega)
  generalize d.gcd z.natAbs = g at *
  obtain ⟨k, rfl⟩ := h1
  obtain ⟨y, rfl⟩ := h2
  rw [Nat.mul_div_cancel_left _ hg, Int.mul_ediv_cancel_left _ (by omega), Int.natCast_mul, Int.mul_ediv_mul_of_pos _ _ (by omega)]
theorem cmpQ_zero (a b : Rat) : cmpQ a b = 0 ↔ a = b := by
  unfold cmpQ
  constructor
  · intro h
    rcases sgn_cases (a - b).num with ⟨_, e⟩ | ⟨e, _⟩ | ⟨_, e⟩
    · omega
    · have := Rat.num_eq_zero.1 e
      grind
    · omega
  · rintro rfl
    rw [Rat.sub_self]
    rfl
theorem bl_len {n k : Nat} (h : (words n).length ≤ k) : bl n ≤ 32 * k := by
  rw [bl_le_iff]
  have := words_length_le_iff.1 h
  rw [B_pow] at this
  exact this
end Wd
