/-
  Plain fractions: what the operations come to. No program here.
-/
import Derived.Test.YtjkkeilmnklpcaaRatMath
namespace Wd

theorem mkRat_parts (s : Bool) (L : Nat) {M : Nat} (h : M ≠ 0) : (mkRat (iv s L) M).num = iv s (L / Nat.gcd L M) ∧ (mkRat (iv s L) M).den = M / Nat.gcd L M := by
  rw [Rat.num_mkRat, Rat.den_mkRat, if_neg h, if_neg h, iv_abs, Nat.gcd_comm M L]
  refine ⟨?_, rfl⟩
  have hd := Nat.gcd_dvd_left L M
  generalize Nat.gcd L M = g at *
  obtain ⟨k, rfl⟩ := hd
  rcases Nat.eq_zero_or_pos g with h0 | h0
  · subst h0; simp [iv_zero]
  · rw [Nat.mul_div_cancel_left _ h0]
    cases s
    · simp only [iv_false, Int.natCast_mul]
      exact Int.mul_ediv_cancel_left _ (by omega)
    · simp only [iv_true, Int.natCast_mul, ← Int.mul_neg]
      exact Int.mul_ediv_cancel_left _ (by omega)
theorem mkRat_sub (x y : Int) {d e : Nat} (hd : d ≠ 0) (he : e ≠ 0) : mkRat x d - mkRat y e = mkRat (x * e - y * d) (d * e) := by
  rw [Rat.sub_eq_add_neg, Rat.neg_mkRat, Rat.mkRat_add_mkRat _ _ hd he, Int.neg_mul, Int.sub_eq_add_neg]
theorem cmpQ_mk (x y : Int) {d e : Nat} (hd : d ≠ 0) (he : e ≠ 0) : cmpQ (mkRat x d) (mkRat y e) = sgn (x * e - y * d) := by
  unfold cmpQ
  rw [mkRat_sub x y hd he, sgn_mkRat _ _ (Nat.mul_ne_zero hd he)]
theorem iv_turn {x : Int} {t : Bool} : iv (ngb x != t) x.natAbs = x * iv t 1 := by
  have h := iv_mul (ngb x) t x.natAbs 1
  rw [Nat.mul_one, iv_ngb] at h
  exact h
theorem quo_mk (x : Int) {t : Bool} {N d e : Nat} (hN : N ≠ 0) (hd : d ≠ 0) (he : e ≠ 0) : mkRat (iv (ngb (x * e) != t) (x * e).natAbs) (d * N) = mkRat x d / mkRat (iv t N) e := by
  rw [iv_turn]
  simp only [Rat.mkRat_eq_div]
  have h1 : (N : Rat) ≠ 0 := by simpa using hN
  have h2 : (d : Rat) ≠ 0 := by simpa using hd
  have h3 : (e : Rat) ≠ 0 := by simpa using he
  cases t
  · simp only [iv_false]
    push_cast
    grind
  · simp only [iv_true]
    push_cast
    grind
end Wd
