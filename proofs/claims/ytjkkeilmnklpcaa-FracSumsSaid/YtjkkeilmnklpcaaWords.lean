/-
  Plain numbers: what single words come to. No program here.
-/
import Derived.Test.YtjkkeilmnklpcaaVal
namespace Wd

def addS (x y c : Nat) : Nat := (x + y + c) % 4294967296
def addC (x y c : Nat) : Nat := (x + y + c) / 4294967296
def subB (x y b : Nat) : Nat := (y + b - x + 4294967295) / 4294967296
def subD (x y b : Nat) : Nat := x + 4294967296 * subB x y b - y - b
def mulH (x y c d : Nat) : Nat := (x * y + c + d) / 4294967296
def mulL (x y c d : Nat) : Nat := (x * y + c + d) % 4294967296
def divQ (h l y : Nat) : Nat := (h * 4294967296 + l) / y
def divR (h l y : Nat) : Nat := (h * 4294967296 + l) % y

theorem addS_lt (x y c : Nat) : addS x y c < B := by rw [B_eq]; unfold addS; omega
theorem add_eq (x y c : Nat) : addS x y c + B * addC x y c = x + y + c := by rw [B_eq]; unfold addS addC; omega
theorem addC_le {x y c : Nat} (hx : x < B) (hy : y < B) (hc : c ≤ 1) : addC x y c ≤ 1 := by rw [B_eq] at *; unfold addC; omega
theorem addC_lt {x y c : Nat} (hx : x < B) (hy : y < B) (hc : c < B) : addC x y c < B := by rw [B_eq] at *; unfold addC; omega
theorem subB_le {x y b : Nat} (hy : y < B) (hb : b ≤ 1) : subB x y b ≤ 1 := by rw [B_eq] at *; unfold subB; omega
theorem subB_lt {x y b : Nat} (hy : y < B) (hb : b < B) : subB x y b < B := by rw [B_eq] at *; unfold subB; omega
theorem subD_lt {x y b : Nat} (hx : x < B) (hy : y < B) (hb : b < B) : subD x y b < B := by rw [B_eq] at *; unfold subD subB; omega
theorem sub_eq (x y b : Nat) : subD x y b + y + b = x + B * subB x y b := by rw [B_eq]; unfold subD subB; omega
theorem mulL_lt (x y c d : Nat) : mulL x y c d < B := by rw [B_eq]; unfold mulL; omega
theorem mul_eq (x y c d : Nat) : mulL x y c d + B * mulH x y c d = x * y + c + d := by
  rw [B_eq]; unfold mulL mulH; omega
theorem mul_le_top {x y : Nat} (hx : x < B) (hy : y < B) : x * y ≤ 18446744065119617025 := by
  rw [B_eq] at *
  exact Nat.le_trans (Nat.mul_le_mul (show x ≤ 4294967295 by omega) (show y ≤ 4294967295 by omega)) (by omega)
theorem mulH_lt {x y c d : Nat} (hx : x < B) (hy : y < B) (hc : c < B) (hd : d < B) : mulH x y c d < B := by
  have := mul_le_top hx hy
  rw [B_eq] at *; unfold mulH; omega
theorem div_eq (h l y : Nat) : divQ h l y * y + divR h l y = h * B + l := by
  rw [B_eq]; unfold divQ divR; rw [Nat.mul_comm]; exact Nat.div_add_mod _ _
theorem divR_lt {h l y : Nat} (hy : 0 < y) : divR h l y < y := Nat.mod_lt _ hy
theorem divQ_lt {h l y : Nat} (hl : l < B) (hh : h < y) : divQ h l y < B := by
  rw [B_eq] at *; unfold divQ
  refine Nat.div_lt_of_lt_mul ?_
  have : (h + 1) * 4294967296 ≤ y * 4294967296 := Nat.mul_le_mul_right _ hh
  omega

/-- How many bits a number has. -/
def bl (n : Nat) : Nat := if _h : n = 0 then 0 else bl (n / 2) + 1
termination_by n
decreasing_by omega
theorem bl_zero : bl 0 = 0 := by rw [bl]; simp
theorem bl_pos {n : Nat} (h : n ≠ 0) : bl n = bl (n / 2) + 1 := by rw [bl]; simp [h]
theorem bl_shift (s : Nat) : ∀ n, n / 2 ^ s ≠ 0 → bl n = bl (n / 2 ^ s) + s := by
  induction s with
  | zero => intro n _; simp
  | succ s ih =>
    intro n h
    have e : n / 2 ^ (s + 1) = n / 2 / 2 ^ s := by rw [Nat.pow_succ, Nat.mul_comm, Nat.div_div_eq_div_mul]
    have h0 : n ≠ 0 := by rintro rfl; simp at h
    rw [bl_pos h0, ih (n / 2) (by rw [← e]; exact h), e]; omega
theorem bl_le_iff (k : Nat) : ∀ n, bl n ≤ k ↔ n < 2 ^ k := by
  induction k with
  | zero =>
    intro n
    by_cases h : n = 0
    · subst h; simp [bl_zero]
    · rw [bl_pos h]; simp; omega
  | succ k ih =>
    intro n
    by_cases h : n = 0
    · subst h; simp [bl_zero, Nat.two_pow_pos]
    · rw [bl_pos h, Nat.pow_succ]
      have := ih (n / 2)
      omega
theorem bl_small {n : Nat} (h : n < 2) : bl n = n := by
  match n, h with
  | 0, _ => exact bl_zero
  | 1, _ => rw [bl_pos (by omega)]; simp [bl_zero]

/-- How many noughts stand at the low end of a number other than 0. -/
def tz (n : Nat) : Nat := if _h : n = 0 ∨ n % 2 = 1 then 0 else tz (n / 2) + 1
termination_by n
decreasing_by omega
theorem tz_odd {n : Nat} (h : n % 2 = 1) : tz n = 0 := by rw [tz]; simp [h]
theorem tz_even {n : Nat} (h0 : n ≠ 0) (h : n % 2 = 0) : tz n = tz (n / 2) + 1 := by rw [tz]; simp [h0, h]
theorem tz_shift (s : Nat) : ∀ n, n ≠ 0 → n % 2 ^ s = 0 → tz n = tz (n / 2 ^ s) + s := by
  induction s with
  | zero => intro n _ _; simp
  | succ s ih =>
    intro n h0 h
    have e : n / 2 ^ (s + 1) = n / 2 / 2 ^ s := by rw [Nat.pow_succ, Nat.mul_comm, Nat.div_div_eq_div_mul]
    have hd : 2 ^ (s + 1) ∣ n := Nat.dvd_of_mod_eq_zero h
    obtain ⟨m, rfl⟩ := hd
    have e2 : 2 ^ (s + 1) * m / 2 = 2 ^ s * m := by rw [Nat.pow_succ, Nat.mul_comm (2 ^ s) 2, Nat.mul_assoc]; omega
    rw [tz_even h0 (by rw [Nat.pow_succ, Nat.mul_comm (2 ^ s) 2, Nat.mul_assoc]; omega), e, e2, ih _ (by intro h1; apply h0; rw [Nat.pow_succ, Nat.mul_comm (2 ^ s) 2, Nat.mul_assoc, h1]) (by simp)]
    omega
theorem tz_lt (k : Nat) : ∀ n, n ≠ 0 → n < 2 ^ k → tz n < k := by
  induction k with
  | zero => intro n h0 h; simp at h; exact absurd h h0
  | succ k ih =>
    intro n h0 h
    rcases Nat.mod_two_eq_zero_or_one n with h1 | h1
    · rw [tz_even h0 h1]
      have := ih (n / 2) (by omega) (by rw [Nat.pow_succ] at h; omega)
      omega
    · rw [tz_odd h1]; omega
theorem tz_dvd (n : Nat) : 2 ^ tz n ∣ n := by
  induction n using Nat.strongRecOn with
  | _ n ih =>
    by_cases h0 : n = 0
    · subst h0; exact Nat.dvd_zero _
    · rcases Nat.mod_two_eq_zero_or_one n with h1 | h1
      · rw [tz_even h0 h1, Nat.pow_succ]
        obtain ⟨m, hm⟩ := ih (n / 2) (by omega)
        exact ⟨m, by rw [Nat.mul_assoc, Nat.mul_comm 2 m, ← Nat.mul_assoc, ← hm]; omega⟩
      · rw [tz_odd h1]; simp
theorem tz_odd_rest {n : Nat} (h0 : n ≠ 0) : n / 2 ^ tz n % 2 = 1 := by
  induction n using Nat.strongRecOn with
  | _ n ih =>
    rcases Nat.mod_two_eq_zero_or_one n with h1 | h1
    · rw [tz_even h0 h1, Nat.pow_succ, Nat.mul_comm, ← Nat.div_div_eq_div_mul]
      exact ih (n / 2) (by omega) (by omega)
    · rw [tz_odd h1]; simpa using h1
end Wd
