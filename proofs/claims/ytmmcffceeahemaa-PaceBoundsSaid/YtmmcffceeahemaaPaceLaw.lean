/-
  How steps are sized, plain: between Low and High, and never greater behind a greater error.
-/
import Derived.Test.YtmmcffceeahemaaPaceMath
set_option linter.unusedVariables false
set_option linter.unusedSimpArgs false
namespace Pc
theorem down_eq (x : Rat) {fi : Int} (h : 1 ≤ fi) : down x fi = ((x * (fi : Rat)).floor : Rat) * (fi : Rat)⁻¹ := by
  unfold down
  rw [Rat.mkRat_eq_div, Rat.div_def]
  have : ((fi.natAbs : Nat) : Rat) = (fi : Rat) := by
    have e : ((fi.natAbs : Nat) : Int) = fi := by omega
    exact_mod_cast congrArg (fun z : Int => (z : Rat)) e
  rw [this]
theorem fi_pos {fi : Int} (h : 1 ≤ fi) : (0 : Rat) < (fi : Rat) := by
  have : (0 : Int) < fi := by omega
  exact_mod_cast this
theorem down_mono {x y : Rat} {fi : Int} (h : 1 ≤ fi) (hxy : x ≤ y) : down x fi ≤ down y fi := by
  rw [down_eq x h, down_eq y h]
  have h1 := fi_pos h
  refine Rat.mul_le_mul_of_nonneg_right ?_ (Rat.le_of_lt (Rat.inv_pos.2 h1))
  have := Rat.floor_monotone (Rat.mul_le_mul_of_nonneg_right hxy (Rat.le_of_lt h1))
  exact_mod_cast this
theorem down_le {x : Rat} {fi : Int} (h : 1 ≤ fi) : down x fi ≤ x := by
  rw [down_eq x h]
  have h1 := fi_pos h
  have h2 := Rat.mul_le_mul_of_nonneg_right (Rat.floor_le (x * (fi : Rat))) (Rat.le_of_lt (Rat.inv_pos.2 h1))
  rw [Rat.mul_assoc, Rat.mul_inv_cancel _ (fun e => by rw [e] at h1; exact absurd h1 (by decide)), Rat.mul_one] at h2
  exact h2
theorem fac_low {tol safe low high : Rat} {fi : Int} {e : Rat} (h3 : low < 1) (h4 : 1 ≤ high) : low ≤ fac tol safe low high fi e := by
  unfold fac
  split
  · grind
  · split
    · grind
    · split <;> grind
theorem fac_high {tol safe low high : Rat} {fi : Int} {e : Rat} (h3 : low < 1) (h4 : 1 ≤ high) : fac tol safe low high fi e ≤ high := by
  unfold fac
  split
  · grind
  · split
    · grind
    · split <;> grind
theorem fac_mono {tol safe low high : Rat} {fi : Int} {a b : Rat} (h1 : 0 ≤ tol) (h2 : 0 < safe) (h3 : low < 1) (h4 : 1 ≤ high) (hf : 1 ≤ fi) (ha : 0 ≤ a) (hab : a ≤ b) : fac tol safe low high fi b ≤ fac tol safe low high fi a := by
  by_cases h0 : a = 0
  · have : fac tol safe low high fi a = high := if_pos h0
    rw [this]
    exact fac_high h3 h4
  · have ha' : 0 < a := by grind
    have hb' : 0 < b := by grind
    have hb0 : b ≠ 0 := by grind
    have hM : 0 ≤ safe * tol := Rat.mul_nonneg (Rat.le_of_lt h2) h1
    have hT : safe * tol / b ≤ safe * tol / a := by
      rw [Rat.div_def, Rat.div_def]
      refine Rat.mul_le_mul_of_nonneg_left ?_ hM
      have i1 := Rat.inv_pos.2 ha'
      have i2 := Rat.inv_pos.2 hb'
      have e1 := Rat.mul_inv_cancel _ h0
      have e2 := Rat.mul_inv_cancel _ hb0
      have := Rat.mul_le_mul_of_nonneg_right hab (Rat.le_of_lt (Rat.mul_pos i1 i2))
      have e3 : a * (a⁻¹ * b⁻¹) = b⁻¹ := by rw [← Rat.mul_assoc, e1, Rat.one_mul]
      have e4 : b * (a⁻¹ * b⁻¹) = a⁻¹ := by rw [Rat.mul_comm a⁻¹, ← Rat.mul_assoc, e2, Rat.one_mul]
      rw [e3, e4] at this
      exact this
    have hD := down_mono hf hT
    unfold fac
    rw [if_neg h0, if_neg hb0]
    generalize down (safe * tol / a) fi = x at *
    generalize down (safe * tol / b) fi = y at *
    split <;> split <;> (try split) <;> (try split) <;> grind
theorem fac_less {tol safe low high : Rat} {fi : Int} {a : Rat} (h1 : 0 ≤ tol) (h2 : 0 < safe) (h2' : safe ≤ 1) (h3 : low < 1) (h4 : 1 ≤ high) (hf : 1 ≤ fi) (h : tol < a) : fac tol safe low high fi a < 1 := by
  have ha' : 0 < a := by grind
  have h0 : a ≠ 0 := by grind
  have hM : safe * tol ≤ tol := by
    have := Rat.mul_le_mul_of_nonneg_right h2' h1
    rwa [Rat.one_mul] at this
  have hT : safe * tol / a < 1 := by
    rw [Rat.div_def]
    have := Rat.mul_lt_mul_of_pos_right (show safe * tol < a by grind) (Rat.inv_pos.2 ha')
    rwa [Rat.mul_inv_cancel _ h0] at this
  have hD := down_le (x := safe * tol / a) hf
  unfold fac
  rw [if_neg h0]
  generalize down (safe * tol / a) fi = x at *
  split
  · exact h3
  · split <;> grind
theorem cut_le (t en want : Rat) : cut t en want ≤ want := by
  unfold cut
  split <;> grind
theorem cut_end (t en want : Rat) : t + cut t en want ≤ en := by
  unfold cut
  split <;> grind
theorem abs_nonneg (q : Rat) : 0 ≤ Wd.absQ q := by
  unfold Wd.absQ
  split
  · rename_i h
    by_cases h0 : 0 ≤ q
    · have := Rat.num_nonneg.2 h0
      omega
    · grind
  · rename_i h
    exact Rat.num_nonneg.1 (by omega)
end Pc
theorem Wd.Lq.absq {q : Rat} {k : Nat} (h : Wd.Lq q k) : Wd.Lq (Wd.absQ q) k := by
  unfold Wd.absQ
  split
  · exact h.neg
  · exact h
