/-
  How steps are sized, plain: what is wrong with rules, the factor, what is cut.
-/
import Derived.Test.YtmmcffceeahemaaGreatZsPlain
set_option linter.unusedVariables false
set_option linter.unusedSimpArgs false
namespace Pc
open Wd
theorem cmp_zero (q : Rat) : cmpQ q 0 = sgn q.num := by
 unfold cmpQ
 rw [show q - 0 = q by grind]
theorem lt_iff (a b : Rat) : cmpQ a b < 0 ↔ a < b := by
 have h1 := cmpQ_nonneg a b
 constructor
 · intro h
   exact Rat.not_le.1 fun hh => by have := h1.2 hh; omega
 · intro h
   apply Classical.byContradiction
   intro hh
   exact Rat.not_le.2 h (h1.1 (by omega))
theorem le_iff (a b : Rat) : cmpQ a b ≤ 0 ↔ a ≤ b := by
 have h1 := cmpQ_pos a b
 constructor
 · intro h
   exact Rat.not_lt.1 fun hh => by have := h1.2 hh; omega
 · intro h
   apply Classical.byContradiction
   intro hh
   exact Rat.not_lt.2 h (h1.1 (by omega))
theorem pos_sgn (q : Rat) : decide (sgn q.num > 0) = decide (0 < q) := by rw [← cmp_zero]; exact decide_eq_decide.2 (cmpQ_pos q 0)
theorem neg_sgn (q : Rat) : decide (sgn q.num < 0) = decide (q < 0) := by rw [← cmp_zero]; exact decide_eq_decide.2 (lt_iff q 0)
theorem cmp_lt (a b : Rat) : decide (cmpQ a b < 0) = decide (a < b) := decide_eq_decide.2 (lt_iff a b)
theorem cmp_le (a b : Rat) : decide (cmpQ a b ≤ 0) = decide (a ≤ b) := decide_eq_decide.2 (le_iff a b)
/-- What is wrong with rules first. -/
def wrong (good : Bool) (q1 q2 q3 q4 q5 : Rat) (fi mo : Int) : Int :=
 if good = false then 1 else if q1 < 0 then 2 else if ¬ (0 < q2) ∨ 1 < q2 then 3 else if ¬ (0 < q3) ∨ 1 ≤ q3 then 4 else if q4 < 1 then 5 else if ¬ (0 < q5) then 6 else if fi < 1 ∨ 1024 < fi then 7 else if mo < 1 ∨ 200 < mo then 8 else 0
theorem wrong_zero {good : Bool} {q1 q2 q3 q4 q5 : Rat} {fi mo : Int} (h : wrong good q1 q2 q3 q4 q5 fi mo = 0) : good = true ∧ 0 ≤ q1 ∧ (0 < q2 ∧ q2 ≤ 1) ∧ (0 < q3 ∧ q3 < 1) ∧ 1 ≤ q4 ∧ 0 < q5 ∧ 1 ≤ fi ∧ fi ≤ 1024 ∧ 1 ≤ mo ∧ mo ≤ 200 := by
 unfold wrong at h
 split at h
 · omega
 rename_i h1
 split at h
 · omega
 rename_i h2
 split at h
 · omega
 rename_i h3
 split at h
 · omega
 rename_i h4
 split at h
 · omega
 rename_i h5
 split at h
 · omega
 rename_i h6
 split at h
 · omega
 rename_i h7
 split at h
 · omega
 rename_i h8
 refine ⟨by cases good <;> simp_all, Rat.not_lt.1 h2, ⟨?_, ?_⟩, ⟨?_, ?_⟩, Rat.not_lt.1 h5, Classical.not_not.1 h6, by omega, by omega, by omega, by omega⟩
 · exact Classical.byContradiction fun hh => h3 (.inl hh)
 · exact Rat.not_lt.1 fun hh => h3 (.inr hh)
 · exact Classical.byContradiction fun hh => h4 (.inl hh)
 · exact Rat.not_le.1 fun hh => h4 (.inr hh)
/-- Rounded down to a multiple of 1 over a number. -/
def down (x : Rat) (fi : Int) : Rat := mkRat (x * (fi : Rat)).floor fi.natAbs
/-- The factor behind an error. -/
def fac (tol safe low high : Rat) (fi : Int) (e : Rat) : Rat :=
 if e = 0 then high else if down (safe * tol / e) fi < low then low else if high < down (safe * tol / e) fi then high else down (safe * tol / e) fi
/-- What is cut at the end. -/
def cut (t en want : Rat) : Rat := if en - t < want then en - t else want
/-- The usual rules. -/
def u1 : Rat := ((1 : Int) : Rat) / ((1000 : Int) : Rat)
def u2 : Rat := ((9 : Int) : Rat) / ((10 : Int) : Rat)
def u3 : Rat := ((1 : Int) : Rat) / ((5 : Int) : Rat)
def u4 : Rat := ((5 : Int) : Rat)
def u5 : Rat := ((1 : Int) : Rat) / ((1000000 : Int) : Rat)
theorem us_wrong : wrong true u1 u2 u3 u4 u5 16 100 = 0 := by decide +kernel
theorem us_fac : fac u1 u2 u3 u4 16 u1 = ((7 : Int) : Rat) / ((8 : Int) : Rat) := by decide +kernel
theorem us_zero : fac u1 u2 u3 u4 16 0 = ((5 : Int) : Rat) := by decide +kernel
theorem us_num : (u1.num.natAbs < 4294967296 ∧ u1.den < 4294967296) ∧ (u2.num.natAbs < 4294967296 ∧ u2.den < 4294967296) ∧ (u3.num.natAbs < 4294967296 ∧ u3.den < 4294967296) ∧ (u4.num.natAbs < 4294967296 ∧ u4.den < 4294967296) ∧ (u5.num.natAbs < 4294967296 ∧ u5.den < 4294967296) := by decide +kernel
theorem lq_one {q : Rat} (h : q.num.natAbs < 4294967296 ∧ q.den < 4294967296) : Lq q 1 := ⟨words_32 h.1, words_32 h.2⟩
end Pc
