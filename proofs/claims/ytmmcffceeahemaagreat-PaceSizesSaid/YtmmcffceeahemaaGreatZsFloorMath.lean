/-
  Rounded down, plain.
-/
import Derived.Test.YtmmcffceeahemaaGreatZsPlain
set_option linter.unusedVariables false
set_option linter.unusedSimpArgs false
namespace Wd
/-- Rounded down: the quotient without a sign, and one more where something is left below 0. -/
theorem floor_more {N M : Nat} (hM : 0 < M) (h : N % M ≠ 0) : iv true (N / M + 1) = iv true N / iv false M := by
 have hd : (M : Int) * ((N / M : Nat) : Int) + ((N % M : Nat) : Int) = (N : Int) := by exact_mod_cast Nat.div_add_mod N M
 have hm : ((N % M : Nat) : Int) < (M : Int) := by exact_mod_cast Nat.mod_lt N hM
 have h0 : ((N % M : Nat) : Int) ≠ 0 := by omega
 have hM2 : (0 : Int) < (M : Int) := by omega
 have hR : (0 : Int) ≤ ((N % M : Nat) : Int) := Int.natCast_nonneg _
 rw [iv_true, iv_true, iv_false, Int.natCast_add]
 generalize ((N / M : Nat) : Int) = Q at *
 generalize ((N % M : Nat) : Int) = R at *
 refine (((Int.ediv_emod_unique (r := (M : Int) - R) hM2).2 ⟨?_, by omega, by omega⟩).1).symm
 rw [Int.mul_neg, Int.mul_add]
 show (M : Int) - R + -((M : Int) * Q + (M : Int) * (1 : Int)) = -(N : Int)
 omega
theorem floor_even {s : Bool} {N M : Nat} (hM : 0 < M) (h : s = false ∨ N % M = 0) : iv s (N / M) = iv s N / iv false M := by
 have hd : (M : Int) * ((N / M : Nat) : Int) + ((N % M : Nat) : Int) = (N : Int) := by exact_mod_cast Nat.div_add_mod N M
 have hm : ((N % M : Nat) : Int) < (M : Int) := by exact_mod_cast Nat.mod_lt N hM
 have hM2 : (0 : Int) < (M : Int) := by omega
 have hR : (0 : Int) ≤ ((N % M : Nat) : Int) := Int.natCast_nonneg _
 rcases s with _ | _
 · rw [iv_false, iv_false, iv_false]
   generalize ((N / M : Nat) : Int) = Q at *
   generalize ((N % M : Nat) : Int) = R at *
   exact (((Int.ediv_emod_unique hM2).2 ⟨by omega, hR, hm⟩).1).symm
 · have h0 : ((N % M : Nat) : Int) = 0 := by
    rcases h with h | h
    · cases h
    · omega
   rw [iv_true, iv_true, iv_false]
   generalize ((N / M : Nat) : Int) = Q at *
   generalize ((N % M : Nat) : Int) = R at *
   subst h0
   exact (((Int.ediv_emod_unique (r := 0) hM2).2 ⟨by rw [Int.mul_neg]; omega, by omega, by omega⟩).1).symm
theorem Lq.floor {q : Rat} {k : Nat} (h : Lq q k) : Lz q.floor k := by
 unfold Lz
 refine Nat.le_trans (words_mono ?_) h.1
 rw [Rat.floor_def]
 have hd : (0 : Int) < (q.den : Int) := by have := q.den_pos; omega
 generalize q.num = z
 generalize (q.den : Int) = d at *
 rcases Int.lt_or_le z 0 with hz | hz
 · have h1 : z ≤ z / d := Int.le_ediv_of_mul_le hd (by have := Int.mul_le_mul_of_nonpos_left (a := z) (b := d) (c := 1) (by omega) (by omega); omega)
   have h2 : z / d < 0 := Int.ediv_lt_of_lt_mul hd (by omega)
   omega
 · have h1 := Int.ediv_nonneg hz (Int.le_of_lt hd)
   have h2 := Int.ediv_le_self d hz
   omega
end Wd
