/-
  The walk of powers.
-/
import Derived.Test.YtjkkeilmnklpcaaProd
set_option linter.unusedVariables false
set_option linter.unusedSimpArgs false
namespace Go.Proofs.Ytjkkeilmnklpcaa
open Go.RowKit

theorem i64_and_one (n : Nat) (h : n < 9223372036854775808) : bits .and .i64 (n : Int) 1 = ((n % 2 : Nat) : Int) := by
  have h127 : (BitVec.ofInt 64 1).toNat = 2 ^ 1 - 1 := by decide
  have key : (BitVec.ofInt 64 (n : Int) &&& BitVec.ofInt 64 1).toNat = ((n : Int) % ((2 ^ 64 : Nat) : Int)).toNat % 2 ^ 1 := by
    rw [BitVec.toNat_and, BitVec.toNat_ofInt, h127, Nat.and_two_pow_sub_one_eq_mod]
  show IntKind.i64.wrap ((BitVec.ofInt 64 (n : Int) &&& BitVec.ofInt 64 1).toNat : Nat) = ((n % 2 : Nat) : Int)
  rw [key, IntKind.wrap_i64]
  omega
theorem and_one_i64 {e b r : Nat} (he : e ≤ 65536) (hc : e / 2 ^ b % 2 = r) : bits .and .i64 ((e : Int) / 2 ^ b) 1 = (r : Int) := by
  have h1 : ((e : Int) / 2 ^ b) = ((e / 2 ^ b : Nat) : Int) := by rw [Int.natCast_ediv, Int.natCast_pow]; rfl
  rw [h1, i64_and_one _ (Nat.lt_of_le_of_lt (Nat.div_le_self _ _) (by omega)), hc]
theorem and_one_i64_no {e b : Nat} (he : e ≤ 65536) (hc : e / 2 ^ b % 2 = 0) : (bits .and .i64 ((e : Int) / 2 ^ b) 1 == 1) = false := by rw [and_one_i64 he hc]; rfl
theorem and_one_i64_yes {e b : Nat} (he : e ≤ 65536) (hc : e / 2 ^ b % 2 = 1) : (bits .and .i64 ((e : Int) / 2 ^ b) 1 == 1) = true := by rw [and_one_i64 he hc]; rfl
theorem powOk_neg {N : Nat} {e : Int} (h : e < 0) : Wd.powOk N e = false := by
  unfold Wd.powOk
  exact decide_eq_false (by omega)
theorem powOk_far {N : Nat} {e : Int} (h1 : 1 < Wd.bl N) (h2 : 65536 / (Wd.bl N : Int) < e) : Wd.powOk N e = false := by
  unfold Wd.powOk
  exact decide_eq_false (by omega)
theorem powOk_small {N : Nat} {e : Int} (h0 : 0 ≤ e) (h1 : Wd.bl N ≤ 1) : Wd.powOk N e = true := by
  unfold Wd.powOk
  exact decide_eq_true ⟨h0, .inl h1⟩
theorem powOk_near {N : Nat} {e : Int} (h0 : 0 ≤ e) (h2 : e ≤ 65536 / (Wd.bl N : Int)) : Wd.powOk N e = true := by
  unfold Wd.powOk
  exact decide_eq_true ⟨h0, .inr h2⟩
theorem powN_no {N : Nat} {e : Int} (h : Wd.powOk N e = false) : Wd.powN N e = 0 := by unfold Wd.powN; rw [h]; rfl
theorem powN_yes {N : Nat} {e : Int} (h : Wd.powOk N e = true) : Wd.powN N e = N ^ e.toNat := by unfold Wd.powN; rw [h]; rfl
theorem ret_wb {v : Value} {l l' : List Nat} {b b' : Bool} {w w' : World} (hs : Ws w' v l) (h1 : l = l') (h2 : b = b') (hu : Up w w') : RetWB l' b' w (.returned (.tuple #[v, .bool b])) w' := ⟨v, by rw [h2], by rw [← h1]; exact hs, hu⟩


end Go.Proofs.Ytjkkeilmnklpcaa
