/-
  The laws of layer 3.
-/
import Derived.Test.YtjkkeilmnklpcaaRefBits
import Derived.Test.YtjkkeilmnklpcaaNatLaws2
set_option linter.unusedVariables false
set_option linter.unusedSimpArgs false
namespace Go.Proofs.Ytjkkeilmnklpcaa
open Go.RowKit

theorem bl_8 : Wd.bl 8 = 4 := by
  have e := Wd.bl_shift 3 8 (by decide)
  rw [show 8 / 2 ^ 3 = 1 from by decide, Wd.bl_small (n := 1) (by omega)] at e
  exact e
theorem tz_8 : Wd.tz 8 = 3 := by
  have e := Wd.tz_shift 3 8 (by decide) (by decide)
  rw [show 8 / 2 ^ 3 = 1 from by decide, Wd.tz_odd (n := 1) (by omega)] at e
  exact e
theorem bit_8 : bitZ 8 3 = true := by decide
theorem ws_words_len {v : Value} {w : World} {n : Nat} (h : Ws w v (Wd.words n)) (hn : n < 4294967296) : (Wd.words n).length ≤ 100000000 := Nat.le_trans (len_words_small hn) (by omega)



theorem len_shift {N k i : Nat} (h : N < 2 ^ (32 * k)) (hi : i ≤ 4096) : (Wd.words (N * 2 ^ i)).length ≤ k + 128 := by
  rw [Wd.words_length_le_iff, Wd.B_pow]
  refine Nat.lt_of_lt_of_le (Nat.mul_lt_mul_of_pos_right h (Nat.two_pow_pos i)) ?_
  rw [← Nat.pow_add]
  exact Nat.pow_le_pow_right (by omega) (by omega)
theorem len_div {a : List Nat} (ha : Wd.Ok a) (k : Nat) : (Wd.words (Wd.val a / k)).length ≤ a.length := len_sub ha (Nat.le_refl _) (Nat.div_le_self _ _)
theorem len_mod {a : List Nat} (ha : Wd.Ok a) (k : Nat) : (Wd.words (Wd.val a % k)).length ≤ a.length := len_sub ha (Nat.le_refl _) (Nat.mod_le _ _)


end Go.Proofs.Ytjkkeilmnklpcaa
