/-
  The laws of layer 3.
-/
import Derived.Test.YtelgenhmmfkmhaaRefBits
import Derived.Test.YtelgenhmmfkmhaaNatLaws2
set_option linter.unusedVariables false
set_option linter.unusedSimpArgs false
namespace Go.Proofs.Ytelgenhmmfkmhaa
open Go.RowKit

theorem bl_8 : Wd.bl 8 = 4 := by
  have e := Wd.bl_shift 3 8 (by decide)
  rw [show 8 / 2 ^ 3 = 1 from by decide, Wd.bl_small (n := 1) (by omega)] at e
  exact e
theorem tz_8 : Wd.tz 8 = 3 := by
  have e := Wd.tz_shift 3 8 (by decide) (by decide)
  rw [show 8 / 2 ^ 3 = 1 from by decide, Wd.tz_odd (n := 1) (by omega)] at e
  exact e
theorem bit_8 : bitZ 8 3 = true := by decide
theorem ws_words_len {v : Value} {w : World} {n : Nat} (h : Ws w v (Wd.words n)) (hn : n < 4294967296) : (Wd.words n).length ≤ 100000000 := Nat.le_trans (len_words_small hn) (by omega)

set_option maxRecDepth 100000 in
set_option maxHeartbeats 1600000 in
theorem twos_works (w : World) : Calls Try.prog 65 #[] w fun e w' => e = .returned (.bool true) ∧ Up w w' := by
  go_enter Try.func65, Try.ntmps65
  go_wp2_with fail
  refine (nat_of 8 rfl (by omega) _).mono ?_
  rintro e w1 ⟨v1, rfl, h1, u1⟩
  go_wp2_with fail
  refine (twos_len h1 (ws_words_len h1 (by omega))).mono ?_
  rintro e w2 ⟨rfl, u2⟩
  rw [Wd.val_words, bl_8]
  have g2 := u1.trans u2
  clear h1 u1 u2
  go_wp2_with fail
  refine (nat_of 8 rfl (by omega) _).mono ?_
  rintro e w3 ⟨v3, rfl, h3, u3⟩
  have g3 := g2.trans u3
  go_wp2_with fail
  refine (twos_zeros h3 (ws_words_len h3 (by omega))).mono ?_
  rintro e w4 ⟨rfl, u4⟩
  rw [Wd.val_words, tz_8]
  have g4 := g3.trans u4
  clear h3 u3 u4 g2 g3
  go_wp2_with fail
  refine (nat_of 8 rfl (by omega) _).mono ?_
  rintro e w5 ⟨v5, rfl, h5, u5⟩
  have g5 := g4.trans u5
  go_wp2_with fail
  refine (twos_bit h5 (ws_words_len h5 (by omega)) (by omega)).mono ?_
  rintro e w6 ⟨rfl, rfl⟩
  rw [Wd.val_words, bit_8]
  clear h5 u5 g4
  go_wp2_with fail
  refine (nat_of 13 rfl (by omega) _).mono ?_
  rintro e w7 ⟨v7, rfl, h7, u7⟩
  have g7 := g5.trans u7
  go_wp2_with fail
  refine (twos_down h7 (ws_words_len h7 (by omega)) (by omega)).mono ?_
  rintro e w8 ⟨v8, rfl, h8, u8⟩
  rw [Wd.val_words, show 13 / 2 ^ (2 : Int).toNat = 3 from by decide] at h8
  have g8 := g7.trans u8
  clear h7 u7 u8 g5 g7
  go_wp2_with fail
  refine (nat_of 3 rfl (by omega) _).mono ?_
  rintro e w9 ⟨v9, rfl, h9, u9⟩
  have g9 := g8.trans u9
  have h8 := h8.up u9
  go_wp2_with fail
  refine (nat_cmp_up h8 h9 (len1 (by omega)) (len1 (by omega))).mono ?_
  rintro e w10 ⟨rfl, u10⟩
  rw [Wd.cmpI_eq rfl]
  have g10 := g9.trans u10
  go_wp2
  go_ret
  exact ⟨rfl, g10⟩

set_option maxHeartbeats 1600000 in
theorem twosTells_walk {v : Value} {a : List Nat} {n : Int} (hn : -9223372036854775808 ≤ n ∧ n ≤ 9223372036854775807) {w : World} (ha : Ws w v a) :
    Calls Try.prog 10 #[v, .int .i64 n] w fun e w' => e = .returned (.bool true) ∧ Up w w' := by
  obtain ⟨A, c, rfl⟩ := ha.form
  by_cases h1 : 60 < a.length
  · go_enter Try.func10, Try.ntmps10
    go_wp2_with fail
    refine (twos_works _).mono ?_
    rintro e w1 ⟨rfl, u1⟩
    go_wp2
    go_ret
    exact ⟨rfl, u1⟩
  · have hla : a.length ≤ 100000000 := by omega
    go_enter Try.func10, Try.ntmps10
    go_wp2_with fail
    refine (twos_len ha hla).mono ?_
    rintro e w1 ⟨rfl, u1⟩
    have hb := (Wd.bl_le_iff (32 * a.length) (Wd.val a)).2 (Wd.val_lt_two ha.ok)
    go_wp2_with fail
    refine (ref_len3 (ha.up u1) hla).mono ?_
    rintro e w2 ⟨rfl, u2⟩
    have g2 := u1.trans u2
    generalize Wd.bl (Wd.val a) = N at *
    go_wp2_with fail
    refine (twos_zeros (ha.up g2) hla).mono ?_
    rintro e w3 ⟨rfl, u3⟩
    have g3 := g2.trans u3
    go_wp2_with fail
    refine (ref_zeros3 (ha.up g3) hla).mono ?_
    rintro e w4 ⟨rfl, u4⟩
    have g4 := g3.trans u4
    clear u1 u2 u3 u4 g2 g3
    generalize Wd.tz (Wd.val a) = T at *
    go_wp2_with fail
    refine (twos_bit (ha.up g4) hla hn).mono ?_
    rintro e w5 ⟨rfl, rfl⟩
    go_wp2_with fail
    refine (ref_has (ha.up g4) hla hn).mono ?_
    rintro e w6 ⟨rfl, rfl⟩
    generalize bitZ (Wd.val a) n = bt at *
    go_wp2_with fail
    refine (twos_works _).mono ?_
    rintro e w7 ⟨rfl, u7⟩
    have g7 := g4.trans u7
    go_wp2
    go_ret
    exact ⟨rfl, g7⟩

theorem len_shift {N k i : Nat} (h : N < 2 ^ (32 * k)) (hi : i ≤ 4096) : (Wd.words (N * 2 ^ i)).length ≤ k + 128 := by
  rw [Wd.words_length_le_iff, Wd.B_pow]
  refine Nat.lt_of_lt_of_le (Nat.mul_lt_mul_of_pos_right h (Nat.two_pow_pos i)) ?_
  rw [← Nat.pow_add]
  exact Nat.pow_le_pow_right (by omega) (by omega)
theorem len_div {a : List Nat} (ha : Wd.Ok a) (k : Nat) : (Wd.words (Wd.val a / k)).length ≤ a.length := len_sub ha (Nat.le_refl _) (Nat.div_le_self _ _)
theorem len_mod {a : List Nat} (ha : Wd.Ok a) (k : Nat) : (Wd.words (Wd.val a % k)).length ≤ a.length := len_sub ha (Nat.le_refl _) (Nat.mod_le _ _)

set_option maxHeartbeats 1600000 in
theorem twosShifts_walk {v : Value} {a : List Nat} {n : Int} (hn : -9223372036854775808 ≤ n ∧ n ≤ 9223372036854775807) {w : World} (ha : Ws w v a) :
    Calls Try.prog 16 #[v, .int .i64 n] w fun e w' => e = .returned (.bool true) ∧ Up w w' := by
  obtain ⟨A, c, rfl⟩ := ha.form
  by_cases h1 : 60 < a.length
  · go_enter Try.func16, Try.ntmps16
    go_wp2_with fail
    refine (twos_works _).mono ?_
    rintro e w1 ⟨rfl, u1⟩
    go_wp2
    go_ret
    exact ⟨rfl, u1⟩
  · have hla : a.length ≤ 100000000 := by omega
    have hl1 := len_shift (i := min n.toNat 4096) (Wd.val_lt_two ha.ok) (by omega)
    have hl2 := len_div ha.ok (2 ^ n.toNat)
    have hl3 := len_mod ha.ok (2 ^ n.toNat)
    go_enter Try.func16, Try.ntmps16
    go_wp2_with fail
    refine (twos_up ha hla hn).mono ?_
    rintro e w1 ⟨v1, rfl, s1, u1⟩
    go_wp2_with fail
    refine (ref_up (ha.up u1) hla hn).mono ?_
    rintro e w2 ⟨v2, rfl, s2, u2⟩
    have g2 := u1.trans u2
    generalize Wd.val a * 2 ^ min n.toNat 4096 = X at *
    go_wp2_with fail
    refine (ref_same_yes (s1.up u2) s2 (by omega)).mono ?_
    rintro e w3 ⟨rfl, u3⟩
    have g3 := g2.trans u3
    clear u1 u2 u3 s1 s2 g2
    go_wp2_with fail
    refine (twos_down (ha.up g3) hla hn).mono ?_
    rintro e w4 ⟨v4, rfl, s4, u4⟩
    have g4 := g3.trans u4
    go_wp2_with fail
    refine (ref_down (ha.up g4) hla hn).mono ?_
    rintro e w5 ⟨v5, rfl, s5, u5⟩
    have g5 := g4.trans u5
    generalize Wd.val a / 2 ^ n.toNat = Y at *
    go_wp2_with fail
    refine (ref_same_yes (s4.up u5) s5 (by omega)).mono ?_
    rintro e w6 ⟨rfl, u6⟩
    have g6 := g5.trans u6
    clear g3 u4 g4 u5 g5 u6 s4 s5
    go_wp2_with fail
    refine (twos_low (ha.up g6) hla hn).mono ?_
    rintro e w7 ⟨v7, rfl, s7, u7⟩
    have g7 := g6.trans u7
    go_wp2_with fail
    refine (ref_low (ha.up g7) hla hn).mono ?_
    rintro e w8 ⟨v8, rfl, s8, u8⟩
    have g8 := g7.trans u8
    generalize Wd.val a % 2 ^ n.toNat = Z at *
    go_wp2_with fail
    refine (ref_same_yes (s7.up u8) s8 (by omega)).mono ?_
    rintro e w9 ⟨rfl, u9⟩
    have g9 := g8.trans u9
    go_wp2_with fail
    refine (twos_works _).mono ?_
    rintro e w10 ⟨rfl, u10⟩
    have g10 := g9.trans u10
    go_wp2
    go_ret
    exact ⟨rfl, g10⟩
end Go.Proofs.Ytelgenhmmfkmhaa
