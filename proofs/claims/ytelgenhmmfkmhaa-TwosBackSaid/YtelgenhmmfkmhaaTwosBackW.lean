/-
  The walk of the statement of layer 3 about there and back.
-/
import Derived.Test.YtelgenhmmfkmhaaTwosLaws
set_option linter.unusedVariables false
set_option linter.unusedSimpArgs false
namespace Go.Proofs.Ytelgenhmmfkmhaa
open Go.RowKit

theorem bl_up {N i : Nat} (h : N ≠ 0) : Wd.bl (N * 2 ^ i) = Wd.bl N + i := by
  have e : N * 2 ^ i / 2 ^ i = N := Nat.mul_div_cancel _ (Nat.two_pow_pos i)
  rw [Wd.bl_shift i _ (by rw [e]; exact h), e]
theorem tz_up {N i : Nat} (h : N ≠ 0) : Wd.tz (N * 2 ^ i) = Wd.tz N + i := by
  rw [Nat.mul_comm, Wd.tz_mul_pow i h, Nat.add_comm]
theorem bl_le_bits {a : List Nat} (h : Wd.Ok a) : Wd.bl (Wd.val a) ≤ 32 * a.length := (Wd.bl_le_iff _ _).2 (Wd.val_lt_two h)
theorem tz_le_bits {a : List Nat} (h : Wd.Ok a) (h0 : Wd.val a ≠ 0) : Wd.tz (Wd.val a) < 32 * a.length := Wd.tz_lt _ _ h0 (Wd.val_lt_two h)

set_option maxRecDepth 100000 in
set_option maxHeartbeats 3200000 in
theorem twosBack_walk {v : Value} {a : List Nat} {n : Int} (hn : -9223372036854775808 ≤ n ∧ n ≤ 9223372036854775807) {w : World} (ha : Ws w v a) :
    Calls Try.prog 23 #[v, .int .i64 n] w fun e w' => e = .returned (.bool true) ∧ Up w w' := by
  obtain ⟨A, c, rfl⟩ := ha.form
  by_cases h1 : 60 < a.length
  · go_enter Try.func23, Try.ntmps23
    go_wp2_with fail
    refine (twos_works _).mono ?_
    rintro e w1 ⟨rfl, u1⟩
    go_wp2
    go_ret
    exact ⟨rfl, u1⟩
  by_cases h2 : n < 0
  · go_enter Try.func23, Try.ntmps23
    go_wp2_with fail
    refine (twos_works _).mono ?_
    rintro e w1 ⟨rfl, u1⟩
    go_wp2
    go_ret
    exact ⟨rfl, u1⟩
  by_cases h3 : 4000 < n
  · go_enter Try.func23, Try.ntmps23
    go_wp2_with fail
    refine (twos_works _).mono ?_
    rintro e w1 ⟨rfl, u1⟩
    go_wp2
    go_ret
    exact ⟨rfl, u1⟩
  obtain ⟨i, rfl⟩ : ∃ i : Nat, n = i := ⟨n.toNat, by omega⟩
  have hla : a.length ≤ 100000000 := by omega
  have hi : i ≤ 4000 := by omega
  have hmin : min ((i : Nat) : Int).toNat 4096 = i := by omega
  have hto : ((i : Nat) : Int).toNat = i := by omega
  have HMIN := Lib.hid hmin
  have HTO := Lib.hid hto
  have hl1 := len_shift (i := i) (Wd.val_lt_two ha.ok) (by omega)
  have hl2 := len_div ha.ok (2 ^ i)
  have hl3 := len_mod ha.ok (2 ^ i)
  have HD := Lib.hid (Nat.mul_div_cancel (Wd.val a) (Nat.two_pow_pos i))
  have HS : Hid (Wd.val a / 2 ^ i * 2 ^ i + Wd.val a % 2 ^ i = Wd.val a) := Lib.hid (by rw [Nat.mul_comm]; exact Nat.div_add_mod _ _)
  have HB := Lib.hid (@bl_up (Wd.val a) i)
  have HT := Lib.hid (@tz_up (Wd.val a) i)
  have hbl := bl_le_bits ha.ok
  have htz := tz_le_bits ha.ok
  have hlow := (Wd.bl_le_iff i (Wd.val a % 2 ^ i)).2 (Nat.mod_lt _ (Nat.two_pow_pos i))
  have hlu := Nat.le_trans (Wd.words_mono (Nat.div_mul_le_self (Wd.val a) (2 ^ i))) (len_words_val ha.ok (Nat.le_refl _))
  have hla2 := len_words_val ha.ok (Nat.le_refl _)
  clear hmin hto
  go_enter Try.func23, Try.ntmps23
  go_wp2_with fail
  refine (twos_up ha hla hn).mono ?_
  rintro e w1 ⟨v1, rfl, s1, u1⟩
  rw [HMIN.out] at s1
  go_wp2_with fail
  refine (twos_down s1 (by omega) hn).mono ?_
  rintro e w2 ⟨v2, rfl, s2, u2⟩
  rw [Wd.val_words, HTO.out, HD.out] at s2
  have g2 := u1.trans u2
  have s1 := s1.up u2
  go_wp2_with fail
  refine (nat_cmp_up s2 (ha.up g2) (by omega) (by omega)).mono ?_
  rintro e w3 ⟨rfl, u3⟩
  rw [Wd.val_words, Wd.cmpI_eq rfl]
  have g3 := g2.trans u3
  have s1 := s1.up u3
  clear u1 u2 s2 u3 g2
  go_wp2_with fail
  refine (nat_zero (ha.up g3) (by omega)).mono ?_
  rintro e w4 ⟨rfl, rfl⟩
  by_cases hz : Wd.val a = 0
  · rw [decide_eq_true hz]
    have g4 := g3
    clear HB HT htz hz g3
    go_wp2_with fail
    refine (twos_low (ha.up g4) hla hn).mono ?_
    rintro e w7 ⟨v7, rfl, s7, u7⟩
    rw [HTO.out] at s7
    have g7 := g4.trans u7
    go_wp2_with fail
    refine (twos_down (ha.up g7) hla hn).mono ?_
    rintro e w8 ⟨v8, rfl, s8, u8⟩
    rw [HTO.out] at s8
    have g8 := g7.trans u8
    have s7 := s7.up u8
    go_wp2_with fail
    refine (twos_up s8 (by omega) hn).mono ?_
    rintro e w9 ⟨v9, rfl, s9, u9⟩
    rw [HMIN.out, Wd.val_words] at s9
    have g9 := g8.trans u9
    have s7 := s7.up u9
    clear u7 g7 u8 g8 s8 u9 g4
    have HSUM : Hid (Wd.vsum [Wd.words (Wd.val a / 2 ^ i * 2 ^ i), Wd.words (Wd.val a % 2 ^ i)] = Wd.val a) := Lib.hid (by
      rw [Wd.vsum_cons, Wd.vsum_cons, Wd.vsum_nil, Wd.val_words, Wd.val_words, Nat.add_zero, HS.out])
    obtain ⟨A7, n7, c7, rfl⟩ := s7.shape
    obtain ⟨A9, n9, c9, rfl⟩ := s9.shape
    go_wp2_with fail
    refine (nat_add (wss_two s9 s7) (by simp) ?_ ?_).mono ?_
    · intro l hl
      simp at hl
      rcases hl with rfl | rfl <;> omega
    · rw [HSUM.out]; omega
    rintro e w10 ⟨v10, rfl, s10, u10⟩
    rw [HSUM.out] at s10
    have g10 := (g9.alloc _).trans u10
    have s7 := (s7.up ((Up.refl _).alloc _)).up u10
    go_wp2_with fail
    refine (nat_cmp_up s10 (ha.up g10) (by omega) (by omega)).mono ?_
    rintro e w11 ⟨rfl, u11⟩
    rw [Wd.val_words, Wd.cmpI_eq rfl]
    have g11 := g10.trans u11
    have s7 := s7.up u11
    clear u10 u11 s9 s10 g9 g10
    go_wp2_with fail
    refine (twos_len s7 (by omega)).mono ?_
    rintro e w12 ⟨rfl, u12⟩
    rw [Wd.val_words]
    have g12 := g11.trans u12
    generalize Wd.bl (Wd.val a % 2 ^ i) = BL at *
    go_wp2_with fail
    refine (twos_works _).mono ?_
    rintro e w13 ⟨rfl, u13⟩
    have g13 := g12.trans u13
    go_wp2
    go_ret
    exact ⟨rfl, g13⟩
  · rw [decide_eq_false hz]
    have hBB := HB.out hz
    have hTT := HT.out hz
    have htz := htz hz
    have EB := Lib.hid hBB
    have ET := Lib.hid hTT
    clear HB HT hz hBB hTT
    go_wp2_with fail
    refine (twos_len s1 (by omega)).mono ?_
    rintro e w20 ⟨rfl, u20⟩
    rw [Wd.val_words, EB.out]
    have g20 := g3.trans u20
    have s1 := s1.up u20
    go_wp2_with fail
    refine (twos_len (ha.up g20) hla).mono ?_
    rintro e w21 ⟨rfl, u21⟩
    have g21 := g20.trans u21
    have s1 := s1.up u21
    clear EB
    generalize Wd.bl (Wd.val a) = BA at *
    go_wp2_with fail
    refine (twos_zeros s1 (by omega)).mono ?_
    rintro e w22 ⟨rfl, u22⟩
    rw [Wd.val_words, ET.out]
    have g22 := g21.trans u22
    go_wp2_with fail
    refine (twos_zeros (ha.up g22) hla).mono ?_
    rintro e w23 ⟨rfl, u23⟩
    have g4 := g22.trans u23
    clear ET g3 u20 g20 u21 g21 u22 g22 u23 s1
    generalize Wd.tz (Wd.val a) = TA at *
    go_wp2_with fail
    refine (twos_low (ha.up g4) hla hn).mono ?_
    rintro e w7 ⟨v7, rfl, s7, u7⟩
    rw [HTO.out] at s7
    have g7 := g4.trans u7
    go_wp2_with fail
    refine (twos_down (ha.up g7) hla hn).mono ?_
    rintro e w8 ⟨v8, rfl, s8, u8⟩
    rw [HTO.out] at s8
    have g8 := g7.trans u8
    have s7 := s7.up u8
    go_wp2_with fail
    refine (twos_up s8 (by omega) hn).mono ?_
    rintro e w9 ⟨v9, rfl, s9, u9⟩
    rw [HMIN.out, Wd.val_words] at s9
    have g9 := g8.trans u9
    have s7 := s7.up u9
    clear u7 g7 u8 g8 s8 u9 g4
    have HSUM : Hid (Wd.vsum [Wd.words (Wd.val a / 2 ^ i * 2 ^ i), Wd.words (Wd.val a % 2 ^ i)] = Wd.val a) := Lib.hid (by
      rw [Wd.vsum_cons, Wd.vsum_cons, Wd.vsum_nil, Wd.val_words, Wd.val_words, Nat.add_zero, HS.out])
    obtain ⟨A7, n7, c7, rfl⟩ := s7.shape
    obtain ⟨A9, n9, c9, rfl⟩ := s9.shape
    go_wp2_with fail
    refine (nat_add (wss_two s9 s7) (by simp) ?_ ?_).mono ?_
    · intro l hl
      simp at hl
      rcases hl with rfl | rfl <;> omega
    · rw [HSUM.out]; omega
    rintro e w10 ⟨v10, rfl, s10, u10⟩
    rw [HSUM.out] at s10
    have g10 := (g9.alloc _).trans u10
    have s7 := (s7.up ((Up.refl _).alloc _)).up u10
    go_wp2_with fail
    refine (nat_cmp_up s10 (ha.up g10) (by omega) (by omega)).mono ?_
    rintro e w11 ⟨rfl, u11⟩
    rw [Wd.val_words, Wd.cmpI_eq rfl]
    have g11 := g10.trans u11
    have s7 := s7.up u11
    clear u10 u11 s9 s10 g9 g10
    go_wp2_with fail
    refine (twos_len s7 (by omega)).mono ?_
    rintro e w12 ⟨rfl, u12⟩
    rw [Wd.val_words]
    have g12 := g11.trans u12
    generalize Wd.bl (Wd.val a % 2 ^ i) = BL at *
    go_wp2_with fail
    refine (twos_works _).mono ?_
    rintro e w13 ⟨rfl, u13⟩
    have g13 := g12.trans u13
    go_wp2
    go_ret
    exact ⟨rfl, g13⟩
end Go.Proofs.Ytelgenhmmfkmhaa
