/-
  The walk of powers.
-/
import Derived.Test.YtelgenhmmfkmhaaProd
set_option linter.unusedVariables false
set_option linter.unusedSimpArgs false
namespace Go.Proofs.Ytelgenhmmfkmhaa
open Go.RowKit

theorem i64_and_one (n : Nat) (h : n < 9223372036854775808) : bits .and .i64 (n : Int) 1 = ((n % 2 : Nat) : Int) := by
  have h127 : (BitVec.ofInt 64 1).toNat = 2 ^ 1 - 1 := by decide
  have key : (BitVec.ofInt 64 (n : Int) &&& BitVec.ofInt 64 1).toNat = ((n : Int) % ((2 ^ 64 : Nat) : Int)).toNat % 2 ^ 1 := by
    rw [BitVec.toNat_and, BitVec.toNat_ofInt, h127, Nat.and_two_pow_sub_one_eq_mod]
  show IntKind.i64.wrap ((BitVec.ofInt 64 (n : Int) &&& BitVec.ofInt 64 1).toNat : Nat) = ((n % 2 : Nat) : Int)
  rw [key, IntKind.wrap_i64]
  omega
theorem and_one_i64 {e b r : Nat} (he : e ≤ 65536) (hc : e / 2 ^ b % 2 = r) : bits .and .i64 ((e : Int) / 2 ^ b) 1 = (r : Int) := by
  have h1 : ((e : Int) / 2 ^ b) = ((e / 2 ^ b : Nat) : Int) := by rw [Int.natCast_ediv, Int.natCast_pow]; rfl
  rw [h1, i64_and_one _ (Nat.lt_of_le_of_lt (Nat.div_le_self _ _) (by omega)), hc]
theorem and_one_i64_no {e b : Nat} (he : e ≤ 65536) (hc : e / 2 ^ b % 2 = 0) : (bits .and .i64 ((e : Int) / 2 ^ b) 1 == 1) = false := by rw [and_one_i64 he hc]; rfl
theorem and_one_i64_yes {e b : Nat} (he : e ≤ 65536) (hc : e / 2 ^ b % 2 = 1) : (bits .and .i64 ((e : Int) / 2 ^ b) 1 == 1) = true := by rw [and_one_i64 he hc]; rfl
theorem powOk_neg {N : Nat} {e : Int} (h : e < 0) : Wd.powOk N e = false := by
  unfold Wd.powOk
  exact decide_eq_false (by omega)
theorem powOk_far {N : Nat} {e : Int} (h1 : 1 < Wd.bl N) (h2 : 65536 / (Wd.bl N : Int) < e) : Wd.powOk N e = false := by
  unfold Wd.powOk
  exact decide_eq_false (by omega)
theorem powOk_small {N : Nat} {e : Int} (h0 : 0 ≤ e) (h1 : Wd.bl N ≤ 1) : Wd.powOk N e = true := by
  unfold Wd.powOk
  exact decide_eq_true ⟨h0, .inl h1⟩
theorem powOk_near {N : Nat} {e : Int} (h0 : 0 ≤ e) (h2 : e ≤ 65536 / (Wd.bl N : Int)) : Wd.powOk N e = true := by
  unfold Wd.powOk
  exact decide_eq_true ⟨h0, .inr h2⟩
theorem powN_no {N : Nat} {e : Int} (h : Wd.powOk N e = false) : Wd.powN N e = 0 := by unfold Wd.powN; rw [h]; rfl
theorem powN_yes {N : Nat} {e : Int} (h : Wd.powOk N e = true) : Wd.powN N e = N ^ e.toNat := by unfold Wd.powN; rw [h]; rfl
theorem ret_wb {v : Value} {l l' : List Nat} {b b' : Bool} {w w' : World} (hs : Ws w' v l) (h1 : l = l') (h2 : b = b') (hu : Up w w') : RetWB l' b' w (.returned (.tuple #[v, .bool b])) w' := ⟨v, by rw [h2], by rw [← h1]; exact hs, hu⟩

set_option maxRecDepth 100000 in
set_option maxHeartbeats 3200000 in
theorem prod_pow {v : Value} {a : List Nat} {w : World} {n : Int} (ha : Ws w v a) (hla : a.length ≤ 100000000) (hn : -9223372036854775808 ≤ n ∧ n ≤ 9223372036854775807) :
    Calls Try.prog 90 #[v, .int .i64 n] w (RetWB (Wd.words (Wd.powN (Wd.val a) n)) (Wd.powOk (Wd.val a) n) w) := by
  obtain ⟨A, c, rfl⟩ := ha.form
  have hbl := (Wd.bl_le_iff (32 * a.length) (Wd.val a)).2 (Wd.val_lt_two ha.ok)
  by_cases hneg : n < 0
  · have HK := Lib.hid (powOk_neg (N := Wd.val a) hneg)
    have HV := Lib.hid (powN_no HK.out)
    go_enter Try.func90, Try.ntmps90
    go_wp2_with fail
    refine (twos_len ha hla).mono ?_
    rintro e w1 ⟨rfl, u1⟩
    generalize Wd.bl (Wd.val a) = L at *
    go_wp2
    go_ret2
    exact ret_wb (Ws.nil _) (by rw [HV.out, Wd.words_zero]) HK.out.symm u1
  obtain ⟨e, rfl⟩ : ∃ e : Nat, n = e := ⟨n.toNat, by omega⟩
  by_cases hsm : Wd.bl (Wd.val a) ≤ 1
  · have HK := Lib.hid (powOk_small (N := Wd.val a) (e := e) (by omega) hsm)
    have HV := Lib.hid (powN_yes HK.out)
    have HS := Lib.hid (fun h => Wd.small_pow hsm (e := e) h)
    by_cases he : 0 < e
    · go_enter Try.func90, Try.ntmps90
      go_wp2_with fail
      refine (twos_len ha hla).mono ?_
      rintro e1 w1 ⟨rfl, u1⟩
      generalize Wd.bl (Wd.val a) = L at *
      go_wp2_with fail
      refine (nat_of 1 rfl (by omega) _).mono ?_
      rintro e1 w2 ⟨v2, rfl, s2, u2⟩
      have g2 := u1.trans u2
      go_wp2_with fail
      refine (nat_norm (ha.up g2) (by omega)).mono ?_
      intro e3 w3 hret
      obtain ⟨v3, rfl, h3, h4⟩ := hret.ws
      have g3 := g2.trans h4
      go_wp2
      go_ret2
      exact ret_wb h3 (by rw [HV.out, Int.toNat_natCast, HS.out he]) HK.out.symm g3
    · obtain rfl : e = 0 := by omega
      go_enter Try.func90, Try.ntmps90
      go_wp2_with fail
      refine (twos_len ha hla).mono ?_
      rintro e1 w1 ⟨rfl, u1⟩
      generalize Wd.bl (Wd.val a) = L at *
      go_wp2_with fail
      refine (nat_of 1 rfl (by omega) _).mono ?_
      rintro e1 w2 ⟨v2, rfl, s2, u2⟩
      have g2 := u1.trans u2
      go_wp2
      go_ret2
      exact ret_wb s2 (by rw [HV.out]; rfl) HK.out.symm g2
  by_cases hfar : 65536 / (Wd.bl (Wd.val a) : Int) < (e : Int)
  · have HK := Lib.hid (powOk_far (N := Wd.val a) (e := e) (by omega) hfar)
    have HV := Lib.hid (powN_no HK.out)
    go_enter Try.func90, Try.ntmps90
    go_wp2_with fail
    refine (twos_len ha hla).mono ?_
    rintro e1 w1 ⟨rfl, u1⟩
    generalize Wd.bl (Wd.val a) = L at *
    go_wp2
    go_ret2
    exact ret_wb (Ws.nil _) (by rw [HV.out, Wd.words_zero]) HK.out.symm u1
  · have HK := Lib.hid (powOk_near (N := Wd.val a) (e := e) (by omega) (by omega))
    have HV := Lib.hid (powN_yes HK.out)
    have hle : e * Wd.bl (Wd.val a) ≤ 65536 := by
      have h1 : (e : Int) ≤ 65536 / (Wd.bl (Wd.val a) : Int) := by omega
      have h3 : ((65536 / Wd.bl (Wd.val a) : Nat) : Int) = 65536 / (Wd.bl (Wd.val a) : Int) := by rw [Int.natCast_ediv]; rfl
      have h2 : e ≤ 65536 / Wd.bl (Wd.val a) := by omega
      exact (Nat.le_div_iff_mul_le (by omega)).1 h2
    have he6 : e ≤ 65536 := Nat.le_trans (Nat.le_mul_of_pos_right e (by omega)) hle
    have HP := Lib.hid (fun q hq => Wd.pow_len (N := Wd.val a) (q := q) hle hq)
    have hbe := (Wd.bl_le_iff 17 e).2 (by omega)
    have HZ : Hid (Wd.val a ^ (e / 2 ^ Wd.bl e) = 1) := Lib.hid (by rw [Wd.div_two_bl, Nat.pow_zero])
    clear hle
    go_enter Try.func90, Try.ntmps90
    go_wp2_with fail
    refine (twos_len ha hla).mono ?_
    rintro e1 w1 ⟨rfl, u1⟩
    generalize Wd.bl (Wd.val a) = L at *
    go_wp2_with fail
    refine (nat_of 1 rfl (by omega) _).mono ?_
    rintro e1 w2 ⟨v2, rfl, s2, u2⟩
    have g2 := u1.trans u2
    go_wp2_with fail
    refine (nat_of e (by omega) (by omega) _).mono ?_
    rintro e1 w3 ⟨v3, rfl, s3, u3⟩
    have g3 := g2.trans u3
    have s2 := s2.up u3
    go_wp2_with fail
    refine (twos_len s3 (Nat.le_trans (len_words_small (by omega)) (by omega))).mono ?_
    rintro e1 w4 ⟨rfl, u4⟩
    rw [Wd.val_words]
    have g4 := g3.trans u4
    have s2 := s2.up u4
    rw [← HZ.out] at s2
    generalize Wd.bl e = E at *
    go_wp2_with fail
    go_loopw [7, 8] (fun s7 s8 wr => ∃ (b : Nat), s8 = .int .i64 ((b : Int) - 1) ∧ b ≤ E ∧ Ws wr s7 (Wd.words (Wd.val a ^ (e / 2 ^ b))) ∧ Up w wr) (fun _ s8 _ => (intOf s8 + 1).toNat)
    case atStart => exact ⟨E, rfl, Nat.le_refl _, s2, g4⟩
    case round =>
      obtain ⟨b, rfl, hb, hs7, hup⟩ := hrel
      match b, hb, hs7 with
      | 0, hb, hs7 =>
        rw [Nat.pow_zero, Nat.div_one] at hs7
        go_wp2
        go_ret2
        exact ret_wb hs7 (by rw [HV.out]; rfl) HK.out.symm hup
      | b + 1, hb, hs7 =>
        have ei : ((b + 1 : Nat) : Int) - 1 = b := by omega
        rw [ei]
        clear ei
        have HL1 := Lib.hid (HP.out (e / 2 ^ (b + 1)) (Nat.div_le_self _ _))
        have HPB := Lib.hid (Wd.pow_bit (Wd.val a) e b)
        go_wp2_with fail
        refine (prod_square hs7 (Nat.le_trans HL1.out (by omega))).mono ?_
        rintro e1 w5 ⟨v5, rfl, s5, u5⟩
        rw [Wd.val_words] at s5
        have g5 := hup.trans u5
        have hcase : e / 2 ^ b % 2 = 0 ∨ e / 2 ^ b % 2 = 1 := by omega
        rcases hcase with hc | hc
        · have HN : Hid (Wd.val a ^ (e / 2 ^ (b + 1)) * Wd.val a ^ (e / 2 ^ (b + 1)) = Wd.val a ^ (e / 2 ^ b)) := Lib.hid (by
            have := HPB.out
            rw [hc, Nat.pow_zero, Nat.mul_one] at this
            exact this)
          have htest : (bits BinOp.and IntKind.i64 ((e : Int) / 2 ^ b) 1 == 1) = false := and_one_i64_no he6 hc
          rw [HN.out] at s5
          clear HPB HL1
          go_wp2
          go_roundw
          case rel => exact ⟨b, by go_num, by omega, s5, g5⟩
          case measure => simp [intOf]
        · have HN : Hid (Wd.val a ^ (e / 2 ^ (b + 1)) * Wd.val a ^ (e / 2 ^ (b + 1)) * Wd.val a = Wd.val a ^ (e / 2 ^ b)) := Lib.hid (by
            have := HPB.out
            rw [hc, Nat.pow_one] at this
            exact this)
          have htest : (bits BinOp.and IntKind.i64 ((e : Int) / 2 ^ b) 1 == 1) = true := and_one_i64_yes he6 hc
          have HL2 : Hid ((Wd.words (Wd.val a ^ (e / 2 ^ (b + 1)) * Wd.val a ^ (e / 2 ^ (b + 1)))).length ≤ 100000000) := Lib.hid (Nat.le_trans (Wd.words_mul_le HL1.out HL1.out) (by omega))
          clear HPB HL1
          go_wp2_with fail
          refine (prod_mul s5 (ha.up g5) HL2.out hla).mono ?_
          rintro e1 w6 ⟨v6, rfl, s6, u6⟩
          rw [Wd.val_words, HN.out] at s6
          have g6 := g5.trans u6
          go_wp2
          go_roundw
          case rel => exact ⟨b, by go_num, by omega, s6, g6⟩
          case measure => simp [intOf]
end Go.Proofs.Ytelgenhmmfkmhaa
