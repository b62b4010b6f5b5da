/-
  More walks of the statements of layer 4.
-/
import Derived.Test.YtelgenhmmfkmhaaProdLaws
set_option linter.unusedVariables false
set_option linter.unusedSimpArgs false
namespace Go.Proofs.Ytelgenhmmfkmhaa
open Go.RowKit

theorem powN_len {a : List Nat} (h : Wd.Ok a) (n : Int) : (Wd.words (Wd.powN (Wd.val a) n)).length ≤ a.length + 2049 := by
  unfold Wd.powN
  cases hk : Wd.powOk (Wd.val a) n
  · rw [if_neg (by simp), Wd.words_zero]; simp
  · rw [if_pos rfl]
    unfold Wd.powOk at hk
    obtain ⟨h0, h1⟩ := of_decide_eq_true hk
    obtain ⟨e, rfl⟩ : ∃ e : Nat, n = e := ⟨n.toNat, by omega⟩
    rw [Int.toNat_natCast]
    by_cases hs : Wd.bl (Wd.val a) ≤ 1
    · rcases Nat.eq_zero_or_pos e with rfl | hp
      · rw [Nat.pow_zero]; exact Nat.le_trans Wd.words_one_len (by omega)
      · rw [Wd.small_pow hs hp]; exact Nat.le_trans (wl a h) (by omega)
    · have hn : (e : Int) ≤ 65536 / (Wd.bl (Wd.val a) : Int) := by omega
      have h3 : ((65536 / Wd.bl (Wd.val a) : Nat) : Int) = 65536 / (Wd.bl (Wd.val a) : Int) := by rw [Int.natCast_ediv]; rfl
      have h2 : e ≤ 65536 / Wd.bl (Wd.val a) := by omega
      exact Nat.le_trans (Wd.pow_len ((Nat.le_div_iff_mul_le (by omega)).1 h2) (Nat.le_refl _)) (by omega)

set_option maxRecDepth 100000 in
set_option maxHeartbeats 3200000 in
theorem prodPowers_walk {v : Value} {a : List Nat} {n : Int} (hn : -9223372036854775808 ≤ n ∧ n ≤ 9223372036854775807) {w : World} (ha : Ws w v a) :
    Calls Try.prog 17 #[v, .int .i64 n] w fun e w' => e = .returned (.bool true) ∧ Up w w' := by
  obtain ⟨A, c, rfl⟩ := ha.form
  by_cases h1 : 10 < a.length
  · go_enter Try.func17, Try.ntmps17
    go_wp2_with fail
    refine (prod_works _).mono ?_
    rintro e1 w1 ⟨rfl, u1⟩
    go_wp2
    go_ret
    exact ⟨rfl, u1⟩
  have HPL : Hid ((Wd.words (Wd.powN (Wd.val a) n)).length ≤ 1000000000) := Lib.hid (Nat.le_trans (powN_len ha.ok n) (by omega))
  by_cases h2 : 0 < n
  · by_cases h3 : n < 65537
    · have hbl := (Wd.bl_le_iff (32 * a.length) (Wd.val a)).2 (Wd.val_lt_two ha.ok)
      have hM : ∃ M : Int, M = n * (Wd.bl (Wd.val a) : Int) ∧ 0 ≤ M ∧ M ≤ 20971840 := by
        refine ⟨_, rfl, Int.mul_nonneg (by omega) (by omega), ?_⟩
        have k1 : n * (Wd.bl (Wd.val a) : Int) ≤ 65537 * (Wd.bl (Wd.val a) : Int) := Int.mul_le_mul_of_nonneg_right (by omega) (by omega)
        omega
      obtain ⟨M, hM, m0, m1⟩ := hM
      have hMb : 0 ≤ n * (Wd.bl (Wd.val a) : Int) ∧ n * (Wd.bl (Wd.val a) : Int) ≤ 20971840 := by rw [← hM]; exact ⟨m0, m1⟩
      obtain ⟨mb0, mb1⟩ := hMb
      clear hM m0 m1
      by_cases h4 : 3000 < n * (Wd.bl (Wd.val a) : Int)
      · by_cases h5 : n * (Wd.bl (Wd.val a) : Int) ≤ 65536
        · go_enter Try.func17, Try.ntmps17
          go_wp2_with fail
          refine (ref_len3 ha (by omega)).mono ?_
          rintro e1 w1 ⟨rfl, u1⟩
          go_wp2_with fail
          refine (ref_len3 (ha.up u1) (by omega)).mono ?_
          rintro e1 w2 ⟨rfl, u2⟩
          have g2 := u1.trans u2
          go_wp2_with fail
          refine (prod_works _).mono ?_
          rintro e1 w3 ⟨rfl, u3⟩
          have g3 := g2.trans u3
          go_wp2
          go_ret
          exact ⟨rfl, g3⟩
        · go_enter Try.func17, Try.ntmps17
          go_wp2_with fail
          refine (ref_len3 ha (by omega)).mono ?_
          rintro e1 w1 ⟨rfl, u1⟩
          go_wp2_with fail
          refine (ref_len3 (ha.up u1) (by omega)).mono ?_
          rintro e1 w2 ⟨rfl, u2⟩
          have g2 := u1.trans u2
          go_wp2_with fail
          refine (prod_pow (ha.up g2) (by omega) hn).mono ?_
          rintro e1 w5 ⟨v5, rfl, s5, u5⟩
          have g5 := g2.trans u5
          go_wp2_with fail
          refine (ref_pow (ha.up g5) (by omega) hn).mono ?_
          rintro e1 w6 ⟨v6, rfl, s6, u6⟩
          have g6 := g5.trans u6
          have s5 := s5.up u6
          generalize Wd.powN (Wd.val a) n = R at *
          generalize Wd.powOk (Wd.val a) n = bt at *
          go_wp2_with fail
          refine (ref_same_yes s5 s6 HPL.out).mono ?_
          rintro e1 w7 ⟨rfl, u7⟩
          have g7 := g6.trans u7
          go_wp2_with fail
          refine (prod_works _).mono ?_
          rintro e1 w8 ⟨rfl, u8⟩
          have g8 := g7.trans u8
          go_wp2
          go_ret
          exact ⟨rfl, g8⟩
      · go_enter Try.func17, Try.ntmps17
        go_wp2_with fail
        refine (ref_len3 ha (by omega)).mono ?_
        rintro e1 w1 ⟨rfl, u1⟩
        go_wp2_with fail
        refine (prod_pow (ha.up u1) (by omega) hn).mono ?_
        rintro e1 w5 ⟨v5, rfl, s5, u5⟩
        have g5 := u1.trans u5
        go_wp2_with fail
        refine (ref_pow (ha.up g5) (by omega) hn).mono ?_
        rintro e1 w6 ⟨v6, rfl, s6, u6⟩
        have g6 := g5.trans u6
        have s5 := s5.up u6
        generalize Wd.powN (Wd.val a) n = R at *
        generalize Wd.powOk (Wd.val a) n = bt at *
        go_wp2_with fail
        refine (ref_same_yes s5 s6 HPL.out).mono ?_
        rintro e1 w7 ⟨rfl, u7⟩
        have g7 := g6.trans u7
        go_wp2_with fail
        refine (prod_works _).mono ?_
        rintro e1 w8 ⟨rfl, u8⟩
        have g8 := g7.trans u8
        go_wp2
        go_ret
        exact ⟨rfl, g8⟩
    · go_enter Try.func17, Try.ntmps17
      go_wp2_with fail
      refine (prod_pow ha (by omega) hn).mono ?_
      rintro e1 w5 ⟨v5, rfl, s5, u5⟩
      have g5 := u5
      go_wp2_with fail
      refine (ref_pow (ha.up g5) (by omega) hn).mono ?_
      rintro e1 w6 ⟨v6, rfl, s6, u6⟩
      have g6 := g5.trans u6
      have s5 := s5.up u6
      generalize Wd.powN (Wd.val a) n = R at *
      generalize Wd.powOk (Wd.val a) n = bt at *
      go_wp2_with fail
      refine (ref_same_yes s5 s6 HPL.out).mono ?_
      rintro e1 w7 ⟨rfl, u7⟩
      have g7 := g6.trans u7
      go_wp2_with fail
      refine (prod_works _).mono ?_
      rintro e1 w8 ⟨rfl, u8⟩
      have g8 := g7.trans u8
      go_wp2
      go_ret
      exact ⟨rfl, g8⟩
  · go_enter Try.func17, Try.ntmps17
    go_wp2_with fail
    refine (prod_pow ha (by omega) hn).mono ?_
    rintro e1 w5 ⟨v5, rfl, s5, u5⟩
    have g5 := u5
    go_wp2_with fail
    refine (ref_pow (ha.up g5) (by omega) hn).mono ?_
    rintro e1 w6 ⟨v6, rfl, s6, u6⟩
    have g6 := g5.trans u6
    have s5 := s5.up u6
    generalize Wd.powN (Wd.val a) n = R at *
    generalize Wd.powOk (Wd.val a) n = bt at *
    go_wp2_with fail
    refine (ref_same_yes s5 s6 HPL.out).mono ?_
    rintro e1 w7 ⟨rfl, u7⟩
    have g7 := g6.trans u7
    go_wp2_with fail
    refine (prod_works _).mono ?_
    rintro e1 w8 ⟨rfl, u8⟩
    have g8 := g7.trans u8
    go_wp2
    go_ret
    exact ⟨rfl, g8⟩

set_option maxHeartbeats 3200000 in
theorem prodAll_walk {v : Value} {ls : List (List Nat)} {w : World} (h : Wss w v ls) :
    Calls Try.prog 21 #[v] w fun e w' => e = .returned (.bool true) ∧ Up w w' := by
  cases hL : Wd.longL (lens ls) 100 0 with
  | true =>
    go_enter Try.func21, Try.ntmps21
    go_wp2_with fail
    refine (ref_long 100 rfl h (by omega)).mono ?_
    rintro e w1 ⟨rfl, rfl⟩
    rw [hL]
    clear hL
    go_wp2_with fail
    refine (prod_works _).mono ?_
    rintro e w1 ⟨rfl, u1⟩
    go_wp2
    go_ret
    exact ⟨rfl, u1⟩
  | false =>
    have hsum := (Wd.longL_false hL).1
    have hb := lens_false hL
    have hok := wss_ok h
    have h0 := h
    have HB := Lib.hid hb.1
    have hn2 := hb.2
    have HT := Lib.hid (Wd.words_vprod_take ls hok)
    have HS : Hid ((ls.map List.length).sum ≤ 100) := Lib.hid hsum
    have HV := Lib.hid (Wd.words_vprod_le ls hok)
    clear hok hb hsum
    go_enter Try.func21, Try.ntmps21
    go_wp2_with fail
    refine (ref_long 100 rfl h (by omega)).mono ?_
    rintro e w1 ⟨rfl, rfl⟩
    rw [hL]
    clear hL
    obtain ⟨A, c, vs, rfl, p2, p3, p4, p5, p6⟩ := h
    have P4 := Lib.hid p4
    have P6 := Lib.hid p6
    clear p3 p4 p6
    have hz := ws_one w 1 Wd.B_one
    go_wp2_with fail
    go_loopw [3, 4] (fun s3 s4 wr => ∃ (k : Nat), s4 = .int .i64 k ∧ k ≤ ls.length ∧ Ws wr s3 (Wd.words (Wd.vprod (ls.take k))) ∧ Up w wr) (fun _ s4 _ => ls.length - (intOf s4).toNat)
    case atStart => exact ⟨0, rfl, Nat.zero_le _, by rw [List.take_zero, Wd.vprod_nil, words_1]; exact hz, (Up.refl w).alloc _⟩
    case round =>
      obtain ⟨k, rfl, hk, hs3, hup⟩ := hrel
      by_cases hlt : k < ls.length
      · obtain ⟨b1, o1, u, rfl, hb1, hc1, hu⟩ := rd_words p5 P4.out P6.out hlt
        have hc2 := (hup.cell (p := ⟨b1, o1 + k, none⟩) hb1).trans hc1
        have hl1 : ls[k].length ≤ 100 := HB.out _ (List.getElem_mem hlt)
        have hl2 : (Wd.words (Wd.vprod (ls.take k))).length ≤ 100000000 := Nat.le_trans (HT.out k) (Nat.le_trans (Nat.add_le_add_right HS.out 1) (by omega))
        have HNEXT := Lib.hid (Wd.vprod_take_succ hlt)
        clear hc1
        go_wp2_with fail
        refine (ref_mul hs3 (hu.up hup) hl2 (by omega)).mono ?_
        intro e w2 hret
        obtain ⟨s', rfl, s2, u2⟩ := hret.ws
        rw [Wd.val_words, ← HNEXT.out] at s2
        go_wp2
        go_roundw
        case rel => exact ⟨k + 1, by go_num, by omega, s2, hup.trans u2⟩
        case measure => simp [intOf]; omega
      · obtain rfl : k = ls.length := by omega
        rw [List.take_length] at hs3
        go_wp2_with fail
        refine (prod_all (h0.up hup) (by omega) (Nat.le_trans HS.out (by omega))).mono ?_
        rintro e w2 ⟨v2, rfl, s2, u2⟩
        have g2 := hup.trans u2
        go_wp2_with fail
        refine (ref_same_yes s2 (hs3.up u2) (Nat.le_trans HV.out (Nat.le_trans (Nat.add_le_add_right HS.out 1) (by omega)))).mono ?_
        rintro e w3 ⟨rfl, u3⟩
        have g3 := g2.trans u3
        go_wp2_with fail
        refine (prod_works _).mono ?_
        rintro e w4 ⟨rfl, u4⟩
        have g4 := g3.trans u4
        go_wp2
        go_ret
        exact ⟨rfl, g4⟩
end Go.Proofs.Ytelgenhmmfkmhaa
