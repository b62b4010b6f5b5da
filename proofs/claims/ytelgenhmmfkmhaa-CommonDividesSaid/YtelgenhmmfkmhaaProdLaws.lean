/-
  The walks of the statements of layer 4.
-/
import Derived.Test.YtelgenhmmfkmhaaRefProd
set_option linter.unusedVariables false
set_option linter.unusedSimpArgs false
namespace Go.Proofs.Ytelgenhmmfkmhaa
open Go.RowKit

theorem bl_2 : Wd.bl 2 = 2 := Wd.bl_top (n := 1) (by decide) (by decide)
theorem pow_2 : Wd.powOk 2 10 = true ∧ Wd.powN 2 10 = 1024 := by
  have h : Wd.powOk 2 10 = true := powOk_near (by omega) (by rw [bl_2]; decide)
  exact ⟨h, by rw [powN_yes h]; decide⟩
theorem words_top : Wd.words (4294967295 * 4294967295) = [1, 4294967294] :=
  words_list (ok_of_all (by simp)) rfl (by simp [Wd.val, Wd.B_eq])
theorem words_1024 : Wd.words 1024 = [1024] := words_small (by omega) (by omega)

set_option maxRecDepth 100000 in
set_option maxHeartbeats 1600000 in
theorem prod_works (w : World) : Calls Try.prog 89 #[] w fun e w' => e = .returned (.bool true) ∧ Up w w' := by
  go_enter Try.func89, Try.ntmps89
  go_wp2_with fail
  refine (nat_of 2 rfl (by omega) _).mono ?_
  rintro e w1 ⟨v1, rfl, h1, u1⟩
  go_wp2_with fail
  refine (prod_pow h1 (ws_words_len h1 (by omega)) (by omega)).mono ?_
  rintro e w2 ⟨v2, rfl, h2, u2⟩
  rw [Wd.val_words, pow_2.2, words_1024] at h2
  rw [Wd.val_words, pow_2.1]
  have g2 := u1.trans u2
  clear h1 u1 u2
  go_wp2_with fail
  refine (nat_of 5 rfl (by omega) _).mono ?_
  rintro e w3 ⟨v3, rfl, h3, u3⟩
  have g3 := g2.trans u3
  go_wp2_with fail
  refine (prod_pow h3 (ws_words_len h3 (by omega)) (by omega)).mono ?_
  rintro e w4 ⟨v4, rfl, h4, u4⟩
  rw [powOk_neg (by omega)]
  have g4 := g3.trans u4
  have h2 := (h2.up u3).up u4
  clear h3 h4 u3 u4 g2 g3
  go_wp2_with fail
  refine (nat_of 4294967295 rfl (by omega) _).mono ?_
  rintro e w5 ⟨v5, rfl, h5, u5⟩
  have g5 := g4.trans u5
  go_wp2_with fail
  refine (nat_of 4294967295 rfl (by omega) _).mono ?_
  rintro e w6 ⟨v6, rfl, h6, u6⟩
  have g6 := g5.trans u6
  have h5 := h5.up u6
  go_wp2_with fail
  refine (prod_mul h5 h6 (ws_words_len h5 (by omega)) (ws_words_len h6 (by omega))).mono ?_
  rintro e w7 ⟨v7, rfl, h7, u7⟩
  rw [Wd.val_words, words_top] at h7
  have g7 := g6.trans u7
  have h2 := ((h2.up u5).up u6).up u7
  clear h5 h6 u5 u6 u7 g4 g5 g6
  go_wp2_with fail
  refine (ref_same_yes (h7.up ((Up.refl w7).alloc _)) (ws_two w7 1 4294967294 Wd.B_one (by rw [Wd.B_eq]; omega)) (by simp)).mono ?_
  rintro e w8 ⟨rfl, u8⟩
  have g8 := (g7.alloc _).trans u8
  have h2 := (h2.up ((Up.refl w7).alloc _)).up u8
  go_wp2_with fail
  refine (ref_same_yes (h2.up ((Up.refl w8).alloc _)) (ws_one w8 1024 (by rw [Wd.B_eq]; omega)) (by simp)).mono ?_
  rintro e w9 ⟨rfl, u9⟩
  have g9 := (g8.alloc _).trans u9
  go_wp2
  go_ret
  exact ⟨rfl, g9⟩

/-- The lists that are handed in are right lists' worth of words. -/
theorem wl (a : List Nat) (h : Wd.Ok a) : (Wd.words (Wd.val a)).length ≤ a.length := Wd.words_val_length h

set_option maxHeartbeats 3200000 in
theorem prodShares_walk {v u t : Value} {a b c : List Nat} {w : World} (ha : Ws w v a) (hb : Ws w u b) (hc : Ws w t c) :
    Calls Try.prog 18 #[v, u, t] w fun e w' => e = .returned (.bool true) ∧ Up w w' := by
  obtain ⟨A, ca, rfl⟩ := ha.form
  obtain ⟨D, cb, rfl⟩ := hb.form
  obtain ⟨F, cc, rfl⟩ := hc.form
  by_cases h1 : 60 < a.length
  · go_enter Try.func18, Try.ntmps18
    go_wp2_with fail
    refine (prod_works _).mono ?_
    rintro e w1 ⟨rfl, u1⟩
    go_wp2
    go_ret
    exact ⟨rfl, u1⟩
  by_cases h2 : 60 < b.length
  · go_enter Try.func18, Try.ntmps18
    go_wp2_with fail
    refine (prod_works _).mono ?_
    rintro e w1 ⟨rfl, u1⟩
    go_wp2
    go_ret
    exact ⟨rfl, u1⟩
  by_cases h3 : 60 < c.length
  · go_enter Try.func18, Try.ntmps18
    go_wp2_with fail
    refine (prod_works _).mono ?_
    rintro e w1 ⟨rfl, u1⟩
    go_wp2
    go_ret
    exact ⟨rfl, u1⟩
  have la := wl a ha.ok
  have lb := wl b hb.ok
  have lc := wl c hc.ok
  have lab := Wd.words_mul_le la lb
  have lbc := Wd.words_mul_le lb lc
  have lac := Wd.words_mul_le la lc
  have labc := Wd.words_mul_le lab lc
  have lsum := Wd.words_add_le (a := Wd.val b) (b := Wd.val c) (m := 60) (by omega) (by omega)
  have lall := Wd.words_mul_le la lsum
  have HC := Lib.hid (Nat.mul_comm (Wd.val b) (Wd.val a))
  have HA := Lib.hid (Nat.mul_assoc (Wd.val a) (Wd.val b) (Wd.val c))
  have HD := Lib.hid (Nat.mul_add (Wd.val a) (Wd.val b) (Wd.val c))
  go_enter Try.func18, Try.ntmps18
  go_wp2_with fail
  refine (prod_mul ha hb (by omega) (by omega)).mono ?_
  rintro e w1 ⟨v1, rfl, s1, u1⟩
  obtain ⟨A1, n1, c1, rfl⟩ := s1.shape
  go_wp2_with fail
  refine (prod_mul (hb.up u1) (ha.up u1) (by omega) (by omega)).mono ?_
  rintro e w2 ⟨v2, rfl, s2, u2⟩
  rw [HC.out] at s2
  have g2 := u1.trans u2
  have s1 := s1.up u2
  go_wp2_with fail
  refine (ref_same_yes s1 s2 (by omega)).mono ?_
  rintro e w3 ⟨rfl, u3⟩
  have g3 := g2.trans u3
  have s1 := s1.up u3
  clear u1 u2 u3 s2 g2
  go_wp2_with fail
  refine (prod_mul s1 (hc.up g3) (by omega) (by omega)).mono ?_
  rintro e w4 ⟨v4, rfl, s4, u4⟩
  rw [Wd.val_words] at s4
  have g4 := g3.trans u4
  have s1 := s1.up u4
  go_wp2_with fail
  refine (prod_mul (hb.up g4) (hc.up g4) (by omega) (by omega)).mono ?_
  rintro e w5 ⟨v5, rfl, s5, u5⟩
  have g5 := g4.trans u5
  have s1 := s1.up u5
  have s4 := s4.up u5
  go_wp2_with fail
  refine (prod_mul (ha.up g5) s5 (by omega) (by omega)).mono ?_
  rintro e w6 ⟨v6, rfl, s6, u6⟩
  rw [Wd.val_words, ← HA.out] at s6
  have g6 := g5.trans u6
  have s1 := s1.up u6
  have s4 := s4.up u6
  go_wp2_with fail
  refine (ref_same_yes s4 s6 (by omega)).mono ?_
  rintro e w7 ⟨rfl, u7⟩
  have g7 := g6.trans u7
  have s1 := s1.up u7
  clear u4 u5 u6 u7 s4 s5 s6 g3 g4 g5 g6
  go_wp2_with fail
  refine (nat_add (wss_two (hb.up g7) (hc.up g7)) (by simp) ?_ ?_).mono ?_
  · intro l hl
    simp at hl
    rcases hl with rfl | rfl <;> omega
  · rw [Wd.vsum_cons, Wd.vsum_cons, Wd.vsum_nil, Nat.add_zero]; omega
  rintro e w8 ⟨v8, rfl, s8, u8⟩
  rw [Wd.vsum_cons, Wd.vsum_cons, Wd.vsum_nil, Nat.add_zero] at s8
  have s1 := (s1.up ((Up.refl _).alloc _)).up u8
  have g8 := (g7.alloc _).trans u8
  go_wp2_with fail
  refine (prod_mul (ha.up g8) s8 (by omega) (by omega)).mono ?_
  rintro e w9 ⟨v9, rfl, s9, u9⟩
  rw [Wd.val_words] at s9
  have g9 := g8.trans u9
  have s1 := s1.up u9
  go_wp2_with fail
  refine (prod_mul (ha.up g9) (hc.up g9) (by omega) (by omega)).mono ?_
  rintro e w10 ⟨v10, rfl, s10, u10⟩
  obtain ⟨A10, n10, c10, rfl⟩ := s10.shape
  have g10 := g9.trans u10
  have s1 := s1.up u10
  have s9 := s9.up u10
  clear u8 u9 u10 g7 g8 g9 s8
  have HS : Hid (Wd.vsum [Wd.words (Wd.val a * Wd.val b), Wd.words (Wd.val a * Wd.val c)] = Wd.val a * (Wd.val b + Wd.val c)) := Lib.hid (by
    rw [Wd.vsum_cons, Wd.vsum_cons, Wd.vsum_nil, Nat.add_zero, Wd.val_words, Wd.val_words, HD.out])
  go_wp2_with fail
  refine (nat_add (wss_two s1 s10) (by simp) ?_ ?_).mono ?_
  · intro l hl
    simp at hl
    rcases hl with rfl | rfl <;> omega
  · rw [HS.out]; omega
  rintro e w11 ⟨v11, rfl, s11, u11⟩
  rw [HS.out] at s11
  have s9 := (s9.up ((Up.refl _).alloc _)).up u11
  have g11 := (g10.alloc _).trans u11
  go_wp2_with fail
  refine (ref_same_yes s9 s11 (by omega)).mono ?_
  rintro e w12 ⟨rfl, u12⟩
  have g12 := g11.trans u12
  go_wp2_with fail
  refine (prod_works _).mono ?_
  rintro e w13 ⟨rfl, u13⟩
  have g13 := g12.trans u13
  go_wp2
  go_ret
  exact ⟨rfl, g13⟩
end Go.Proofs.Ytelgenhmmfkmhaa
