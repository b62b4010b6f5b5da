/-
  The walks of the statements of layer 2.
-/
import Derived.Test.YtelgenhmmfkmhaaSmall
import Derived.Test.YtelgenhmmfkmhaaRefNat
set_option linter.unusedVariables false
set_option linter.unusedSimpArgs false
namespace Go.Proofs.Ytelgenhmmfkmhaa
open Go.RowKit

theorem words_list {l : List Nat} {n : Nat} (ho : Wd.Ok l) (ht : Wd.trim l = l) (hv : Wd.val l = n) : Wd.words n = l := by rw [← hv, Wd.words_val ho, ht]
theorem ok_of_all {l : List Nat} (h : ∀ x ∈ l, x < 4294967296) : Wd.Ok l := by rw [← Wd.B_eq] at h; exact h
theorem words_32 : Wd.words 4294967296 = [0, 1] := words_list (ok_of_all (by simp)) rfl (by simp [Wd.val, Wd.B_eq])
theorem words_small {n : Nat} (h0 : n ≠ 0) (h : n < 4294967296) : Wd.words n = [n] := words_list (ok_of_all (by simpa using h)) (by simp [Wd.trim, h0]) (by simp [Wd.val])
theorem len_words_small {n : Nat} (h : n < 4294967296) : (Wd.words n).length ≤ 1 := by
  rw [Wd.words_length_le_iff, Nat.pow_one, Wd.B_eq]; exact h
theorem len_words_64 {n : Nat} (h : n < 18446744073709551616) : (Wd.words n).length ≤ 2 := by
  rw [Wd.words_length_le_iff, Nat.pow_two, Wd.B_eq]; omega

theorem ref_same_up {v u : Value} {a b : List Nat} {w : World} (ha : Ws w v a) (hb : Ws w u b) (hla : a.length ≤ 1000000000) (hlb : b.length ≤ 1000000000) :
    Calls Try.prog 61 #[v, u] w fun e w' => e = .returned (.bool (decide (a = b))) ∧ Up w w' :=
  (ref_same ha hb hla hlb).mono fun e w' ⟨n, h1, h2⟩ => ⟨h1, by rw [h2]; exact (Up.refl w).drewN n⟩
theorem ref_same_yes {v u : Value} {a : List Nat} {w : World} (ha : Ws w v a) (hb : Ws w u a) (hla : a.length ≤ 1000000000) :
    Calls Try.prog 61 #[v, u] w fun e w' => e = .returned (.bool true) ∧ Up w w' :=
  (ref_same_up ha hb hla hla).mono fun e w' ⟨h1, h2⟩ => ⟨by rw [h1, decide_eq_true rfl], h2⟩
theorem nat_cmp_up {v u : Value} {a b : List Nat} {w : World} (ha : Ws w v a) (hb : Ws w u b) (hla : a.length ≤ 1000000000) (hlb : b.length ≤ 1000000000) :
    Calls Try.prog 64 #[v, u] w fun e w' => e = .returned (.int .i64 (Wd.cmpI (Wd.val a) (Wd.val b))) ∧ Up w w' :=
  (nat_cmp ha hb hla hlb).mono fun e w' ⟨n, h1, h2⟩ => ⟨h1, by rw [h2]; exact (Up.refl w).drewN n⟩
theorem len1 {n : Nat} (h : n < 4294967296) : (Wd.words n).length ≤ 1000000000 := Nat.le_trans (len_words_small h) (by omega)

set_option maxHeartbeats 1600000 in
theorem nat_works (w : World) : Calls Try.prog 59 #[] w fun e w' => e = .returned (.bool true) ∧ Up w w' := by
  go_enter Try.func59, Try.ntmps59
  go_wp2_with fail
  refine (nat_of 1 rfl (by omega) _).mono ?_
  rintro e w1 ⟨v1, rfl, h1, u1⟩
  go_wp2_with fail
  refine (nat_of 2 rfl (by omega) _).mono ?_
  rintro e w2 ⟨v2, rfl, h2, u2⟩
  go_wp2_with fail
  have g1 := u1.trans u2
  refine (nat_sub_no (h1.up u2) h2 (len1 (by omega)) (len1 (by omega)) (by rw [Wd.val_words, Wd.val_words]; omega)).mono ?_
  rintro e w3 ⟨v3, rfl, h3, u3⟩
  have g2 := g1.trans u3
  clear h1 h2 h3 u1 u2 u3 g1
  go_wp2_with fail
  refine (nat_of 4294967296 rfl (by omega) _).mono ?_
  rintro e w4 ⟨v4, rfl, h4, u4⟩
  rw [words_32] at h4
  have g3 := g2.trans u4
  go_wp2_with fail
  refine (ref_same_yes (h4.up ((Up.refl w4).alloc _)) (ws_two w4 0 1 Wd.B_pos Wd.B_one) (by simp)).mono ?_
  rintro e w5 ⟨rfl, u5⟩
  have g4 := (g3.alloc _).trans u5
  clear g2 u4 g3 h4 u5
  go_wp2_with fail
  refine (nat_of 1 rfl (by omega) _).mono ?_
  rintro e w6 ⟨v6, rfl, h6, u6⟩
  have g6 := g4.trans u6
  clear g4 u6
  go_wp2_with fail
  refine (nat_of 2 rfl (by omega) _).mono ?_
  rintro e w7 ⟨v7, rfl, h7, u7⟩
  have g7 := g6.trans u7
  have h6 := h6.up u7
  clear g6 u7
  go_wp2_with fail
  refine (nat_of 3 rfl (by omega) _).mono ?_
  rintro e w8 ⟨v8, rfl, h8, u8⟩
  have g8 := g7.trans u8
  have h6 := h6.up u8
  have h7 := h7.up u8
  clear g7 u8
  obtain ⟨A6, n6, c6, rfl⟩ := h6.shape
  obtain ⟨A7, n7, c7, rfl⟩ := h7.shape
  obtain ⟨A8, n8, c8, rfl⟩ := h8.shape
  have hsum : Wd.vsum [Wd.words 1, Wd.words 2, Wd.words 3] = 6 := by simp [Wd.vsum_cons, Wd.vsum_nil, Wd.val_words]
  go_wp2_with fail
  refine (nat_add (wss_three h6 h7 h8) (by simp) ?_ ?_).mono ?_
  · intro l hl
    simp at hl
    rcases hl with rfl | rfl | rfl <;> exact Nat.le_trans (len_words_small (by omega)) (by omega)
  · rw [hsum]; exact Nat.le_trans (len_words_small (by omega)) (by omega)
  rintro e w9 ⟨v9, rfl, h9, u9⟩
  rw [hsum, words_small (by omega) (by omega)] at h9
  have g9 := (g8.alloc _).trans u9
  clear g8 u9 h6 h7 h8 hsum
  go_wp2_with fail
  refine (ref_same_yes (h9.up ((Up.refl w9).alloc _)) (ws_one w9 6 (by rw [Wd.B_eq]; omega)) (by simp)).mono ?_
  rintro e w10 ⟨rfl, u10⟩
  have g10 := (g9.alloc _).trans u10
  clear g9 u10 h9
  go_wp2
  go_ret
  exact ⟨rfl, g10⟩

theorem val_two {l : List Nat} (h : l.length ≤ 2) : l.getD 0 0 + l.getD 1 0 * 4294967296 = Wd.val l := by
  match l, h with
  | [], _ => simp [Wd.val]
  | [x], _ => simp [Wd.val]
  | [x, y], _ => simp [Wd.val, Wd.B_eq]; omega
theorem zero_len (n : Nat) : decide (n = 0) = (((Wd.words n).length : Int) == 0) := by rw [Bool.eq_iff_iff]; simp [Wd.words_eq_nil]

set_option maxHeartbeats 3200000 in
theorem natTells_walk {v u : Value} {a b : List Nat} {n : Int} (N : Nat) (hn : n = N) (hN : N < 18446744073709551616) {w : World} (ha : Ws w v a) (hb : Ws w u b) :
    Calls Try.prog 12 #[v, u, .int .u64 n] w fun e w' => e = .returned (.bool true) ∧ Up w w' := by
  subst hn
  obtain ⟨A, c, rfl⟩ := ha.form
  obtain ⟨D, d, rfl⟩ := hb.form
  by_cases h1 : 300 < a.length
  · go_enter Try.func12, Try.ntmps12
    go_wp2_with fail
    refine (nat_works _).mono ?_
    rintro e w1 ⟨rfl, u1⟩
    go_wp2
    go_ret
    exact ⟨rfl, u1⟩
  · by_cases h2 : 300 < b.length
    · go_enter Try.func12, Try.ntmps12
      go_wp2_with fail
      refine (nat_works _).mono ?_
      rintro e w1 ⟨rfl, u1⟩
      go_wp2
      go_ret
      exact ⟨rfl, u1⟩
    · have hla : a.length ≤ 300 := by omega
      have hlb : b.length ≤ 300 := by omega
      clear h1 h2
      have hlw := len_words_val ha.ok hla
      by_cases h2 : (Wd.words (Wd.val a)).length ≤ 2
      all_goals
        go_enter Try.func12, Try.ntmps12
        go_wp2_with fail
        refine (nat_small ha (by omega)).mono ?_
        rintro e w1 ⟨rfl, rfl⟩
        first | rw [small_yes h2, decide_eq_true h2] | rw [small_no h2, decide_eq_false h2]
        go_wp2_with fail
        refine (ref_norm ha (by omega)).mono ?_
        rintro e w2 ⟨v2, rfl, o2, k2, g2⟩
        have s2 := Ws.of_own o2 k2
        clear o2 k2
        obtain ⟨A2, c2, rfl⟩ := s2.form
        go_wp2_with fail
      · have hv2 := val_two h2
        rw [Wd.val_words] at hv2
        have hx := Wd.ok_getD s2.ok 0
        have hy := Wd.ok_getD s2.ok 1
        rw [Wd.B_eq] at hx hy
        refine (ref_at 0 rfl s2 (by omega) (by omega)).mono ?_
        rintro e w3 ⟨rfl, rfl⟩
        generalize (Wd.words (Wd.val a)).getD 0 0 = x at *
        go_wp2_with fail
        refine (ref_at 1 rfl s2 (by omega) (by omega)).mono ?_
        rintro e w3 ⟨rfl, rfl⟩
        generalize (Wd.words (Wd.val a)).getD 1 0 = y at *
        have hcmp : (((Wd.val a : Nat) : Int) == (x : Int) + (y : Int) * 4294967296) = true := by simp; omega
        clear hv2
        go_wp2_with fail
        refine (nat_norm (ha.up g2) (by omega)).mono ?_
        rintro e w4 ⟨v4, rfl, o4, k4, u4⟩
        have s4 := Ws.of_own o4 k4
        clear o4 k4
        have g4 := g2.trans u4
        go_wp2_with fail
        refine (ref_same_yes s4 (s2.up u4) (by omega)).mono ?_
        rintro e w5 ⟨rfl, u5⟩
        have g5 := g4.trans u5
        clear s4 g4 u4
        go_wp2_with fail
        refine (nat_of N rfl hN _).mono ?_
        rintro e w6 ⟨v6, rfl, s6, u6⟩
        have g6 := g5.trans u6
        clear g5 u5
        go_wp2_with fail
        refine (ref_of N rfl hN _).mono ?_
        rintro e w7 ⟨v7, rfl, o7, k7, u7⟩
        have s7 := Ws.of_own o7 k7
        have g7 := g6.trans u7
        clear o7 k7 g6
        go_wp2_with fail
        refine (ref_same_yes (s6.up u7) s7 (Nat.le_trans (len_words_64 hN) (by omega))).mono ?_
        rintro e w8 ⟨rfl, u8⟩
        have g8 := g7.trans u8
        clear s6 s7 g7 u7 u8
        go_wp2_with fail
        refine (nat_zero (ha.up g8) (by omega)).mono ?_
        rintro e w9 ⟨rfl, rfl⟩
        rw [zero_len]
        go_wp2_with fail
        refine (nat_cmp_up (ha.up g8) (hb.up g8) (by omega) (by omega)).mono ?_
        rintro e w10 ⟨rfl, u10⟩
        have g10 := g8.trans u10
        clear g8 u10
        go_wp2_with fail
        refine (ref_cmp (ha.up g10) (hb.up g10) (by omega) (by omega)).mono ?_
        rintro e w11 ⟨rfl, rfl⟩
        go_wp2_with fail
        refine (nat_works _).mono ?_
        rintro e w12 ⟨rfl, u12⟩
        have g12 := g10.trans u12
        go_wp2
        go_ret
        exact ⟨rfl, g12⟩
      · have hcmp : decide (((Wd.words (Wd.val a)).length : Int) ≤ 2) = false := by simp; omega
        refine (nat_norm (ha.up g2) (by omega)).mono ?_
        rintro e w4 ⟨v4, rfl, o4, k4, u4⟩
        have s4 := Ws.of_own o4 k4
        clear o4 k4
        have g4 := g2.trans u4
        go_wp2_with fail
        refine (ref_same_yes s4 (s2.up u4) (by omega)).mono ?_
        rintro e w5 ⟨rfl, u5⟩
        have g5 := g4.trans u5
        clear s4 g4 u4
        go_wp2_with fail
        refine (nat_of N rfl hN _).mono ?_
        rintro e w6 ⟨v6, rfl, s6, u6⟩
        have g6 := g5.trans u6
        clear g5 u5
        go_wp2_with fail
        refine (ref_of N rfl hN _).mono ?_
        rintro e w7 ⟨v7, rfl, o7, k7, u7⟩
        have s7 := Ws.of_own o7 k7
        have g7 := g6.trans u7
        clear o7 k7 g6
        go_wp2_with fail
        refine (ref_same_yes (s6.up u7) s7 (Nat.le_trans (len_words_64 hN) (by omega))).mono ?_
        rintro e w8 ⟨rfl, u8⟩
        have g8 := g7.trans u8
        clear s6 s7 g7 u7 u8
        go_wp2_with fail
        refine (nat_zero (ha.up g8) (by omega)).mono ?_
        rintro e w9 ⟨rfl, rfl⟩
        rw [zero_len]
        go_wp2_with fail
        refine (nat_cmp_up (ha.up g8) (hb.up g8) (by omega) (by omega)).mono ?_
        rintro e w10 ⟨rfl, u10⟩
        have g10 := g8.trans u10
        clear g8 u10
        go_wp2_with fail
        refine (ref_cmp (ha.up g10) (hb.up g10) (by omega) (by omega)).mono ?_
        rintro e w11 ⟨rfl, rfl⟩
        go_wp2_with fail
        refine (nat_works _).mono ?_
        rintro e w12 ⟨rfl, u12⟩
        have g12 := g10.trans u12
        go_wp2
        go_ret
        exact ⟨rfl, g12⟩
end Go.Proofs.Ytelgenhmmfkmhaa
