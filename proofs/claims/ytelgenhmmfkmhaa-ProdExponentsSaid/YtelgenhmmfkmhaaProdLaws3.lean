/-
  The walk of the statement of layer 4 about exponents.
-/
import Derived.Test.YtelgenhmmfkmhaaProdLaws2
set_option linter.unusedVariables false
set_option linter.unusedSimpArgs false
namespace Go.Proofs.Ytelgenhmmfkmhaa
open Go.RowKit

/-- Small powers may be. -/
theorem pow_small_ok {a : List Nat} (h : Wd.Ok a) (hl : a.length ≤ 4) {e : Nat} (he : e ≤ 40) : Wd.powOk (Wd.val a) e = true ∧ Wd.powN (Wd.val a) e = Wd.val a ^ e := by
  have hb := (Wd.bl_le_iff (32 * a.length) (Wd.val a)).2 (Wd.val_lt_two h)
  have hk : Wd.powOk (Wd.val a) e = true := by
    by_cases hs : Wd.bl (Wd.val a) ≤ 1
    · exact powOk_small (by omega) hs
    · refine powOk_near (by omega) ?_
      have h3 : ((65536 / Wd.bl (Wd.val a) : Nat) : Int) = 65536 / (Wd.bl (Wd.val a) : Int) := by rw [Int.natCast_ediv]; rfl
      have h2 : e ≤ 65536 / Wd.bl (Wd.val a) := by
        refine (Nat.le_div_iff_mul_le (by omega)).2 ?_
        have := Nat.mul_le_mul he (show Wd.bl (Wd.val a) ≤ 128 from by omega)
        omega
      omega
  exact ⟨hk, by rw [powN_yes hk]; rfl⟩

set_option maxRecDepth 100000 in
set_option maxHeartbeats 3200000 in
theorem prodExponents_walk {v : Value} {a : List Nat} {m n : Int} (hm : -9223372036854775808 ≤ m ∧ m ≤ 9223372036854775807) (hn : -9223372036854775808 ≤ n ∧ n ≤ 9223372036854775807) {w : World} (ha : Ws w v a) :
    Calls Try.prog 19 #[v, .int .i64 m, .int .i64 n] w fun e w' => e = .returned (.bool true) ∧ Up w w' := by
  obtain ⟨A, c, rfl⟩ := ha.form
  by_cases h1 : 4 < a.length
  · go_enter Try.func19, Try.ntmps19
    go_wp2_with fail
    refine (prod_works _).mono ?_
    rintro e1 w1 ⟨rfl, u1⟩
    go_wp2
    go_ret
    exact ⟨rfl, u1⟩
  by_cases h2 : m < 0
  · go_enter Try.func19, Try.ntmps19
    go_wp2_with fail
    refine (prod_works _).mono ?_
    rintro e1 w1 ⟨rfl, u1⟩
    go_wp2
    go_ret
    exact ⟨rfl, u1⟩
  by_cases h3 : n < 0
  · go_enter Try.func19, Try.ntmps19
    go_wp2_with fail
    refine (prod_works _).mono ?_
    rintro e1 w1 ⟨rfl, u1⟩
    go_wp2
    go_ret
    exact ⟨rfl, u1⟩
  by_cases h4 : 20 < m
  · go_enter Try.func19, Try.ntmps19
    go_wp2_with fail
    refine (prod_works _).mono ?_
    rintro e1 w1 ⟨rfl, u1⟩
    go_wp2
    go_ret
    exact ⟨rfl, u1⟩
  by_cases h5 : 20 < n
  · go_enter Try.func19, Try.ntmps19
    go_wp2_with fail
    refine (prod_works _).mono ?_
    rintro e1 w1 ⟨rfl, u1⟩
    go_wp2
    go_ret
    exact ⟨rfl, u1⟩
  obtain ⟨d, rfl⟩ : ∃ d : Nat, m = d := ⟨m.toNat, by omega⟩
  obtain ⟨e, rfl⟩ : ∃ e : Nat, n = e := ⟨n.toNat, by omega⟩
  have K1 := Lib.hid (pow_small_ok ha.ok (by omega) (e := d) (by omega))
  have K2 := Lib.hid (pow_small_ok ha.ok (by omega) (e := e) (by omega))
  have K3 := Lib.hid (pow_small_ok ha.ok (by omega) (e := d + e) (by omega))
  have K4 := Lib.hid (pow_small_ok ha.ok (by omega) (e := 2) (by omega))
  have hl1 := powN_len ha.ok d
  have hl2 := powN_len ha.ok e
  have hl3 := powN_len ha.ok ((d + e : Nat) : Int)
  have hl4 := powN_len ha.ok ((2 : Nat) : Int)
  rw [K1.out.2] at hl1
  rw [K2.out.2] at hl2
  rw [K3.out.2] at hl3
  rw [K4.out.2] at hl4
  have E1 := Lib.hid (Nat.pow_add (Wd.val a) d e)
  have E2 := Lib.hid (Nat.pow_two (Wd.val a))
  have EC : Hid (((d : Int) + (e : Int)) = ((d + e : Nat) : Int)) := Lib.hid (by omega)
  go_enter Try.func19, Try.ntmps19
  go_wp2_with fail
  refine (prod_pow ha (by omega) hm).mono ?_
  rintro e1 w1 ⟨v1, rfl, s1, u1⟩
  rw [K1.out.2] at s1
  rw [K1.out.1]
  go_wp2_with fail
  refine (prod_pow (ha.up u1) (by omega) hn).mono ?_
  rintro e1 w2 ⟨v2, rfl, s2, u2⟩
  rw [K2.out.2] at s2
  rw [K2.out.1]
  have g2 := u1.trans u2
  have s1 := s1.up u2
  go_wp2_with fail
  rw [EC.out]
  refine (prod_pow (ha.up g2) (by omega) (by omega)).mono ?_
  rintro e1 w3 ⟨v3, rfl, s3, u3⟩
  rw [K3.out.2] at s3
  rw [K3.out.1]
  have g3 := g2.trans u3
  have s1 := s1.up u3
  have s2 := s2.up u3
  go_wp2_with fail
  refine (prod_pow (n := ((2 : Nat) : Int)) (ha.up g3) (by omega) (by omega)).mono ?_
  rintro e1 w4 ⟨v4, rfl, s4, u4⟩
  rw [K4.out.2] at s4
  rw [K4.out.1]
  have g4 := g3.trans u4
  have s1 := s1.up u4
  have s2 := s2.up u4
  have s3 := s3.up u4
  clear u1 u2 u3 u4 g2 g3
  go_wp2_with fail
  refine (prod_mul s1 s2 (by omega) (by omega)).mono ?_
  rintro e1 w5 ⟨v5, rfl, s5, u5⟩
  rw [Wd.val_words, Wd.val_words, ← E1.out] at s5
  have g5 := g4.trans u5
  have s3 := s3.up u5
  have s4 := s4.up u5
  go_wp2_with fail
  refine (ref_same_yes s5 s3 (by omega)).mono ?_
  rintro e1 w6 ⟨rfl, u6⟩
  have g6 := g5.trans u6
  have s4 := s4.up u6
  clear u5 u6 s5 s3 g4 g5
  go_wp2_with fail
  refine (prod_square (ha.up g6) (by omega)).mono ?_
  rintro e1 w7 ⟨v7, rfl, s7, u7⟩
  rw [← E2.out] at s7
  have g7 := g6.trans u7
  have s4 := s4.up u7
  go_wp2_with fail
  refine (ref_same_yes s7 s4 (by omega)).mono ?_
  rintro e1 w8 ⟨rfl, u8⟩
  have g8 := g7.trans u8
  go_wp2_with fail
  refine (prod_works _).mono ?_
  rintro e1 w9 ⟨rfl, u9⟩
  have g9 := g8.trans u9
  go_wp2
  go_ret
  exact ⟨rfl, g9⟩
end Go.Proofs.Ytelgenhmmfkmhaa
