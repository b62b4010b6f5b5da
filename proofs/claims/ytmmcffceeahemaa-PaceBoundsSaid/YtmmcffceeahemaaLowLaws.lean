/-
  The walks of the document's layer 3 that shift.
  The walks of the statements of layer 2.
  The walks of the statements of layer 2, the others.
  The laws of layer 3.
-/
import Derived.Test.YtmmcffceeahemaaLowTwos
import Derived.Test.YtmmcffceeahemaaRefNat
set_option linter.unusedVariables false
set_option linter.unusedSimpArgs false
namespace Go.Proofs.Ytmmcffceeahemaa
open Go.RowKit

theorem low_add {z b : Nat} (hz : z < 2 ^ b) (hb : b < 32) : IntKind.u32.wrap ((z : Int) + IntKind.u32.wrap (2 ^ b)) = ((z + 2 ^ b : Nat) : Int) ∧ z + 2 ^ b < Wd.B := by
  have h1 : (2 : Nat) ^ b ≤ 2 ^ 31 := Nat.pow_le_pow_right (by omega) (by omega)
  have e1 : ((2 : Int) ^ b) = ((2 ^ b : Nat) : Int) := by rw [Int.natCast_pow]; rfl
  rw [e1, Wd.B_eq]
  generalize 2 ^ b = p at *
  rw [IntKind.wrap_u32', IntKind.wrap_u32']
  omega


/-- What stands at a place of a number shifted. -/
theorem bit_up (N n i : Nat) : bitZ N ((-(n : Int)) + (i : Nat)) = Wd.bitN (N * 2 ^ n) i := by
  unfold bitZ
  by_cases h : i < n
  · rw [if_pos (by omega)]
    unfold Wd.bitN
    have e : N * 2 ^ n = 2 ^ i * (2 * (2 ^ (n - i - 1) * N)) := by
      have e2 : 2 ^ n = 2 ^ i * (2 * 2 ^ (n - i - 1)) := by
        rw [← Nat.pow_succ', ← Nat.pow_add]; congr 1; omega
      rw [e2]; ac_rfl
    rw [e, Nat.mul_div_cancel_left _ (Nat.two_pow_pos i), Nat.mul_mod_right]
    rfl
  · rw [if_neg (by omega), show (-(n : Int) + (i : Nat)).toNat = i - n from by omega]
    unfold Wd.bitN
    rw [show i = n + (i - n) from by omega, Nat.pow_add, ← Nat.div_div_eq_div_mul, Nat.mul_div_cancel _ (Nat.two_pow_pos n), Nat.add_sub_cancel_left]
theorem bit_down (N n i : Nat) : bitZ N ((n : Int) + (i : Nat)) = Wd.bitN (N / 2 ^ n) i := by
  unfold bitZ
  rw [if_neg (by omega), show ((n : Int) + (i : Nat)).toNat = n + i from by omega]
  unfold Wd.bitN
  rw [Nat.div_div_eq_div_mul, ← Nat.pow_add]
theorem bit_low (N i : Nat) : bitZ N ((0 : Int) + (i : Nat)) = Wd.bitN N i := by
  have := bit_down N 0 i
  rw [Nat.pow_zero, Nat.div_one] at this
  exact this


theorem min_len {j L : Nat} : ((min j L : Nat) : Int) = if (L : Int) < (j : Int) then (L : Int) else (j : Int) := by split <;> omega
theorem div_far {N L j : Nat} (h : N < 2 ^ L) : N / 2 ^ min j L = N / 2 ^ j := by
  by_cases hj : j ≤ L
  · rw [Nat.min_eq_left hj]
  · rw [Nat.min_eq_right (by omega), Nat.div_eq_of_lt h, Nat.div_eq_of_lt (Nat.lt_of_lt_of_le h (Nat.pow_le_pow_right (by omega) (by omega)))]
theorem mod_far {N L j : Nat} (h : N < 2 ^ L) : N % 2 ^ min j L = N % 2 ^ j := by
  by_cases hj : j ≤ L
  · rw [Nat.min_eq_left hj]
  · rw [Nat.min_eq_right (by omega), Nat.mod_eq_of_lt h, Nat.mod_eq_of_lt (Nat.lt_of_lt_of_le h (Nat.pow_le_pow_right (by omega) (by omega)))]



end Go.Proofs.Ytmmcffceeahemaa
set_option linter.unusedVariables false
set_option linter.unusedSimpArgs false
namespace Go.Proofs.Ytmmcffceeahemaa
open Go.RowKit

theorem words_list {l : List Nat} {n : Nat} (ho : Wd.Ok l) (ht : Wd.trim l = l) (hv : Wd.val l = n) : Wd.words n = l := by rw [← hv, Wd.words_val ho, ht]
theorem ok_of_all {l : List Nat} (h : ∀ x ∈ l, x < 4294967296) : Wd.Ok l := by rw [← Wd.B_eq] at h; exact h
theorem words_32 : Wd.words 4294967296 = [0, 1] := words_list (ok_of_all (by simp)) rfl (by simp [Wd.val, Wd.B_eq])
theorem words_small {n : Nat} (h0 : n ≠ 0) (h : n < 4294967296) : Wd.words n = [n] := words_list (ok_of_all (by simpa using h)) (by simp [Wd.trim, h0]) (by simp [Wd.val])
theorem len_words_small {n : Nat} (h : n < 4294967296) : (Wd.words n).length ≤ 1 := by
  rw [Wd.words_length_le_iff, Nat.pow_one, Wd.B_eq]; exact h
theorem len_words_64 {n : Nat} (h : n < 18446744073709551616) : (Wd.words n).length ≤ 2 := by
  rw [Wd.words_length_le_iff, Nat.pow_two, Wd.B_eq]; omega

theorem ref_same_up {v u : Value} {a b : List Nat} {w : World} (ha : Ws w v a) (hb : Ws w u b) (hla : a.length ≤ 100000000000) (hlb : b.length ≤ 100000000000) :
    Calls Try.prog 126 #[v, u] w fun e w' => e = .returned (.bool (decide (a = b))) ∧ Up w w' :=
  (ref_same ha hb hla hlb).mono fun e w' ⟨n, h1, h2⟩ => ⟨h1, by rw [h2]; exact (Up.refl w).drewN n⟩
theorem ref_same_yes {v u : Value} {a : List Nat} {w : World} (ha : Ws w v a) (hb : Ws w u a) (hla : a.length ≤ 100000000000) :
    Calls Try.prog 126 #[v, u] w fun e w' => e = .returned (.bool true) ∧ Up w w' :=
  (ref_same_up ha hb hla hla).mono fun e w' ⟨h1, h2⟩ => ⟨by rw [h1, decide_eq_true rfl], h2⟩
theorem nat_cmp_up {v u : Value} {a b : List Nat} {w : World} (ha : Ws w v a) (hb : Ws w u b) (hla : a.length ≤ 100000000000) (hlb : b.length ≤ 100000000000) :
    Calls Try.prog 124 #[v, u] w fun e w' => e = .returned (.int .i64 (Wd.cmpI (Wd.val a) (Wd.val b))) ∧ Up w w' :=
  (nat_cmp ha hb hla hlb).mono fun e w' ⟨n, h1, h2⟩ => ⟨h1, by rw [h2]; exact (Up.refl w).drewN n⟩
theorem len1 {n : Nat} (h : n < 4294967296) : (Wd.words n).length ≤ 100000000000 := Nat.le_trans (len_words_small h) (by omega)


theorem val_two {l : List Nat} (h : l.length ≤ 2) : l.getD 0 0 + l.getD 1 0 * 4294967296 = Wd.val l := by
  match l, h with
  | [], _ => simp [Wd.val]
  | [x], _ => simp [Wd.val]
  | [x, y], _ => simp [Wd.val, Wd.B_eq]; omega
theorem zero_len (n : Nat) : decide (n = 0) = (((Wd.words n).length : Int) == 0) := by rw [Bool.eq_iff_iff]; simp [Wd.words_eq_nil]


end Go.Proofs.Ytmmcffceeahemaa
set_option linter.unusedVariables false
set_option linter.unusedSimpArgs false
namespace Go.Proofs.Ytmmcffceeahemaa
open Go.RowKit

theorem wss_ok {w : World} {v : Value} {ls : List (List Nat)} (h : Wss w v ls) : ∀ l ∈ ls, Wd.Ok l := by
  obtain ⟨A, c, vs, _, _, _, h4, _, h6⟩ := h
  intro l hl
  obtain ⟨i, hi, rfl⟩ := List.mem_iff_getElem.1 hl
  exact (h6 i vs[i] ls[i] (List.getElem?_eq_getElem (by omega)) (List.getElem?_eq_getElem hi)).ok
theorem lens_false {ls : List (List Nat)} {m : Nat} (h : Wd.longL (lens ls) m 0 = false) : (∀ l ∈ ls, l.length ≤ m) ∧ ls.length ≤ 100 := by
  have h1 := Wd.longL_false h
  refine ⟨fun l hl => Wd.sum_mem_le h1.1 _ (List.mem_map_of_mem hl), ?_⟩
  rcases h1.2 with h2 | h2
  · have : ls = [] := by simpa [lens] using h2
    simp [this]
  · simpa [lens] using h2


theorem len_sub {a : List Nat} {n m : Nat} (ha : Wd.Ok a) (h : a.length ≤ m) (hn : n ≤ Wd.val a) : (Wd.words n).length ≤ m := Nat.le_trans (Wd.words_mono hn) (len_words_val ha h)


theorem lens_three {l m n : List Nat} {k : Nat} (h1 : l.length ≤ k) (h2 : m.length ≤ k) (h3 : n.length ≤ k) : ∀ x ∈ [l, m, n], x.length ≤ k := by
  intro x hx; simp at hx; rcases hx with rfl | rfl | rfl <;> assumption
theorem lens_two {l m : List Nat} {k : Nat} (h1 : l.length ≤ k) (h2 : m.length ≤ k) : ∀ x ∈ [l, m], x.length ≤ k := by
  intro x hx; simp at hx; rcases hx with rfl | rfl <;> assumption
theorem vsum_two (a b : List Nat) : Wd.vsum [a, b] = Wd.val a + Wd.val b := by simp [Wd.vsum_cons, Wd.vsum_nil]
theorem vsum_three (a b c : List Nat) : Wd.vsum [a, b, c] = Wd.val a + (Wd.val b + Wd.val c) := by simp [Wd.vsum_cons, Wd.vsum_nil]


end Go.Proofs.Ytmmcffceeahemaa
set_option linter.unusedVariables false
set_option linter.unusedSimpArgs false
namespace Go.Proofs.Ytmmcffceeahemaa
open Go.RowKit

theorem bl_8 : Wd.bl 8 = 4 := by
  have e := Wd.bl_shift 3 8 (by decide)
  rw [show 8 / 2 ^ 3 = 1 from by decide, Wd.bl_small (n := 1) (by omega)] at e
  exact e
theorem tz_8 : Wd.tz 8 = 3 := by
  have e := Wd.tz_shift 3 8 (by decide) (by decide)
  rw [show 8 / 2 ^ 3 = 1 from by decide, Wd.tz_odd (n := 1) (by omega)] at e
  exact e
theorem bit_8 : bitZ 8 3 = true := by decide
theorem ws_words_len {v : Value} {w : World} {n : Nat} (h : Ws w v (Wd.words n)) (hn : n < 4294967296) : (Wd.words n).length ≤ 10000000000 := Nat.le_trans (len_words_small hn) (by omega)



theorem len_shift {N k i : Nat} (h : N < 2 ^ (32 * k)) (hi : i ≤ 4096) : (Wd.words (N * 2 ^ i)).length ≤ k + 128 := by
  rw [Wd.words_length_le_iff, Wd.B_pow]
  refine Nat.lt_of_lt_of_le (Nat.mul_lt_mul_of_pos_right h (Nat.two_pow_pos i)) ?_
  rw [← Nat.pow_add]
  exact Nat.pow_le_pow_right (by omega) (by omega)
theorem len_div {a : List Nat} (ha : Wd.Ok a) (k : Nat) : (Wd.words (Wd.val a / k)).length ≤ a.length := len_sub ha (Nat.le_refl _) (Nat.div_le_self _ _)
theorem len_mod {a : List Nat} (ha : Wd.Ok a) (k : Nat) : (Wd.words (Wd.val a % k)).length ≤ a.length := len_sub ha (Nat.le_refl _) (Nat.mod_le _ _)


end Go.Proofs.Ytmmcffceeahemaa
