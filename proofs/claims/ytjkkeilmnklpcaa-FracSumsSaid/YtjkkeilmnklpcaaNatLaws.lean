/-
  The walks of the statements of layer 2.
-/
import Derived.Test.YtjkkeilmnklpcaaSmall
import Derived.Test.YtjkkeilmnklpcaaRefNat
set_option linter.unusedVariables false
set_option linter.unusedSimpArgs false
namespace Go.Proofs.Ytjkkeilmnklpcaa
open Go.RowKit

theorem words_list {l : List Nat} {n : Nat} (ho : Wd.Ok l) (ht : Wd.trim l = l) (hv : Wd.val l = n) : Wd.words n = l := by rw [← hv, Wd.words_val ho, ht]
theorem ok_of_all {l : List Nat} (h : ∀ x ∈ l, x < 4294967296) : Wd.Ok l := by rw [← Wd.B_eq] at h; exact h
theorem words_32 : Wd.words 4294967296 = [0, 1] := words_list (ok_of_all (by simp)) rfl (by simp [Wd.val, Wd.B_eq])
theorem words_small {n : Nat} (h0 : n ≠ 0) (h : n < 4294967296) : Wd.words n = [n] := words_list (ok_of_all (by simpa using h)) (by simp [Wd.trim, h0]) (by simp [Wd.val])
theorem len_words_small {n : Nat} (h : n < 4294967296) : (Wd.words n).length ≤ 1 := by
  rw [Wd.words_length_le_iff, Nat.pow_one, Wd.B_eq]; exact h
theorem len_words_64 {n : Nat} (h : n < 18446744073709551616) : (Wd.words n).length ≤ 2 := by
  rw [Wd.words_length_le_iff, Nat.pow_two, Wd.B_eq]; omega

theorem ref_same_up {v u : Value} {a b : List Nat} {w : World} (ha : Ws w v a) (hb : Ws w u b) (hla : a.length ≤ 1000000000) (hlb : b.length ≤ 1000000000) :
    Calls Try.prog 110 #[v, u] w fun e w' => e = .returned (.bool (decide (a = b))) ∧ Up w w' :=
  (ref_same ha hb hla hlb).mono fun e w' ⟨n, h1, h2⟩ => ⟨h1, by rw [h2]; exact (Up.refl w).drewN n⟩
theorem ref_same_yes {v u : Value} {a : List Nat} {w : World} (ha : Ws w v a) (hb : Ws w u a) (hla : a.length ≤ 1000000000) :
    Calls Try.prog 110 #[v, u] w fun e w' => e = .returned (.bool true) ∧ Up w w' :=
  (ref_same_up ha hb hla hla).mono fun e w' ⟨h1, h2⟩ => ⟨by rw [h1, decide_eq_true rfl], h2⟩
theorem nat_cmp_up {v u : Value} {a b : List Nat} {w : World} (ha : Ws w v a) (hb : Ws w u b) (hla : a.length ≤ 1000000000) (hlb : b.length ≤ 1000000000) :
    Calls Try.prog 108 #[v, u] w fun e w' => e = .returned (.int .i64 (Wd.cmpI (Wd.val a) (Wd.val b))) ∧ Up w w' :=
  (nat_cmp ha hb hla hlb).mono fun e w' ⟨n, h1, h2⟩ => ⟨h1, by rw [h2]; exact (Up.refl w).drewN n⟩
theorem len1 {n : Nat} (h : n < 4294967296) : (Wd.words n).length ≤ 1000000000 := Nat.le_trans (len_words_small h) (by omega)


theorem val_two {l : List Nat} (h : l.length ≤ 2) : l.getD 0 0 + l.getD 1 0 * 4294967296 = Wd.val l := by
  match l, h with
  | [], _ => simp [Wd.val]
  | [x], _ => simp [Wd.val]
  | [x, y], _ => simp [Wd.val, Wd.B_eq]; omega
theorem zero_len (n : Nat) : decide (n = 0) = (((Wd.words n).length : Int) == 0) := by rw [Bool.eq_iff_iff]; simp [Wd.words_eq_nil]


end Go.Proofs.Ytjkkeilmnklpcaa
