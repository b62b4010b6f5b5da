/-
  Polynomials, plain: products as the program sums them up; how long the coefficients get, over one common lower number.
-/
import Derived.Test.YtmmcffceeahemaaPolyMath2
set_option linter.unusedVariables false
set_option linter.unusedSimpArgs false
namespace Pq
/-- x times the first j of q is added, i places up. -/
def mrow (x : Rat) (q : List Rat) (i : Nat) : Nat → List Rat → List Rat
  | 0, o => o
  | j + 1, o => (mrow x q i j o).set (i + j) ((mrow x q i j o).getD (i + j) 0 + x * q.getD j 0)
/-- The first i of p times q. -/
def mall (p q : List Rat) : Nat → List Rat
  | 0 => List.replicate (p.length + q.length) 0
  | i + 1 => mrow (p.getD i 0) q i q.length (mall p q i)
theorem mrow_len (x : Rat) (q : List Rat) (i : Nat) : ∀ (j : Nat) (o : List Rat), (mrow x q i j o).length = o.length
  | 0, o => rfl
  | j + 1, o => by rw [mrow, List.length_set, mrow_len x q i j o]
theorem mall_len (p q : List Rat) : ∀ i, (mall p q i).length = p.length + q.length
  | 0 => by simp [mall]
  | i + 1 => by rw [mall, mrow_len, mall_len p q i]
theorem set_getD (o : List Rat) (n : Nat) : o.set n (o.getD n 0) = o := by
  apply List.ext_getElem (by simp)
  intro i h1 h2
  rw [List.getElem_set]
  split
  · rename_i h; subst h; simp [List.getD_eq_getElem?_getD, List.getElem?_eq_getElem h2]
  · rfl
theorem mrow_zero (q : List Rat) (i : Nat) : ∀ (j : Nat) (o : List Rat), mrow 0 q i j o = o
  | 0, o => rfl
  | j + 1, o => by rw [mrow, mrow_zero q i j o, Rat.zero_mul, Rat.add_zero, set_getD]
theorem rpow_add (t : Rat) (i : Nat) : ∀ j, t ^ (i + j) = t ^ i * t ^ j
  | 0 => by rw [Nat.add_zero, Rat.pow_zero, Rat.mul_one]
  | j + 1 => by rw [← Nat.add_assoc, Rat.pow_succ, Rat.pow_succ, rpow_add t i j, Rat.mul_assoc]
theorem E_mrow (x : Rat) (q : List Rat) (i : Nat) (t : Rat) : ∀ (j : Nat) (o : List Rat), i + j ≤ o.length → j ≤ q.length → E (mrow x q i j o) t = E o t + t ^ i * (x * E (q.take j) t)
  | 0, o, _, _ => by simp only [mrow, List.take_zero, E]; grind
  | j + 1, o, h, hq => by
    have ih := E_mrow x q i t j o (by omega) (by omega)
    have hj : j < q.length := by omega
    rw [mrow, E_set _ _ _ _ (by rw [mrow_len]; omega), ih, E_take_succ hj, rpow_add]
    have e : q.getD j 0 = q[j] := by simp [List.getD_eq_getElem?_getD, List.getElem?_eq_getElem hj]
    rw [e]
    grind
theorem E_mall (p q : List Rat) (t : Rat) : ∀ i, i ≤ p.length → E (mall p q i) t = E (p.take i) t * E q t
  | 0, _ => by rw [mall, E_replicate]; simp [E]
  | i + 1, h => by
    have hi : i < p.length := by omega
    have e : p.getD i 0 = p[i] := by simp [List.getD_eq_getElem?_getD, List.getElem?_eq_getElem hi]
    rw [mall, E_mrow _ _ _ _ _ _ (by rw [mall_len]; omega) (Nat.le_refl _), E_mall p q t i (by omega), E_take_succ hi, List.take_length, e]
    grind
theorem nm_mall (p q : List Rat) : nm (mall p q p.length) = nm (mul p q) := nm_ext fun x => by
  rw [E_mall p q x _ (Nat.le_refl _), List.take_length, E_mul]

/-- A fraction over a lower number that is given, its upper one at most so great. -/
def Cm (d N : Nat) (v : Rat) : Prop := ∃ n : Int, v * (d : Rat) = (n : Rat) ∧ n.natAbs ≤ N
theorem Cm.zero (d N : Nat) : Cm d N 0 := ⟨0, by rw [Rat.zero_mul]; rfl, by simp⟩
theorem Cm.mono {d N M : Nat} {v : Rat} (h : Cm d N v) (hm : N ≤ M) : Cm d M v := by obtain ⟨n, h1, h2⟩ := h; exact ⟨n, h1, Nat.le_trans h2 hm⟩
theorem Cm.add {d N M : Nat} {a b : Rat} (h : Cm d N a) (k : Cm d M b) : Cm d (N + M) (a + b) := by
  obtain ⟨n, h1, h2⟩ := h
  obtain ⟨m, k1, k2⟩ := k
  refine ⟨n + m, ?_, by omega⟩
  rw [Rat.add_mul, h1, k1]; push_cast; rfl
theorem Cm.neg {d N : Nat} {a : Rat} (h : Cm d N a) : Cm d N (-a) := by
  obtain ⟨n, h1, h2⟩ := h
  refine ⟨-n, ?_, by omega⟩
  rw [Rat.neg_mul, h1]; push_cast; rfl
theorem Cm.sub {d N M : Nat} {a b : Rat} (h : Cm d N a) (k : Cm d M b) : Cm d (N + M) (a - b) := by rw [Rat.sub_eq_add_neg]; exact h.add k.neg
theorem Cm.mul {d e N M : Nat} {a b : Rat} (h : Cm d N a) (k : Cm e M b) : Cm (d * e) (N * M) (a * b) := by
  obtain ⟨n, h1, h2⟩ := h
  obtain ⟨m, k1, k2⟩ := k
  refine ⟨n * m, ?_, by rw [Int.natAbs_mul]; exact Nat.mul_le_mul h2 k2⟩
  push_cast
  rw [← h1, ← k1]; grind
theorem Cm.up {d N : Nat} {a : Rat} (h : Cm d N a) (c : Nat) : Cm (d * c) (N * c) a := by
  obtain ⟨n, h1, h2⟩ := h
  refine ⟨n * c, ?_, by rw [Int.natAbs_mul, Int.natAbs_natCast]; exact Nat.mul_le_mul_right _ h2⟩
  push_cast
  rw [← h1]; grind
theorem Cm.self (q : Rat) : Cm q.den q.num.natAbs q := ⟨q.num, by rw [Rat.mul_comm]; exact den_mul q, Nat.le_refl _⟩
theorem Cm.eq {d N : Nat} {v : Rat} (h : Cm d N v) (hd : d ≠ 0) : ∃ n : Int, v = mkRat n d ∧ n.natAbs ≤ N := by
  obtain ⟨n, h1, h2⟩ := h
  refine ⟨n, ?_, h2⟩
  have hd' : (d : Rat) ≠ 0 := by
    intro e
    exact hd (by exact_mod_cast e)
  rw [Rat.mkRat_eq_div, ← h1, Rat.div_def, Rat.mul_assoc, Rat.mul_inv_cancel _ hd', Rat.mul_one]
theorem Cm.lq {d N k : Nat} {v : Rat} (h : Cm d N v) (hd : d ≠ 0) (h1 : d < Wd.B ^ k) (h2 : N < Wd.B ^ k) (hk : 1 ≤ k) : Wd.Lq v k := by
  obtain ⟨n, rfl, hn⟩ := h.eq hd
  exact Wd.Lq.mk (Wd.words_lt (Nat.lt_of_le_of_lt hn h2)) (Wd.words_lt h1) hk
/-- All over one lower number of at most so many words, the upper ones as long. -/
def Lp (p : List Rat) (k : Nat) : Prop := ∃ d : Nat, d ≠ 0 ∧ d < Wd.B ^ k ∧ ∃ N : Nat, N < Wd.B ^ k ∧ ∀ q ∈ p, Cm d N q
end Pq
