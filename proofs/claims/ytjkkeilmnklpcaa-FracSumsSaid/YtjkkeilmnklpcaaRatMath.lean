/-
  Plain fractions: signs, values, lengths. No program here.
-/
import Derived.Test.YtjkkeilmnklpcaaCommonMath
namespace Wd

/-- A whole number: below 0 or not, and how far from it. -/
def iv (s : Bool) (n : Nat) : Int := if s then -(n : Int) else (n : Int)
/-- Below 0? -/
def ngb (z : Int) : Bool := decide (z < 0)
theorem iv_abs (s : Bool) (n : Nat) : (iv s n).natAbs = n := by cases s <;> simp [iv]
theorem iv_ngb (z : Int) : iv (ngb z) z.natAbs = z := by
  unfold iv ngb
  by_cases h : z < 0
  · rw [decide_eq_true h]; simp; omega
  · rw [decide_eq_false h]; simp; omega
theorem iv_ne (s : Bool) {n : Nat} (h : n ≠ 0) : ngb (iv s n) = s := by
  unfold iv ngb
  cases s
  · exact decide_eq_false (by simp)
  · exact decide_eq_true (by simp; omega)
theorem iv_zero (s : Bool) : iv s 0 = 0 := by cases s <;> rfl
theorem ngb_iv (s : Bool) (n : Nat) : ngb (iv s n) = (s && decide (0 < n)) := by
  by_cases h : n = 0
  · subst h; rw [iv_zero]; simp [ngb]
  · rw [iv_ne s h, decide_eq_true (by omega), Bool.and_true]
theorem ngb_words (s : Bool) (n : Nat) : ngb (iv s n) = (s && decide (0 < (words n).length)) := by
  rw [ngb_iv]
  congr 1
  have := @words_length_zero n
  simp only [decide_eq_decide]
  omega
theorem iv_eq_zero {s : Bool} {n : Nat} : iv s n = 0 ↔ n = 0 := by cases s <;> simp [iv]
theorem iv_false (n : Nat) : iv false n = (n : Int) := rfl
theorem iv_true (n : Nat) : iv true n = -(n : Int) := rfl
theorem iv_not (s : Bool) (n : Nat) : iv (!s) n = -iv s n := by cases s <;> simp [iv]
theorem iv_mul (s t : Bool) (m n : Nat) : iv (s != t) (m * n) = iv s m * iv t n := by
  cases s <;> cases t <;> simp [iv, Int.natCast_mul, Int.mul_neg, Int.neg_mul]
theorem iv_add (s : Bool) (m n : Nat) : iv s (m + n) = iv s m + iv s n := by cases s <;> simp [iv]; omega
theorem ngb_zero : ngb 0 = false := rfl
theorem ngb_natCast (n : Nat) : ngb (n : Int) = false := by unfold ngb; exact decide_eq_false (by omega)
/-- Sums of signs that are not alike. -/
theorem iv_gap (s t : Bool) (m n : Nat) (h : (s == t) = false) : iv (if m < n then t else s) (gapN m n) = iv s m + iv t n := by
  unfold gapN
  by_cases hlt : m < n
  · rw [if_pos hlt, if_pos hlt]
    cases s <;> cases t <;> simp [iv] at h ⊢ <;> omega
  · rw [if_neg hlt, if_neg hlt]
    cases s <;> cases t <;> simp [iv] at h ⊢ <;> omega
theorem ngb_neg {z : Int} (h : z ≠ 0) : ngb (-z) = !ngb z := by
  unfold ngb
  by_cases h1 : z < 0
  · rw [decide_eq_true h1, decide_eq_false (by omega)]; rfl
  · rw [decide_eq_false h1, decide_eq_true (by omega)]; rfl

/-- The sign of a whole number, as the machine tells it. -/
def sgn (z : Int) : Int := if z < 0 then -1 else if 0 < z then 1 else 0
theorem sgn_zero : sgn 0 = 0 := rfl
theorem sgn_neg {z : Int} (h : z < 0) : sgn z = -1 := if_pos h
theorem sgn_pos {z : Int} (h : 0 < z) : sgn z = 1 := by unfold sgn; rw [if_neg (by omega), if_pos h]
theorem sgn_cases (z : Int) : z < 0 ∧ sgn z = -1 ∨ z = 0 ∧ sgn z = 0 ∨ 0 < z ∧ sgn z = 1 := by
  rcases Int.lt_trichotomy z 0 with h | h | h
  · exact .inl ⟨h, sgn_neg h⟩
  · exact .inr (.inl ⟨h, by rw [h]; rfl⟩)
  · exact .inr (.inr ⟨h, sgn_pos h⟩)
theorem sgn_bd (z : Int) : -1 ≤ sgn z ∧ sgn z ≤ 1 := by rcases sgn_cases z with ⟨_, h⟩ | ⟨_, h⟩ | ⟨_, h⟩ <;> omega
theorem sgn_mul (x y : Int) : sgn (x * y) = sgn x * sgn y := by
  rcases sgn_cases x with ⟨h, e⟩ | ⟨h, e⟩ | ⟨h, e⟩ <;> rcases sgn_cases y with ⟨k, f⟩ | ⟨k, f⟩ | ⟨k, f⟩ <;> rw [e, f]
  · exact sgn_pos (Int.mul_pos_of_neg_of_neg h k)
  · subst k; simp [sgn]
  · exact sgn_neg (Int.mul_neg_of_neg_of_pos h k)
  · subst h; simp [sgn]
  · subst h; simp [sgn]
  · subst h; simp [sgn]
  · exact sgn_neg (Int.mul_neg_of_pos_of_neg h k)
  · subst k; simp [sgn]
  · exact sgn_pos (Int.mul_pos h k)
theorem sgn_neg_ (z : Int) : sgn (-z) = -sgn z := by rcases sgn_cases z with ⟨h, e⟩ | ⟨h, e⟩ | ⟨h, e⟩ <;> rw [e] <;> unfold sgn <;> (repeat' split) <;> omega

theorem words_64 {n : Nat} (h : n < 18446744073709551616) : (words n).length ≤ 2 := by
  rw [words_length_le_iff, B_eq]; exact h
theorem words_32 {n : Nat} (h : n < 4294967296) : (words n).length ≤ 1 := by
  rw [words_length_le_iff, B_eq, Nat.pow_one]; exact h
/-- A whole number of so many words. -/
def Lz (z : Int) (k : Nat) : Prop := (words z.natAbs).length ≤ k
theorem Lz.mono {z : Int} {j k : Nat} (h : Lz z j) (hk : j ≤ k) : Lz z k := Nat.le_trans h hk
theorem Lz.neg {z : Int} {k : Nat} (h : Lz z k) : Lz (-z) k := by unfold Lz; rw [Int.natAbs_neg]; exact h
theorem Lz.mul {x y : Int} {j k : Nat} (h : Lz x j) (h' : Lz y k) : Lz (x * y) (j + k) := by unfold Lz; rw [Int.natAbs_mul]; exact words_mul_le h h'
theorem words_add_le1 {a b m : Nat} (ha : (words a).length ≤ m) (hb : (words b).length ≤ m) : (words (a + b)).length ≤ m + 1 := by
  rw [words_length_le_iff] at *
  rw [Nat.pow_succ]
  have := Nat.mul_le_mul_left (B ^ m) B_two_le
  omega
theorem Lz.add {x y : Int} {j k : Nat} (h : Lz x j) (h' : Lz y k) : Lz (x + y) (max j k + 1) :=
  Nat.le_trans (words_mono (Int.natAbs_add_le x y)) (words_add_le1 (Nat.le_trans h (Nat.le_max_left _ _)) (Nat.le_trans h' (Nat.le_max_right _ _)))
theorem Lz.iv {s : Bool} {n k : Nat} (h : (words n).length ≤ k) : Lz (iv s n) k := by unfold Lz; rw [iv_abs]; exact h

/-- A fraction of so many words in each number. -/
def Lq (q : Rat) (k : Nat) : Prop := Lz q.num k ∧ (words q.den).length ≤ k
theorem Lq.mono {q : Rat} {j k : Nat} (h : Lq q j) (hk : j ≤ k) : Lq q k := ⟨h.1.mono hk, Nat.le_trans h.2 hk⟩
theorem Lq.pos {q : Rat} {k : Nat} (h : Lq q k) : 1 ≤ k := by
  have h1 := h.2
  have : (words q.den).length ≠ 0 := fun e => q.den_nz (words_length_zero.1 e)
  omega
theorem Lq.mk {n : Int} {d k : Nat} (h : Lz n k) (h' : (words d).length ≤ k) (hk : 1 ≤ k) : Lq (mkRat n d) k := by
  refine ⟨?_, ?_⟩
  · unfold Lz
    rw [Rat.num_mkRat]
    split
    · simp [words_zero]
    · refine Nat.le_trans (words_mono ?_) h
      rw [Int.natAbs_ediv_of_dvd (by rw [← Int.dvd_natAbs, Int.ofNat_dvd]; exact Nat.gcd_dvd_right d n.natAbs), Int.natAbs_natCast]
      exact Nat.div_le_self _ _
  · rw [Rat.den_mkRat]
    split
    · exact Nat.le_trans words_one_len hk
    · exact Nat.le_trans (words_mono (Nat.div_le_self _ _)) h'
theorem Lq.add {a b : Rat} {j k : Nat} (h : Lq a j) (h' : Lq b k) : Lq (a + b) (j + k + 1) := by
  rw [Rat.add_def']
  refine Lq.mk (((h.1.mul (y := (b.den : Int)) h'.2).add (h'.1.mul (y := (a.den : Int)) h.2)).mono (by have := Nat.max_le.2 ⟨Nat.le_refl (j + k), Nat.le_of_eq (Nat.add_comm k j)⟩; omega)) (Nat.le_trans (words_mul_le h.2 h'.2) (by omega)) (by omega)
theorem Lq.mul {a b : Rat} {j k : Nat} (h : Lq a j) (h' : Lq b k) : Lq (a * b) (j + k) := by
  rw [Rat.mul_def']
  exact Lq.mk (h.1.mul h'.1) (words_mul_le h.2 h'.2) (by have := h.pos; omega)
theorem Lq.neg {a : Rat} {j : Nat} (h : Lq a j) : Lq (-a) j := ⟨h.1.neg, h.2⟩
theorem Lq.sub {a b : Rat} {j k : Nat} (h : Lq a j) (h' : Lq b k) : Lq (a - b) (j + k + 1) := by rw [Rat.sub_eq_add_neg]; exact h.add h'.neg
theorem Lq.inv {a : Rat} {j : Nat} (h : Lq a j) : Lq a⁻¹ j := by
  by_cases h0 : a.num = 0
  · have e := Rat.num_eq_zero.1 h0
    subst e
    rw [Rat.inv_zero]
    exact h
  · refine ⟨?_, ?_⟩
    · unfold Lz
      rw [Rat.num_inv, Int.natAbs_mul, Int.natAbs_sign_of_ne_zero h0, Nat.one_mul, Int.natAbs_natCast]
      exact h.2
    · rw [Rat.den_inv, if_neg h0]
      exact h.1
theorem Lq.div {a b : Rat} {j k : Nat} (h : Lq a j) (h' : Lq b k) : Lq (a / b) (j + k) := by rw [Rat.div_def]; exact h.mul h'.inv
theorem Lq.int {z : Int} {k : Nat} (h : Lz z k) (hk : 1 ≤ k) : Lq (z : Rat) k := ⟨h, Nat.le_trans words_one_len hk⟩
theorem Lq.pow {a : Rat} {j : Nat} (h : Lq a j) (n : Nat) : Lq (a ^ n) (j * n + 1) := by
  induction n with
  | zero => rw [Rat.pow_zero]; exact ⟨by unfold Lz; exact Nat.le_trans words_one_len (by omega), Nat.le_trans words_one_len (by omega)⟩
  | succ n ih => rw [Rat.pow_succ]; exact (ih.mul h).mono (by rw [Nat.mul_succ]; omega)

/-- What is told of two fractions: the sign of their difference. -/
def cmpQ (a b : Rat) : Int := sgn (a - b).num
theorem sgn_mkRat (x : Int) (d : Nat) (h : d ≠ 0) : sgn (mkRat x d).num = sgn x := by
  rw [Rat.num_mkRat, if_neg h]
  have hg : 0 < d.gcd x.natAbs := Nat.gcd_pos_of_pos_left _ (by omega)
  have hd : ((d.gcd x.natAbs : Nat) : Int) ∣ x := by rw [← Int.dvd_natAbs, Int.ofNat_dvd]; exact Nat.gcd_dvd_right d x.natAbs
  obtain ⟨y, hy⟩ := hd
  generalize d.gcd x.natAbs = g at *
  subst hy
  rw [Int.mul_ediv_cancel_left _ (by omega), sgn_mul, sgn_pos (z := (g : Int)) (by omega), Int.one_mul]

/-- The quotient without signs, and what is left by it: the floor, or one more. -/
theorem floor_math {s t : Bool} {N M : Nat} (hy : 0 < iv t M) :
    iv s N - iv (s != t) (N / M) * iv t M < 0 ∧ iv (s != t) (N / M) - 1 = iv s N / iv t M ∨ 0 ≤ iv s N - iv (s != t) (N / M) * iv t M ∧ iv (s != t) (N / M) = iv s N / iv t M := by
  have ht : t = false := by cases t; rfl; simp [iv] at hy; omega
  subst ht
  have hM : 0 < M := by simpa [iv] using hy
  have hd : (M : Int) * ((N / M : Nat) : Int) + ((N % M : Nat) : Int) = (N : Int) := by exact_mod_cast Nat.div_add_mod N M
  have hm : ((N % M : Nat) : Int) < (M : Int) := by exact_mod_cast Nat.mod_lt N hM
  have hM2 : (0 : Int) < (M : Int) := by omega
  have hR : (0 : Int) ≤ ((N % M : Nat) : Int) := Int.natCast_nonneg _
  cases s
  · have e : iv (false != false) (N / M) = ((N / M : Nat) : Int) := rfl
    rw [e, iv_false, iv_false]
    generalize ((N / M : Nat) : Int) = Q at *
    generalize ((N % M : Nat) : Int) = R at *
    refine .inr ⟨by rw [Int.mul_comm]; omega, ?_⟩
    exact (((Int.ediv_emod_unique hM2).2 ⟨by omega, hR, hm⟩).1).symm
  · have e : iv (true != false) (N / M) = -((N / M : Nat) : Int) := rfl
    rw [e, iv_true, iv_false]
    generalize ((N / M : Nat) : Int) = Q at *
    generalize ((N % M : Nat) : Int) = R at *
    by_cases h0 : R = 0
    · subst h0
      refine .inr ⟨by rw [Int.neg_mul, Int.mul_comm]; omega, ?_⟩
      exact (((Int.ediv_emod_unique (r := 0) hM2).2 ⟨by rw [Int.mul_neg]; omega, by omega, by omega⟩).1).symm
    · refine .inl ⟨by rw [Int.neg_mul, Int.mul_comm]; omega, ?_⟩
      exact (((Int.ediv_emod_unique (r := (M : Int) - R) hM2).2 ⟨by rw [Int.mul_sub, Int.mul_neg]; omega, by omega, by omega⟩).1).symm
end Wd
