/-
  Plain numbers: quotients, by words, by guesses at a word, bit by bit. No program here.
-/
import Derived.Test.YtjkkeilmnklpcaaProdMath
set_option linter.unusedVariables false
set_option linter.unusedSimpArgs false
namespace Wd

theorem div_of {n q x r : Nat} (h : n = q * x + r) (hr : r < x) : q = n / x ∧ r = n % x := by
  subst h
  have hx : 0 < x := by omega
  constructor
  · rw [Nat.mul_comm, Nat.mul_add_div hx, Nat.div_eq_of_lt hr, Nat.add_zero]
  · rw [Nat.mul_comm, Nat.mul_add_mod, Nat.mod_eq_of_lt hr]
theorem val_drop_set {q : List Nat} {k : Nat} (hk : k < q.length) (x : Nat) : val ((q.set k x).drop k) = x + B * val (q.drop (k + 1)) := by
  rw [val_drop, List.getD_eq_getElem?_getD, List.getElem?_set_self hk, List.drop_set_of_lt (by omega)]
  rfl

/-- By a word: the places from k on are done. -/
def WordAt (a q : List Nat) (x k r : Nat) : Prop := r < x ∧ q.length = a.length ∧ val (a.drop k) = val (q.drop k) * x + r
theorem wordAt_zero (a : List Nat) {x : Nat} (hx : 0 < x) : WordAt a (List.replicate a.length 0) x a.length 0 :=
  ⟨hx, List.length_replicate, by rw [List.drop_length, List.drop_replicate, Nat.sub_self]; simp [val]⟩
theorem word_aux {b V x r y d r' : Nat} (h : d * x + r' = r * b + y) : y + b * (V * x + r) = (d + b * V) * x + r' := by grind
theorem wordAt_step {a q : List Nat} {x k r : Nat} (hk : k < a.length) (h : WordAt a q x (k + 1) r) :
    WordAt a (q.set k (divQ r (a.getD k 0) x)) x k (divR r (a.getD k 0) x) := by
  obtain ⟨h1, h2, h3⟩ := h
  refine ⟨divR_lt (by omega), by rw [List.length_set, h2], ?_⟩
  rw [val_drop_set (by omega), val_drop a k, h3]
  exact word_aux (div_eq _ _ _)
theorem wordAt_end {a q : List Nat} {x r : Nat} (h : WordAt a q x 0 r) : val q = val a / x ∧ r = val a % x := by
  obtain ⟨h1, _, h3⟩ := h
  rw [List.drop_zero, List.drop_zero] at h3
  exact div_of h3 h1

/-- The guess: three words by two, at most a word. -/
def guessN (a2 a1 a0 b1 b0 : Nat) : Nat := min (B - 1) (((a2 * B + a1) * B + a0) / (b1 * B + b0))
theorem guess_lt (a2 a1 a0 b1 b0 : Nat) : guessN a2 a1 a0 b1 b0 < B := by
  have := B_pos
  have : guessN a2 a1 a0 b1 b0 ≤ B - 1 := Nat.min_le_left _ _
  omega
theorem guess_iff {q r b1 b0 T a0 b : Nat} (h : q * b1 + r = T) : q * b0 ≤ r * b + a0 ↔ q * (b1 * b + b0) ≤ T * b + a0 := by
  subst h
  have e : q * (b1 * b + b0) = q * b1 * b + q * b0 := by grind
  have e2 : (q * b1 + r) * b + a0 = q * b1 * b + (r * b + a0) := by grind
  rw [e, e2]
  omega
/-- While it is mended: not too small, and the rest fits. -/
def GuessAt (a2 a1 a0 b1 b0 q r : Nat) : Prop := q < B ∧ r < B ∧ q * b1 + r = a2 * B + a1 ∧ guessN a2 a1 a0 b1 b0 ≤ q
theorem le_guess {a2 a1 a0 b1 b0 q : Nat} (hb : 0 < b1) (hq : q < B) (h : q * (b1 * B + b0) ≤ (a2 * B + a1) * B + a0) : q ≤ guessN a2 a1 a0 b1 b0 := by
  have h2 : 0 < b1 * B := Nat.mul_pos hb B_pos
  refine Nat.le_min.2 ⟨by omega, (Nat.le_div_iff_mul_le (by omega)).2 h⟩
theorem guess_mul_le {a2 a1 a0 b1 b0 : Nat} : guessN a2 a1 a0 b1 b0 * (b1 * B + b0) ≤ (a2 * B + a1) * B + a0 :=
  Nat.le_trans (Nat.mul_le_mul_right _ (Nat.min_le_right _ _)) (Nat.div_mul_le_self _ _)
theorem guess_start {a2 a1 a0 b1 b0 : Nat} (h : a2 < b1) (ha1 : a1 < B) (hb1 : b1 < B) (ha0 : a0 < B) : GuessAt a2 a1 a0 b1 b0 (divQ a2 a1 b1) (divR a2 a1 b1) := by
  have e := div_eq a2 a1 b1
  have hr : divR a2 a1 b1 < b1 := divR_lt (by omega)
  refine ⟨divQ_lt ha1 h, by omega, e, ?_⟩
  have h1 := @guess_mul_le a2 a1 a0 b1 b0
  generalize guessN a2 a1 a0 b1 b0 = g at *
  rcases Nat.lt_or_ge (divQ a2 a1 b1) g with hg | hg
  · exfalso
    have h2 : (divQ a2 a1 b1 + 1) * (b1 * B) ≤ g * (b1 * B + b0) := Nat.mul_le_mul hg (by omega)
    have h3 : (divQ a2 a1 b1 + 1) * (b1 * B) = (divQ a2 a1 b1 * b1 + b1) * B := by grind
    have h4 : (a2 * B + a1 + 1) * B ≤ (divQ a2 a1 b1 * b1 + b1) * B := Nat.mul_le_mul_right _ (by omega)
    rw [Nat.add_mul (a2 * B + a1) 1 B, Nat.one_mul] at h4
    omega
  · exact hg
theorem guess_start_top {a1 a0 b1 b0 : Nat} (hr : a1 + b1 < B) : GuessAt b1 a1 a0 b1 b0 (B - 1) (a1 + b1) := by
  have hB := B_pos
  refine ⟨by omega, hr, ?_, Nat.min_le_left _ _⟩
  have : (B - 1) * b1 + b1 = b1 * B := by rw [← Nat.succ_mul, Nat.succ_eq_add_one, Nat.sub_add_cancel hB, Nat.mul_comm]
  omega
theorem top_mul {x b T c : Nat} (hx : x < b) (hT : b ≤ T) (ha : (b - 1) * x ≤ T * b + c) : True := trivial
theorem word_mul_lt {x y : Nat} (hx : x < B) (hy : y < B) : x * y < B * B := Nat.mul_lt_mul'' hx hy
theorem guess_over_top {a1 a0 b1 b0 : Nat} (hb : 0 < b1) (hb0 : b0 < B) (hr : B ≤ a1 + b1) : guessN b1 a1 a0 b1 b0 = B - 1 := by
  have hB := B_pos
  refine Nat.le_antisymm (Nat.min_le_left _ _) (le_guess hb (by omega) ?_)
  have e : (B - 1) * b1 + b1 = b1 * B := by rw [← Nat.succ_mul, Nat.succ_eq_add_one, Nat.sub_add_cancel hB, Nat.mul_comm]
  have e2 : (B - 1) * b1 + (a1 + b1) = b1 * B + a1 := by omega
  rw [← guess_iff e2]
  have h1 : (B - 1) * b0 < B * B := word_mul_lt (by omega) hb0
  have h2 : B * B ≤ (a1 + b1) * B := Nat.mul_le_mul_right _ hr
  omega
/-- It fits: it is the guess. -/
theorem guess_end {a2 a1 a0 b1 b0 q r : Nat} (hb : 0 < b1) (h : GuessAt a2 a1 a0 b1 b0 q r) (hle : q * b0 ≤ r * B + a0) : q = guessN a2 a1 a0 b1 b0 := by
  obtain ⟨h1, _, h3, h4⟩ := h
  exact Nat.le_antisymm (le_guess hb h1 ((guess_iff h3).1 hle)) h4
/-- It doesn't: one less. -/
theorem guess_less {a2 a1 a0 b1 b0 q r : Nat} (h : GuessAt a2 a1 a0 b1 b0 q r) (hgt : r * B + a0 < q * b0) :
    1 ≤ q ∧ q - 1 < B ∧ (q - 1) * b1 + (r + b1) = a2 * B + a1 ∧ guessN a2 a1 a0 b1 b0 ≤ q - 1 := by
  obtain ⟨h1, h2, h3, h4⟩ := h
  have h5 : 1 ≤ q := by
    rcases Nat.eq_zero_or_pos q with h0 | h0
    · subst h0; omega
    · exact h0
  refine ⟨h5, by omega, ?_, ?_⟩
  · have : (q - 1) * b1 + b1 = q * b1 := by rw [← Nat.succ_mul, Nat.succ_eq_add_one, Nat.sub_add_cancel h5]
    omega
  · have h6 : ¬ q * (b1 * B + b0) ≤ (a2 * B + a1) * B + a0 := fun h => by
      have := (guess_iff h3).2 h
      omega
    have h7 := @guess_mul_le a2 a1 a0 b1 b0
    rcases Nat.lt_or_ge (guessN a2 a1 a0 b1 b0) q with hg | hg
    · omega
    · exact absurd (Nat.le_trans (Nat.mul_le_mul_right _ hg) h7) h6
theorem guess_step {a2 a1 a0 b1 b0 q r : Nat} (h : GuessAt a2 a1 a0 b1 b0 q r) (hgt : r * B + a0 < q * b0) (hr : r + b1 < B) : GuessAt a2 a1 a0 b1 b0 (q - 1) (r + b1) := by
  obtain ⟨h1, h2, h3, h4⟩ := guess_less h hgt
  exact ⟨h2, hr, h3, h4⟩
theorem guess_over {a2 a1 a0 b1 b0 q r : Nat} (hb : 0 < b1) (hb0 : b0 < B) (h : GuessAt a2 a1 a0 b1 b0 q r) (hgt : r * B + a0 < q * b0) (hr : B ≤ r + b1) : q - 1 = guessN a2 a1 a0 b1 b0 := by
  obtain ⟨h1, h2, h3, h4⟩ := guess_less h hgt
  refine Nat.le_antisymm (le_guess hb h2 ((guess_iff h3).1 ?_)) h4
  have h5 : (q - 1) * b0 < B * B := word_mul_lt h2 hb0
  have h6 : B * B ≤ (r + b1) * B := Nat.mul_le_mul_right _ hr
  omega
/-- Which of two words and two is the greater one, the high ones first. -/
theorem two_le {hi lo r a0 m : Nat} (hm : lo + B * hi = m) (hlo : lo < B) (ha : a0 < B) : m ≤ r * B + a0 ↔ hi < r ∨ hi = r ∧ lo ≤ a0 := by
  subst hm
  rw [Nat.mul_comm B hi]
  rcases Nat.lt_trichotomy hi r with h | h | h
  · have : (hi + 1) * B ≤ r * B := Nat.mul_le_mul_right _ h
    rw [Nat.add_mul, Nat.one_mul] at this
    exact ⟨fun _ => .inl h, fun _ => by omega⟩
  · subst h
    exact ⟨fun h => .inr ⟨rfl, by omega⟩, fun h => by omega⟩
  · have : (r + 1) * B ≤ hi * B := Nat.mul_le_mul_right _ h
    rw [Nat.add_mul, Nat.one_mul] at this
    exact ⟨fun h => by omega, fun h => by omega⟩

/-- How near the guess is: the quotient, or one more. -/
theorem guess_near {U V P b2 bl A3 ul b g : Nat} (hb : 0 < b) (hU : U < b * V) (hV : V = b2 * P + bl) (hbl : bl < P) (hA : U = A3 * P + ul) (hul : ul < P) (hb2 : b ≤ b2) (hg : g = min (b - 1) (A3 / b2)) :
    U / V ≤ g ∧ g ≤ U / V + 1 := by
  have hVpos : 0 < V := by
    rcases Nat.eq_zero_or_pos V with h | h
    · rw [h] at hU; omega
    · exact h
  have hq1 : U / V < b := Nat.div_lt_of_lt_mul (by rw [Nat.mul_comm]; exact hU)
  subst hg
  constructor
  · refine Nat.le_min.2 ⟨by omega, (Nat.le_div_iff_mul_le (by omega)).2 ?_⟩
    have h1 : U / V * V ≤ U := Nat.div_mul_le_self _ _
    generalize U / V = q at *
    have h2 : q * (b2 * P) ≤ q * V := Nat.mul_le_mul_left _ (by omega)
    have h3 : (q * b2) * P < (A3 + 1) * P := by
      rw [Nat.add_mul, Nat.one_mul, Nat.mul_assoc]
      omega
    have := Nat.lt_of_mul_lt_mul_right h3
    omega
  · have h0 : min (b - 1) (A3 / b2) ≤ b - 1 := Nat.min_le_left _ _
    have h1 : min (b - 1) (A3 / b2) * b2 ≤ A3 := Nat.le_trans (Nat.mul_le_mul_right _ (Nat.min_le_right _ _)) (Nat.div_mul_le_self _ _)
    generalize min (b - 1) (A3 / b2) = g at *
    have h2 : g * V = g * b2 * P + g * bl := by rw [hV, Nat.mul_add, Nat.mul_assoc]
    have h3 : g * b2 * P ≤ A3 * P := Nat.mul_le_mul_right _ h1
    have h4 : g * bl ≤ b * P := Nat.mul_le_mul (by omega) (by omega)
    have h5 : b * P ≤ b2 * P := Nat.mul_le_mul_right _ hb2
    have h6 : g * V ≤ U + V := by omega
    rcases Nat.eq_zero_or_pos g with hg0 | hg0
    · rw [hg0]; exact Nat.zero_le _
    · have h7 : (g - 1) * V ≤ U := by
        have : (g - 1) * V + V = g * V := by rw [← Nat.succ_mul, Nat.succ_eq_add_one, Nat.sub_add_cancel hg0]
        omega
      have := (Nat.le_div_iff_mul_le hVpos).2 h7
      generalize U / V = q at *
      omega

/-- So many times another list is taken away, from a place on: i words are done. -/
def TakeAt (b o p : List Nat) (x k i cy bo : Nat) : Prop :=
  cy < B ∧ bo ≤ 1 ∧ p.length = o.length ∧ p.drop (k + i) = o.drop (k + i) ∧ val (p.take (k + i)) + B ^ k * (x * val (b.take i)) = val (o.take (k + i)) + B ^ (k + i) * (cy + bo)
theorem takeAt_zero (b o : List Nat) (x k : Nat) : TakeAt b o o x k 0 0 0 := ⟨B_pos, by omega, rfl, rfl, by simp [val]⟩
theorem take_aux {P b d z m cy bo h bo' l u K t : Nat} (h1 : l + b * h = m + cy) (h2 : d + l + bo = z + b * bo') (hv : u + K = t + P * (cy + bo)) : u + P * d + (K + P * m) = t + P * z + P * b * (h + bo') := by
  have e1 : P * (d + m + cy + bo) = P * (z + b * (h + bo')) := by
    congr 1
    rw [Nat.mul_add]
    omega
  have e2 : P * (d + m + cy + bo) = P * d + P * m + P * (cy + bo) := by grind
  have e3 : P * (z + b * (h + bo')) = P * z + P * b * (h + bo') := by grind
  omega
theorem drop_set_next {p o : List Nat} {j : Nat} (x : Nat) (h : p.drop j = o.drop j) : (p.set j x).drop (j + 1) = o.drop (j + 1) := by
  rw [List.drop_set_of_lt (by omega), ← List.drop_drop, h, List.drop_drop]
theorem pow_split3 (k i x y : Nat) : B ^ k * (x * (B ^ i * y)) = B ^ (k + i) * (x * y) := by
  rw [Nat.pow_add]; ac_rfl
theorem takeAt_step {b o p : List Nat} {x k i cy bo : Nat} (hk : k + i < o.length) (hx : x < B) (hy : b.getD i 0 < B) (h : TakeAt b o p x k i cy bo) :
    TakeAt b o (p.set (k + i) (subD (p.getD (k + i) 0) (mulL x (b.getD i 0) cy 0) bo)) x k (i + 1) (mulH x (b.getD i 0) cy 0) (subB (p.getD (k + i) 0) (mulL x (b.getD i 0) cy 0) bo) := by
  obtain ⟨h1, h2, h3, h4, h5⟩ := h
  refine ⟨mulH_lt hx hy h1 B_pos, subB_le (mulL_lt _ _ _ _) h2, by rw [List.length_set, h3], ?_, ?_⟩
  · rw [← Nat.add_assoc]; exact drop_set_next _ h4
  · rw [← Nat.add_assoc, val_take_set (by omega), val_take_succ o, val_take_succ b, ← getD_of_drop h4, Nat.mul_add x, Nat.mul_add (B ^ k), pow_split3, Nat.pow_succ]
    exact take_aux (mul_eq _ _ _ _) (sub_eq _ _ _) h5
theorem take_end_aux {P b d z cy bo bo' u K t v : Nat} (h2 : d + cy + bo = z + b * bo') (hv : u + K = t + P * (cy + bo)) : u + P * d + P * b * v + K = t + P * z + P * b * v + P * b * bo' := by
  have e1 : P * (d + cy + bo) = P * (z + b * bo') := by rw [h2]
  have e2 : P * (d + cy + bo) = P * d + P * (cy + bo) := by grind
  have e3 : P * (z + b * bo') = P * z + P * b * bo' := by grind
  omega
theorem takeAt_end {b o p : List Nat} {x k cy bo : Nat} (hk : k + b.length < o.length) (h : TakeAt b o p x k b.length cy bo) :
    val (p.set (k + b.length) (subD (p.getD (k + b.length) 0) cy bo)) + B ^ k * (x * val b) = val o + B ^ (k + b.length + 1) * subB (p.getD (k + b.length) 0) cy bo
    ∧ (p.set (k + b.length) (subD (p.getD (k + b.length) 0) cy bo)).drop (k + b.length + 1) = o.drop (k + b.length + 1)
    ∧ (p.set (k + b.length) (subD (p.getD (k + b.length) 0) cy bo)).length = o.length ∧ subB (p.getD (k + b.length) 0) cy bo ≤ 1 := by
  obtain ⟨h1, h2, h3, h4, h5⟩ := h
  have hd := drop_set_next (subD (p.getD (k + b.length) 0) cy bo) h4
  refine ⟨?_, hd, by rw [List.length_set, h3], subB_le h1 h2⟩
  rw [val_take_drop (p.set (k + b.length) _) (k + b.length + 1), val_take_drop o (k + b.length + 1), hd, val_take_set (by omega), val_take_succ o, ← getD_of_drop h4, Nat.pow_succ]
  rw [List.take_length] at h5
  exact take_end_aux (sub_eq _ _ _) h5

/-- It is given back: i words are done. -/
def GiveAt (b o p : List Nat) (k i c : Nat) : Prop :=
  c ≤ 1 ∧ p.length = o.length ∧ p.drop (k + i) = o.drop (k + i) ∧ val (p.take (k + i)) + B ^ (k + i) * c = val (o.take (k + i)) + B ^ k * val (b.take i)
theorem giveAt_zero (b o : List Nat) (k : Nat) : GiveAt b o o k 0 0 := ⟨by omega, rfl, rfl, by simp [val]⟩
theorem give_aux {P b s k z y c u t K : Nat} (h : s + b * k = z + y + c) (hv : u + P * c = t + K) : u + P * s + P * b * k = t + P * z + (K + P * y) := by
  have e1 : P * (s + b * k) = P * (z + y + c) := by rw [h]
  have e2 : P * (s + b * k) = P * s + P * b * k := by grind
  have e3 : P * (z + y + c) = P * z + P * y + P * c := by grind
  omega
theorem pow_split2 (k i y : Nat) : B ^ k * (B ^ i * y) = B ^ (k + i) * y := by rw [Nat.pow_add]; ac_rfl
theorem giveAt_step {b o p : List Nat} {k i c : Nat} (hk : k + i < o.length) (hp : Ok p) (hy : b.getD i 0 < B) (h : GiveAt b o p k i c) :
    GiveAt b o (p.set (k + i) (addS (p.getD (k + i) 0) (b.getD i 0) c)) k (i + 1) (addC (p.getD (k + i) 0) (b.getD i 0) c) := by
  obtain ⟨h1, h2, h3, h4⟩ := h
  refine ⟨addC_le (ok_getD hp _) hy h1, by rw [List.length_set, h2], ?_, ?_⟩
  · rw [← Nat.add_assoc]; exact drop_set_next _ h3
  · rw [← Nat.add_assoc, val_take_set (by omega), val_take_succ o, val_take_succ b, ← getD_of_drop h3, Nat.mul_add (B ^ k), pow_split2, Nat.pow_succ]
    exact give_aux (add_eq _ _ _) h4
theorem give_end_aux {P b s k z c u t K v : Nat} (h : s + b * k = z + c) (hv : u + P * c = t + K) : u + P * s + P * b * v + P * b * k = t + P * z + P * b * v + K := by
  have e1 : P * (s + b * k) = P * (z + c) := by rw [h]
  have e2 : P * (s + b * k) = P * s + P * b * k := by grind
  have e3 : P * (z + c) = P * z + P * c := by grind
  omega
theorem giveAt_end {b o p : List Nat} {k c : Nat} (hk : k + b.length < o.length) (hp : Ok p) (h : GiveAt b o p k b.length c) :
    val (p.set (k + b.length) ((p.getD (k + b.length) 0 + c) % B)) + B ^ (k + b.length + 1) * ((p.getD (k + b.length) 0 + c) / B) = val o + B ^ k * val b
    ∧ (p.set (k + b.length) ((p.getD (k + b.length) 0 + c) % B)).drop (k + b.length + 1) = o.drop (k + b.length + 1)
    ∧ (p.set (k + b.length) ((p.getD (k + b.length) 0 + c) % B)).length = o.length ∧ (p.getD (k + b.length) 0 + c) / B ≤ 1 := by
  obtain ⟨h1, h2, h3, h4⟩ := h
  have hd := drop_set_next ((p.getD (k + b.length) 0 + c) % B) h3
  have hz := ok_getD hp (k + b.length)
  refine ⟨?_, hd, by rw [List.length_set, h2], ?_⟩
  · rw [val_take_drop (p.set (k + b.length) _) (k + b.length + 1), val_take_drop o (k + b.length + 1), hd, val_take_set (by omega), val_take_succ o, ← getD_of_drop h3, Nat.pow_succ]
    rw [List.take_length] at h4
    exact give_end_aux (Nat.mod_add_div _ _) h4
  · have h2 := B_two_le
    have : (p.getD (k + b.length) 0 + c) / B < 2 := Nat.div_lt_of_lt_mul (by omega)
    omega

/-- Long division: the places from j on are done, o is what is left. -/
def LongAt (a b o q : List Nat) (j : Nat) : Prop := val a = val (q.drop j) * (B ^ j * val b) + val o ∧ val o < B ^ j * val b
theorem longAt_zero {a b : List Nat} {m : Nat} (h : val a < B ^ m * val b) : LongAt a b a (List.replicate m 0) m :=
  ⟨by rw [List.drop_replicate, Nat.sub_self]; simp [val], h⟩
theorem long_aux {Q P b V p x : Nat} : Q * (P * b * V) + (p + P * (x * V)) = (x + b * Q) * (P * V) + p := by grind
theorem longAt_step {a b o p q : List Nat} {i x : Nat} (hi : i < q.length) (h : LongAt a b o q (i + 1)) (h1 : val p + B ^ i * (x * val b) = val o) (h2 : val p < B ^ i * val b) : LongAt a b p (q.set i x) i := by
  refine ⟨?_, h2⟩
  rw [h.1, val_drop_set hi, ← h1, Nat.pow_succ]
  exact long_aux
theorem longAt_end {a b o q : List Nat} (h : LongAt a b o q 0) : val q = val a / val b ∧ val o = val a % val b := by
  obtain ⟨h1, h2⟩ := h
  rw [List.drop_zero, Nat.pow_zero, Nat.one_mul] at h1
  rw [Nat.pow_zero, Nat.one_mul] at h2
  exact div_of h1 h2
/-- What the three highest words of what is left tell. -/
theorem long_guess {a b o q : List Nat} {i n : Nat} (hob : Ok o) (hb : Ok b) (hn : b.length = n + 2) (hio : i + (n + 2) < o.length) (htop : b.getD (n + 1) 0 ≠ 0) (h : LongAt a b o q (i + 1)) :
    val (o.drop (i + (n + 2) + 1)) = 0 ∧ o.getD (i + (n + 2)) 0 ≤ b.getD (n + 1) 0
    ∧ val o / B ^ i / val b ≤ guessN (o.getD (i + (n + 2)) 0) (o.getD (i + (n + 1)) 0) (o.getD (i + n) 0) (b.getD (n + 1) 0) (b.getD n 0)
    ∧ guessN (o.getD (i + (n + 2)) 0) (o.getD (i + (n + 1)) 0) (o.getD (i + n) 0) (b.getD (n + 1) 0) (b.getD n 0) ≤ val o / B ^ i / val b + 1 := by
  have hU0 : val o / B ^ i = val (o.drop i) := val_div o hob i
  have hU : val (o.drop i) < B * val b := by
    rw [← hU0]
    refine Nat.div_lt_of_lt_mul ?_
    have := h.2
    rw [Nat.pow_succ, Nat.mul_assoc] at this
    exact this
  have hbv := val_lt hb
  rw [hn] at hbv
  have hz : val (o.drop (i + (n + 2) + 1)) = 0 := by
    have e : (o.drop i).drop (n + 3) = o.drop (i + (n + 2) + 1) := by rw [List.drop_drop, show i + (n + 3) = i + (n + 2) + 1 from by omega]
    rw [← e, ← val_div _ (ok_drop hob i)]
    refine Nat.div_eq_of_lt (Nat.lt_of_lt_of_le hU ?_)
    rw [show n + 3 = (n + 2) + 1 from rfl, Nat.pow_succ, Nat.mul_comm (B ^ (n + 2))]
    exact Nat.mul_le_mul_left _ (Nat.le_of_lt hbv)
  have hU3 : val (o.drop i) = ((o.getD (i + (n + 2)) 0 * B + o.getD (i + (n + 1)) 0) * B + o.getD (i + n) 0) * B ^ n + val ((o.drop i).take n) := by
    rw [val_take_drop (o.drop i) n, List.drop_drop, val_drop o (i + n), val_drop o (i + n + 1), val_drop o (i + n + 1 + 1), show i + n + 1 + 1 = i + (n + 2) from by omega, show i + n + 1 = i + (n + 1) from by omega, hz]
    grind
  have hV2 : val b = (b.getD (n + 1) 0 * B + b.getD n 0) * B ^ n + val (b.take n) := by
    rw [val_take_drop b n, val_drop b n, val_drop b (n + 1), List.drop_eq_nil_of_le (show b.length ≤ n + 1 + 1 from by omega)]
    simp only [val]
    grind
  have h1 := val_take_lt (ok_drop hob i) n
  have h2 := val_take_lt hb n
  have hb2 : B ≤ b.getD (n + 1) 0 * B + b.getD n 0 := by
    have : 1 * B ≤ b.getD (n + 1) 0 * B := Nat.mul_le_mul_right _ (by omega)
    omega
  rw [hU0]
  refine ⟨hz, ?_, guess_near B_pos hU hV2 h2 hU3 h1 hb2 rfl⟩
  have hx1 := ok_getD hb n
  generalize o.getD (i + (n + 2)) 0 = a2 at *
  generalize o.getD (i + (n + 1)) 0 = a1 at *
  generalize o.getD (i + n) 0 = a0 at *
  generalize b.getD (n + 1) 0 = b1 at *
  generalize b.getD n 0 = b0 at *
  generalize val (o.drop i) = U at *
  generalize val b = V at *
  generalize val ((o.drop i).take n) = ul at *
  generalize val (b.take n) = bl at *
  rcases Nat.lt_or_ge b1 a2 with hlt | hge
  · exfalso
    have hP : 0 < B ^ n := Nat.pow_pos B_pos
    have h3 : (b1 + 1) * B * B * B ^ n ≤ a2 * B * B * B ^ n := Nat.mul_le_mul_right _ (Nat.mul_le_mul_right _ (Nat.mul_le_mul_right _ hlt))
    have h4 : a2 * B * B * B ^ n ≤ U := by
      rw [hU3]
      refine Nat.le_trans (Nat.mul_le_mul_right _ ?_) (Nat.le_add_right _ _)
      have : a2 * B * B ≤ (a2 * B + a1) * B := Nat.mul_le_mul_right _ (by omega)
      omega
    have h5 : V ≤ (b1 + 1) * B * B ^ n := by
      have h6 : (b1 * B + b0 + 1) * B ^ n ≤ (b1 + 1) * B * B ^ n := Nat.mul_le_mul_right _ (by rw [Nat.add_mul, Nat.one_mul]; omega)
      rw [Nat.add_mul (b1 * B + b0) 1, Nat.one_mul] at h6
      omega
    have h7 : B * V ≤ (b1 + 1) * B * B * B ^ n := by
      have := Nat.mul_le_mul_left B h5
      have e : B * ((b1 + 1) * B * B ^ n) = (b1 + 1) * B * B * B ^ n := by ac_rfl
      omega
    omega
  · exact hge
theorem long_rest {O P V q : Nat} (hP : 0 < P) (hV : 0 < V) (hq : q = O / P / V) : P * (q * V) ≤ O ∧ ∀ p, p + P * (q * V) = O → p < P * V := by
  have h1 : q * V ≤ O / P := by rw [hq]; exact Nat.div_mul_le_self _ _
  have h2 : O / P < (q + 1) * V := by
    rw [hq, Nat.mul_comm]
    exact Nat.lt_mul_div_succ _ hV
  have h3 : P * (q * V) ≤ O := by
    refine Nat.le_trans (Nat.mul_le_mul_left P h1) ?_
    rw [Nat.mul_comm]; exact Nat.div_mul_le_self _ _
  have h4 : O < P * ((q + 1) * V) := by
    have := Nat.lt_mul_div_succ O hP
    exact Nat.lt_of_lt_of_le this (Nat.mul_le_mul_left P h2)
  refine ⟨h3, fun p hp => ?_⟩
  rw [Nat.add_mul, Nat.one_mul, Nat.mul_add] at h4
  omega
/-- It was not too much. -/
theorem long_no {O P V x p : Nat} (hP : 0 < P) (hV : 0 < V) (hx : O / P / V ≤ x) (h : p + P * (x * V) = O) : p < P * V := by
  have h1 : x * V ≤ O / P := by
    rw [Nat.le_div_iff_mul_le hP, Nat.mul_comm]
    omega
  have h2 : x ≤ O / P / V := (Nat.le_div_iff_mul_le hV).2 h1
  exact (long_rest hP hV (Nat.le_antisymm h2 hx)).2 p h
/-- It was too much, by one. -/
theorem long_yes {O P V x p E p2 c : Nat} (hP : 0 < P) (hV : 0 < V) (hx : x ≤ O / P / V + 1) (h : p + P * (x * V) = O + E) (hp : p < E) (hc : c ≤ 1) (hg : p2 + E * c = p + P * V) (hp2 : p2 < E) :
    1 ≤ x ∧ p2 + P * ((x - 1) * V) = O ∧ p2 < P * V := by
  have h1 : O / P < x * V := by
    refine Nat.div_lt_of_lt_mul ?_
    omega
  have h2 : O / P / V < x := Nat.div_lt_of_lt_mul (by rw [Nat.mul_comm]; exact h1)
  obtain ⟨q, hq⟩ : ∃ q, q = O / P / V := ⟨_, rfl⟩
  obtain rfl : x = q + 1 := by omega
  obtain ⟨h3, h4⟩ := long_rest hP hV hq
  rw [Nat.add_mul, Nat.one_mul, Nat.mul_add] at h
  have h5 : p2 + P * (q * V) = O := by
    have hc2 : c = 0 ∨ c = 1 := by omega
    rcases hc2 with rfl | rfl
    · rw [Nat.mul_zero] at hg; omega
    · rw [Nat.mul_one] at hg; omega
  exact ⟨by omega, by simpa using h5, h4 _ h5⟩
theorem val_lt_of_drop {p : List Nat} (h : Ok p) {k : Nat} (hd : val (p.drop k) = 0) : val p < B ^ k := by
  rw [val_take_drop p k, hd, Nat.mul_zero, Nat.add_zero]
  exact val_take_lt h k
/-- What long asks of what it divides. -/
theorem left_lt {u b : List Nat} {n m : Nat} (hu : Ok u) (hn : b.length = n + 2) (htop : b.getD (n + 1) 0 ≠ 0) (hm : m + (n + 2) = u.length + 1) : val (u ++ [0]) < B ^ m * val b := by
  have h1 := val_lt hu
  rw [val_append]
  simp only [val, Nat.mul_zero, Nat.add_zero]
  refine Nat.lt_of_lt_of_le h1 ?_
  rw [show u.length = m + (n + 1) from by omega, Nat.pow_add]
  refine Nat.mul_le_mul_left _ ?_
  rw [val_take_drop b (n + 1), val_drop b (n + 1)]
  refine Nat.le_trans ?_ (Nat.le_add_left _ _)
  exact Nat.le_mul_of_pos_right _ (by omega)

/-- Twice as much, and one more, if so said: i words are done. -/
def DoubleAt (a p : List Nat) (m i c : Nat) : Prop :=
  c ≤ 1 ∧ p.length = a.length ∧ p.drop i = a.drop i ∧ val (p.take i) + B ^ i * c = 2 * val (a.take i) + m
theorem doubleAt_zero (a : List Nat) {m : Nat} (hm : m ≤ 1) : DoubleAt a a m 0 m := ⟨hm, rfl, rfl, by simp [val]⟩
theorem double_aux {P b s k x c u t m : Nat} (h : s + b * k = 2 * x + c) (hv : u + P * c = 2 * t + m) : u + P * s + P * b * k = 2 * (t + P * x) + m := by
  have e1 : P * (s + b * k) = P * (2 * x + c) := by rw [h]
  have e2 : P * (s + b * k) = P * s + P * b * k := by grind
  have e3 : P * (2 * x + c) = 2 * (P * x) + P * c := by grind
  omega
theorem double_word {x c : Nat} (hc : c ≤ 1) : (2 * x + c) % B + B * (x / 2147483648) = 2 * x + c := by
  rw [B_eq]
  omega
theorem doubleAt_step {a p : List Nat} {m i c : Nat} (hi : i < p.length) (hx : a.getD i 0 < B) (h : DoubleAt a p m i c) : DoubleAt a (p.set i ((2 * p.getD i 0 + c) % B)) m (i + 1) (p.getD i 0 / 2147483648) := by
  obtain ⟨h1, h2, h3, h4⟩ := h
  have hg := getD_of_drop h3
  refine ⟨?_, by rw [List.length_set, h2], drop_set_next _ h3, ?_⟩
  · rw [hg]; rw [B_eq] at hx; omega
  · rw [val_take_set hi, val_take_succ a, ← hg, Nat.pow_succ]
    exact double_aux (double_word h1) h4
theorem doubleAt_end {a p : List Nat} {m c : Nat} (h : DoubleAt a p m a.length c) (hlt : 2 * val a + m < B ^ a.length) : val p = 2 * val a + m := by
  obtain ⟨h1, h2, h3, h4⟩ := h
  rw [List.take_of_length_le (by omega), List.take_length] at h4
  have hc : c = 0 := by
    rcases Nat.eq_zero_or_pos c with h0 | h0
    · exact h0
    · have : B ^ a.length * 1 ≤ B ^ a.length * c := Nat.mul_le_mul_left _ h0
      omega
  subst hc
  omega

/-- A difference in place: i words are done. -/
def LessAt (a b p : List Nat) (i c : Nat) : Prop := p.length = a.length ∧ p.drop i = a.drop i ∧ SubAt a b p i c
theorem lessAt_zero (a b : List Nat) : LessAt a b a 0 0 := ⟨rfl, rfl, subAt_zero a b a⟩
theorem lessAt_step {a b p : List Nat} {i c : Nat} (hi : i < p.length) (hy : b.getD i 0 < B) (h : LessAt a b p i c) :
    LessAt a b (p.set i (subD (p.getD i 0) (b.getD i 0) c)) (i + 1) (subB (p.getD i 0) (b.getD i 0) c) := by
  obtain ⟨h1, h2, h3⟩ := h
  refine ⟨by rw [List.length_set, h1], drop_set_next _ h2, ?_⟩
  rw [getD_of_drop h2]
  exact subAt_step hi hy h3
theorem val_take_ge_len {b : List Nat} (hb : Ok b) {n : Nat} (h : val b < B ^ n) : val (b.take n) = val b := by
  have := val_mod b hb n
  rw [Nat.mod_eq_of_lt h] at this
  exact this.symm
theorem lessAt_end {a b p : List Nat} {c : Nat} (ha : Ok a) (hb : Ok b) (hp : Ok p) (hle : val b ≤ val a) (h : LessAt a b p a.length c) : val p = val a - val b := by
  obtain ⟨h1, _, h2, h3⟩ := h
  have hbl : val b < B ^ a.length := Nat.lt_of_le_of_lt hle (val_lt ha)
  rw [List.take_of_length_le (by omega), List.take_length, val_take_ge_len hb hbl] at h3
  have h4 := val_lt hp
  rw [h1] at h4
  have hc : c = 0 := by
    rcases Nat.eq_zero_or_pos c with h0 | h0
    · exact h0
    · have : B ^ a.length * 1 ≤ B ^ a.length * c := Nat.mul_le_mul_left _ h0
      omega
  subst hc
  omega

/-- Bit by bit: what i bits more make of quotient and rest. -/
theorem bit_div (N V i : Nat) (hV : 0 < V) : N / 2 ^ i = 2 * (N / 2 ^ (i + 1)) + N / 2 ^ i % 2 := by
  rw [Nat.pow_succ, ← Nat.div_div_eq_div_mul]
  omega
theorem bit_yes {M V t : Nat} (hV : 0 < V) (h : V ≤ 2 * (M % V) + t) (ht : t ≤ 1) : (2 * M + t) / V = 2 * (M / V) + 1 ∧ (2 * M + t) % V = 2 * (M % V) + t - V := by
  have e := Nat.div_add_mod M V
  have hr := Nat.mod_lt M hV
  generalize M / V = q at *
  generalize M % V = r at *
  have e2 : 2 * M + t = (2 * q + 1) * V + (2 * r + t - V) := by
    have : (2 * q + 1) * V = 2 * (V * q) + V := by grind
    omega
  have := div_of e2 (by omega)
  exact ⟨this.1.symm, this.2.symm⟩
theorem bit_no {M V t : Nat} (hV : 0 < V) (h : 2 * (M % V) + t < V) : (2 * M + t) / V = 2 * (M / V) ∧ (2 * M + t) % V = 2 * (M % V) + t := by
  have e := Nat.div_add_mod M V
  generalize M / V = q at *
  generalize M % V = r at *
  have e2 : 2 * M + t = (2 * q) * V + (2 * r + t) := by
    have : (2 * q) * V = 2 * (V * q) := by grind
    omega
  have := div_of e2 h
  exact ⟨this.1.symm, this.2.symm⟩
end Wd
