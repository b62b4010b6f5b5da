/-
  Plain lists of words: values, right lists. No program here.
  Plain numbers: what single words come to. No program here.
  Plain lists of words: sums, differences, which is the greater one. No program here.
  Plain numbers: bits and shifts of lists of words. No program here.
  Plain numbers: rows of products of words, squares, powers. No program here.
  Plain numbers: quotients, by words, by guesses at a word, bit by bit. No program here.
  Plain numbers: common divisors, by rests and by halves. No program here.
  Plain fractions: signs, values, lengths. No program here.
  Plain fractions: what the operations come to. No program here.
  Plain fractions: without a sign, rounded down, how many bits. No program here.
  Plain fractions: powers. No program here.
  Plain fractions: powers, their lengths. No program here.
  Plain fractions: their order. No program here.
-/
import Derived.Test.YtmmcffceeahemaaGreatZtShort
set_option linter.unusedVariables false
set_option linter.unusedSimpArgs false
namespace Wd
/-- 2^32. -/
@[irreducible] def B : Nat := 4294967296
theorem B_eq : B = 4294967296 := by unfold B; rfl
theorem B_pos : 0 < B := by rw [B_eq]; omega
theorem B_one : 1 < B := by rw [B_eq]; omega
theorem B_two : B = 2 ^ 32 := by rw [B_eq]
/-- The value of a list of words, the lowest first. -/
def val : List Nat → Nat
 | [] => 0
 | x :: l => x + B * val l
/-- Words. -/
def Ok (l : List Nat) : Prop := ∀ x ∈ l, x < B
/-- The right list of a value. -/
def words (n : Nat) : List Nat := if _h : n = 0 then [] else n % B :: words (n / B)
termination_by n
decreasing_by exact Nat.div_lt_self (Nat.pos_of_ne_zero _h) B_one
theorem words_zero : words 0 = [] := by rw [words]; simp
theorem words_pos {n : Nat} (h : n ≠ 0) : words n = n % B :: words (n / B) := by rw [words]; simp [h]
theorem val_words (n : Nat) : val (words n) = n := by
 induction n using Nat.strongRecOn with
 | _ n ih =>
   by_cases h : n = 0
   · subst h; simp [words_zero, val]
   · rw [words_pos h, val, ih _ (Nat.div_lt_self (Nat.pos_of_ne_zero h) B_one)]
     exact Nat.mod_add_div n B
theorem ok_words (n : Nat) : Ok (words n) := by
 induction n using Nat.strongRecOn with
 | _ n ih =>
   by_cases h : n = 0
   · subst h; simp [words_zero, Ok]
   · rw [words_pos h]
     intro x hx
     rcases List.mem_cons.1 hx with rfl | hx
     · exact Nat.mod_lt _ B_pos
     · exact ih _ (Nat.div_lt_self (Nat.pos_of_ne_zero h) B_one) x hx
theorem ok_cons {x : Nat} {l : List Nat} : Ok (x :: l) ↔ x < B ∧ Ok l := by simp [Ok]
theorem ok_nil : Ok [] := by simp [Ok]
theorem ok_append {a b : List Nat} : Ok (a ++ b) ↔ Ok a ∧ Ok b := by
 simp only [Ok, List.mem_append]
 exact ⟨fun h => ⟨fun x hx => h x (.inl hx), fun x hx => h x (.inr hx)⟩, fun h x hx => hx.elim (h.1 x) (h.2 x)⟩
theorem ok_take {l : List Nat} (h : Ok l) (n : Nat) : Ok (l.take n) := fun x hx => h x (List.mem_of_mem_take hx)
theorem ok_drop {l : List Nat} (h : Ok l) (n : Nat) : Ok (l.drop n) := fun x hx => h x (List.mem_of_mem_drop hx)
theorem ok_get {l : List Nat} (h : Ok l) {i : Nat} (hi : i < l.length) : l[i] < B := h _ (List.getElem_mem hi)
theorem ok_getD {l : List Nat} (h : Ok l) (i : Nat) : l.getD i 0 < B := by
 rw [List.getD_eq_getElem?_getD]
 by_cases hi : i < l.length
 · rw [List.getElem?_eq_getElem hi]; exact ok_get h hi
 · rw [List.getElem?_eq_none (by omega)]; exact B_pos
theorem ok_replicate (n : Nat) : Ok (List.replicate n 0) := fun x hx => by
 rw [List.eq_of_mem_replicate hx]; exact B_pos
theorem ok_set {l : List Nat} (h : Ok l) (i : Nat) {x : Nat} (hx : x < B) : Ok (l.set i x) := fun y hy => by
 rcases List.mem_or_eq_of_mem_set hy with h1 | rfl
 · exact h y h1
 · exact hx
theorem lt_aux {b x v p : Nat} (hx : x < b) (h : v < p) : x + b * v < p * b := by
 have := Nat.mul_le_mul_left b h
 rw [Nat.succ_eq_add_one, Nat.mul_add] at this
 rw [Nat.mul_comm p b]; omega
theorem app_aux (b x v p u : Nat) : x + b * (v + p * u) = x + b * v + p * b * u := by grind
theorem val_append (a b : List Nat) : val (a ++ b) = val a + B ^ a.length * val b := by
 induction a with
 | nil => simp [val]
 | cons x a ih => simp only [List.cons_append, val, ih, List.length_cons, Nat.pow_succ]; exact app_aux _ _ _ _ _
theorem val_lt {l : List Nat} (h : Ok l) : val l < B ^ l.length := by
 induction l with
 | nil => simp [val]
 | cons x l ih =>
   have hx := (ok_cons.1 h).1
   have hl := ih (ok_cons.1 h).2
   simp only [val, List.length_cons, Nat.pow_succ]
   exact lt_aux hx hl
theorem val_replicate (n : Nat) : val (List.replicate n 0) = 0 := by
 induction n with
 | zero => rfl
 | succ n ih => simp [List.replicate_succ, val, ih]
/-- A list without the noughts at its end. -/
def trim : List Nat → List Nat
 | [] => []
 | x :: l => match trim l with
   | [] => if x = 0 then [] else [x]
   | y :: m => x :: y :: m
theorem words_val {l : List Nat} (h : Ok l) : words (val l) = trim l := by
 induction l with
 | nil => simp [val, words_zero, trim]
 | cons x l ih =>
   have hx := (ok_cons.1 h).1
   have ih := ih (ok_cons.1 h).2
   simp only [val, trim]
   by_cases h0 : x + B * val l = 0
   · have hx0 : x = 0 := by omega
     have hv : B * val l = 0 := by omega
     have hv : val l = 0 := by
      rcases Nat.mul_eq_zero.1 hv with h | h
      · exact absurd h (by have := B_pos; omega)
      · exact h
     rw [hv, words_zero] at ih
     rw [h0, words_zero, ← ih]; simp [hx0]
   · rw [words_pos h0, Nat.add_mul_mod_self_left, Nat.mod_eq_of_lt hx, Nat.add_mul_div_left _ _ B_pos, Nat.div_eq_of_lt hx, Nat.zero_add, ih]
     cases ht : trim l with
     | nil =>
       have : val l = 0 := by
        have := val_words (val l); rw [ih, ht] at this; exact this.symm
       have : x ≠ 0 := by rintro rfl; simp [this] at h0
       simp [this]
     | cons y m => rfl
theorem ok_trim {l : List Nat} (h : Ok l) : Ok (trim l) := by rw [← words_val h]; exact ok_words _
/-- The list without its last word, if that is 0. -/
theorem trim_snoc_zero (l : List Nat) : trim (l ++ [0]) = trim l := by
 induction l with
 | nil => rfl
 | cons x l ih => simp only [List.cons_append, trim, ih]
theorem trim_snoc {l : List Nat} {x : Nat} (hx : x ≠ 0) : trim (l ++ [x]) = l ++ [x] := by
 induction l with
 | nil => simp [trim, hx]
 | cons y l ih =>
   simp only [List.cons_append, trim, ih]
   cases h : l ++ [x] with
   | nil => simp at h
   | cons z m => rfl
theorem trim_take_of_zero {l : List Nat} {n : Nat} (hn : n < l.length) (h : l[n] = 0) : trim (l.take (n + 1)) = trim (l.take n) := by
 rw [List.take_succ_eq_append_getElem hn, h, trim_snoc_zero]
theorem trim_take_of_ne {l : List Nat} {n : Nat} (hn : n < l.length) (h : l[n] ≠ 0) : trim (l.take (n + 1)) = l.take (n + 1) := by
 rw [List.take_succ_eq_append_getElem hn, trim_snoc h]
theorem words_eq_nil {n : Nat} : words n = [] ↔ n = 0 := by
 constructor
 · intro h
   by_cases h0 : n = 0
   · exact h0
   · rw [words_pos h0] at h; cases h
 · rintro rfl; exact words_zero
theorem words_length_zero {n : Nat} : (words n).length = 0 ↔ n = 0 := by rw [List.length_eq_zero_iff, words_eq_nil]
theorem words_inj {m n : Nat} : words m = words n ↔ m = n :=
 ⟨fun h => by have := congrArg val h; simpa [val_words] using this, fun h => by rw [h]⟩
theorem trim_words (n : Nat) : trim (words n) = words n := by rw [← words_val (ok_words n), val_words]
theorem length_trim_le (l : List Nat) : (trim l).length ≤ l.length := by
 induction l with
 | nil => simp [trim]
 | cons x l ih =>
   simp only [trim]
   cases h : trim l with
   | nil => simp only []; split <;> simp
   | cons y m => rw [h] at ih; simpa using ih
theorem words_lt {n k : Nat} (h : n < B ^ k) : (words n).length ≤ k := by
 induction k generalizing n with
 | zero => simp at h; subst h; simp [words_zero]
 | succ k ih =>
   by_cases h0 : n = 0
   · subst h0; simp [words_zero]
   · rw [words_pos h0, List.length_cons]
     have : n / B < B ^ k := Nat.div_lt_of_lt_mul (by rw [Nat.pow_succ, Nat.mul_comm] at h; exact h)
     have := ih this
     omega
theorem words_length_le_iff {n k : Nat} : (words n).length ≤ k ↔ n < B ^ k :=
 ⟨fun h => Nat.lt_of_lt_of_le (by have := val_lt (ok_words n); rwa [val_words] at this) (Nat.pow_le_pow_right B_pos h), words_lt⟩
theorem words_mono {m n : Nat} (h : m ≤ n) : (words m).length ≤ (words n).length :=
 words_length_le_iff.2 (Nat.lt_of_le_of_lt h (words_length_le_iff.1 (Nat.le_refl _)))
theorem words_val_length {l : List Nat} (h : Ok l) : (words (val l)).length ≤ l.length := by rw [words_val h]; exact length_trim_le l
end Wd
namespace Wd
def addS (x y c : Nat) : Nat := (x + y + c) % 4294967296
def addC (x y c : Nat) : Nat := (x + y + c) / 4294967296
def subB (x y b : Nat) : Nat := (y + b - x + 4294967295) / 4294967296
def subD (x y b : Nat) : Nat := x + 4294967296 * subB x y b - y - b
def mulH (x y c d : Nat) : Nat := (x * y + c + d) / 4294967296
def mulL (x y c d : Nat) : Nat := (x * y + c + d) % 4294967296
def divQ (h l y : Nat) : Nat := (h * 4294967296 + l) / y
def divR (h l y : Nat) : Nat := (h * 4294967296 + l) % y
theorem addS_lt (x y c : Nat) : addS x y c < B := by rw [B_eq]; unfold addS; omega
theorem add_eq (x y c : Nat) : addS x y c + B * addC x y c = x + y + c := by rw [B_eq]; unfold addS addC; omega
theorem addC_le {x y c : Nat} (hx : x < B) (hy : y < B) (hc : c ≤ 1) : addC x y c ≤ 1 := by rw [B_eq] at *; unfold addC; omega
theorem subB_le {x y b : Nat} (hy : y < B) (hb : b ≤ 1) : subB x y b ≤ 1 := by rw [B_eq] at *; unfold subB; omega
theorem subD_lt {x y b : Nat} (hx : x < B) (hy : y < B) (hb : b < B) : subD x y b < B := by rw [B_eq] at *; unfold subD subB; omega
theorem sub_eq (x y b : Nat) : subD x y b + y + b = x + B * subB x y b := by rw [B_eq]; unfold subD subB; omega
theorem mulL_lt (x y c d : Nat) : mulL x y c d < B := by rw [B_eq]; unfold mulL; omega
theorem mul_eq (x y c d : Nat) : mulL x y c d + B * mulH x y c d = x * y + c + d := by
 rw [B_eq]; unfold mulL mulH; omega
theorem mul_le_top {x y : Nat} (hx : x < B) (hy : y < B) : x * y ≤ 18446744065119617025 := by
 rw [B_eq] at *
 exact Nat.le_trans (Nat.mul_le_mul (show x ≤ 4294967295 by omega) (show y ≤ 4294967295 by omega)) (by omega)
theorem mulH_lt {x y c d : Nat} (hx : x < B) (hy : y < B) (hc : c < B) (hd : d < B) : mulH x y c d < B := by
 have := mul_le_top hx hy
 rw [B_eq] at *; unfold mulH; omega
theorem div_eq (h l y : Nat) : divQ h l y * y + divR h l y = h * B + l := by
 rw [B_eq]; unfold divQ divR; rw [Nat.mul_comm]; exact Nat.div_add_mod _ _
theorem divR_lt {h l y : Nat} (hy : 0 < y) : divR h l y < y := Nat.mod_lt _ hy
theorem divQ_lt {h l y : Nat} (hl : l < B) (hh : h < y) : divQ h l y < B := by
 rw [B_eq] at *; unfold divQ
 refine Nat.div_lt_of_lt_mul ?_
 have : (h + 1) * 4294967296 ≤ y * 4294967296 := Nat.mul_le_mul_right _ hh
 omega
/-- How many bits a number has. -/
def bl (n : Nat) : Nat := if _h : n = 0 then 0 else bl (n / 2) + 1
termination_by n
decreasing_by omega
theorem bl_zero : bl 0 = 0 := by rw [bl]; simp
theorem bl_pos {n : Nat} (h : n ≠ 0) : bl n = bl (n / 2) + 1 := by rw [bl]; simp [h]
theorem bl_shift (s : Nat) : ∀ n, n / 2 ^ s ≠ 0 → bl n = bl (n / 2 ^ s) + s := by
 induction s with
 | zero => intro n _; simp
 | succ s ih =>
   intro n h
   have e : n / 2 ^ (s + 1) = n / 2 / 2 ^ s := by rw [Nat.pow_succ, Nat.mul_comm, Nat.div_div_eq_div_mul]
   have h0 : n ≠ 0 := by rintro rfl; simp at h
   rw [bl_pos h0, ih (n / 2) (by rw [← e]; exact h), e]; omega
theorem bl_le_iff (k : Nat) : ∀ n, bl n ≤ k ↔ n < 2 ^ k := by
 induction k with
 | zero =>
   intro n
   by_cases h : n = 0
   · subst h; simp [bl_zero]
   · rw [bl_pos h]; simp; omega
 | succ k ih =>
   intro n
   by_cases h : n = 0
   · subst h; simp [bl_zero, Nat.two_pow_pos]
   · rw [bl_pos h, Nat.pow_succ]
     have := ih (n / 2)
     omega
theorem bl_small {n : Nat} (h : n < 2) : bl n = n := by
 match n, h with
 | 0, _ => exact bl_zero
 | 1, _ => rw [bl_pos (by omega)]; simp [bl_zero]
/-- How many noughts stand at the low end of a number other than 0. -/
def tz (n : Nat) : Nat := if _h : n = 0 ∨ n % 2 = 1 then 0 else tz (n / 2) + 1
termination_by n
decreasing_by omega
theorem tz_odd {n : Nat} (h : n % 2 = 1) : tz n = 0 := by rw [tz]; simp [h]
theorem tz_even {n : Nat} (h0 : n ≠ 0) (h : n % 2 = 0) : tz n = tz (n / 2) + 1 := by rw [tz]; simp [h0, h]
theorem tz_shift (s : Nat) : ∀ n, n ≠ 0 → n % 2 ^ s = 0 → tz n = tz (n / 2 ^ s) + s := by
 induction s with
 | zero => intro n _ _; simp
 | succ s ih =>
   intro n h0 h
   have e : n / 2 ^ (s + 1) = n / 2 / 2 ^ s := by rw [Nat.pow_succ, Nat.mul_comm, Nat.div_div_eq_div_mul]
   have hd : 2 ^ (s + 1) ∣ n := Nat.dvd_of_mod_eq_zero h
   obtain ⟨m, rfl⟩ := hd
   have e2 : 2 ^ (s + 1) * m / 2 = 2 ^ s * m := by rw [Nat.pow_succ, Nat.mul_comm (2 ^ s) 2, Nat.mul_assoc]; omega
   rw [tz_even h0 (by rw [Nat.pow_succ, Nat.mul_comm (2 ^ s) 2, Nat.mul_assoc]; omega), e, e2, ih _ (by intro h1; apply h0; rw [Nat.pow_succ, Nat.mul_comm (2 ^ s) 2, Nat.mul_assoc, h1]) (by simp)]
   omega
theorem tz_lt (k : Nat) : ∀ n, n ≠ 0 → n < 2 ^ k → tz n < k := by
 induction k with
 | zero => intro n h0 h; simp at h; exact absurd h h0
 | succ k ih =>
   intro n h0 h
   rcases Nat.mod_two_eq_zero_or_one n with h1 | h1
   · rw [tz_even h0 h1]
     have := ih (n / 2) (by omega) (by rw [Nat.pow_succ] at h; omega)
     omega
   · rw [tz_odd h1]; omega
theorem tz_dvd (n : Nat) : 2 ^ tz n ∣ n := by
 induction n using Nat.strongRecOn with
 | _ n ih =>
   by_cases h0 : n = 0
   · subst h0; exact Nat.dvd_zero _
   · rcases Nat.mod_two_eq_zero_or_one n with h1 | h1
     · rw [tz_even h0 h1, Nat.pow_succ]
       obtain ⟨m, hm⟩ := ih (n / 2) (by omega)
       exact ⟨m, by rw [Nat.mul_assoc, Nat.mul_comm 2 m, ← Nat.mul_assoc, ← hm]; omega⟩
     · rw [tz_odd h1]; simp
theorem tz_odd_rest {n : Nat} (h0 : n ≠ 0) : n / 2 ^ tz n % 2 = 1 := by
 induction n using Nat.strongRecOn with
 | _ n ih =>
   rcases Nat.mod_two_eq_zero_or_one n with h1 | h1
   · rw [tz_even h0 h1, Nat.pow_succ, Nat.mul_comm, ← Nat.div_div_eq_div_mul]
     exact ih (n / 2) (by omega) (by omega)
   · rw [tz_odd h1]; simpa using h1
end Wd
namespace Wd
theorem val_take_succ (l : List Nat) (i : Nat) : val (l.take (i + 1)) = val (l.take i) + B ^ i * l.getD i 0 := by
 by_cases h : i < l.length
 · rw [List.take_succ_eq_append_getElem h, val_append, List.length_take, Nat.min_eq_left (by omega), List.getD_eq_getElem?_getD, List.getElem?_eq_getElem h]
   simp [val]
 · rw [List.take_of_length_le (by omega), List.take_of_length_le (by omega), List.getD_eq_getElem?_getD, List.getElem?_eq_none (by omega)]
   simp
theorem val_take_all (l : List Nat) {n : Nat} (h : l.length ≤ n) : val (l.take n) = val l := by rw [List.take_of_length_le h]
theorem val_take_set {o : List Nat} {i : Nat} (h : i < o.length) (x : Nat) : val ((o.set i x).take (i + 1)) = val (o.take i) + B ^ i * x := by
 rw [val_take_succ, List.getD_eq_getElem?_getD, List.getElem?_set_self h]
 congr 2
 rw [List.take_set, List.set_eq_of_length_le (by rw [List.length_take]; omega)]
/-- Which of two is the greater one. -/
def cmpI (a b : Nat) : Int := if a < b then -1 else if b < a then 1 else 0
theorem cmpI_lt {a b : Nat} (h : a < b) : cmpI a b = -1 := by simp [cmpI, h]
theorem cmpI_gt {a b : Nat} (h : b < a) : cmpI a b = 1 := by simp [cmpI, h]; omega
theorem cmpI_eq {a b : Nat} (h : a = b) : cmpI a b = 0 := by simp [cmpI, h]
theorem cmpI_neg {a b : Nat} : cmpI a b < 0 ↔ a < b := by unfold cmpI; split <;> (try split) <;> omega
theorem cmpI_cases (a b : Nat) : a < b ∧ cmpI a b = -1 ∨ a = b ∧ cmpI a b = 0 ∨ b < a ∧ cmpI a b = 1 := by
 rcases Nat.lt_trichotomy a b with h | h | h
 · exact .inl ⟨h, cmpI_lt h⟩
 · exact .inr (.inl ⟨h, cmpI_eq h⟩)
 · exact .inr (.inr ⟨h, cmpI_gt h⟩)
/-- By how much the greater one is greater. -/
def gapN (a b : Nat) : Nat := if a < b then b - a else a - b
theorem gapN_lt {a b : Nat} (h : a < b) : gapN a b = b - a := if_pos h
theorem gapN_ge {a b : Nat} (h : b ≤ a) : gapN a b = a - b := if_neg (by omega)
theorem words_shorter {m n : Nat} (h : (words m).length < (words n).length) : m < n := by
 rcases Nat.lt_or_ge m n with h1 | h1
 · exact h1
 · have := words_mono h1; omega
/-- The highest place at which two lists of one length differ decides. -/
theorem val_split {l : List Nat} {k : Nat} (h : k < l.length) : val l = val (l.take k) + B ^ k * (l[k] + B * val (l.drop (k + 1))) := by
 have e : l = l.take k ++ l[k] :: l.drop (k + 1) := by rw [← List.drop_eq_getElem_cons h, List.take_append_drop]
 calc val l = val (l.take k ++ l[k] :: l.drop (k + 1)) := congrArg val e
  _ = _ := by rw [val_append, List.length_take, Nat.min_eq_left (by omega), val]
theorem lt_of_place {p a b x y r s : Nat} (ha : a < p) (h : x < y) (hrs : r ≤ s) : a + p * (x + B * r) < b + p * (y + B * s) := by
 have h1 : p * (x + B * r + 1) ≤ p * (y + B * s) := Nat.mul_le_mul_left _ (by have := Nat.mul_le_mul_left B hrs; omega)
 rw [Nat.mul_add p (x + B * r) 1] at h1
 omega
theorem val_lt_of_place {a b : List Nat} (ha : Ok a) {k : Nat} (hka : k < a.length) (hkb : k < b.length) (he : a.drop (k + 1) = b.drop (k + 1)) (h : a[k] < b[k]) : val a < val b := by
 rw [val_split hka, val_split hkb, he]
 have h1 := val_lt (ok_take ha k)
 rw [List.length_take, Nat.min_eq_left (by omega)] at h1
 exact lt_of_place h1 h (Nat.le_refl _)
theorem drop_eq_step {a b : List Nat} {k : Nat} (hka : k < a.length) (hkb : k < b.length) (he : a.drop (k + 1) = b.drop (k + 1)) (h : a[k] = b[k]) : a.drop k = b.drop k := by
 rw [List.drop_eq_getElem_cons hka, List.drop_eq_getElem_cons hkb, he, h]
/-- A sum, word by word: i places are done. -/
def AddAt (a b o : List Nat) (i c : Nat) : Prop := c ≤ 1 ∧ val (o.take i) + B ^ i * c = val (a.take i) + val (b.take i)
theorem addAt_zero (a b o : List Nat) : AddAt a b o 0 0 := ⟨by omega, by simp [val]⟩
theorem add_aux {p s k x y c v u t : Nat} (h : s + B * k = x + y + c) (hv : v + p * c = u + t) : v + p * s + p * B * k = u + p * x + (t + p * y) := by
 have : p * (s + B * k) = p * (x + y + c) := by rw [h]
 rw [Nat.mul_add, Nat.mul_add, Nat.mul_add, ← Nat.mul_assoc] at this
 omega
theorem addAt_step {a b o : List Nat} {i c : Nat} (hi : i < o.length) (hx : a.getD i 0 < B) (hy : b.getD i 0 < B) (h : AddAt a b o i c) :
 AddAt a b (o.set i (addS (a.getD i 0) (b.getD i 0) c)) (i + 1) (addC (a.getD i 0) (b.getD i 0) c) := by
 refine ⟨addC_le hx hy h.1, ?_⟩
 rw [val_take_set hi, val_take_succ a, val_take_succ b, Nat.pow_succ]
 exact add_aux (add_eq _ _ _) h.2
theorem addAt_end {a b o : List Nat} {n c : Nat} (ha : a.length ≤ n) (hb : b.length ≤ n) (hn : o.length = n + 1) (h : AddAt a b o n c) : val (o.set n c) = val a + val b := by
 have h2 := h.2
 rw [val_take_all a ha, val_take_all b hb] at h2
 rw [← h2, ← val_take_set (by omega), List.take_of_length_le (by simp; omega)]
/-- A difference, word by word. -/
def SubAt (a b o : List Nat) (i c : Nat) : Prop := c ≤ 1 ∧ val (o.take i) + val (b.take i) = val (a.take i) + B ^ i * c
theorem subAt_zero (a b o : List Nat) : SubAt a b o 0 0 := ⟨by omega, by simp [val]⟩
theorem sub_aux {p d k x y c v u t : Nat} (h : d + y + c = x + B * k) (hv : v + t = u + p * c) : v + p * d + (t + p * y) = u + p * x + p * B * k := by
 have : p * (d + y + c) = p * (x + B * k) := by rw [h]
 rw [Nat.mul_add, Nat.mul_add, Nat.mul_add, ← Nat.mul_assoc] at this
 omega
theorem subAt_step {a b o : List Nat} {i c : Nat} (hi : i < o.length) (hy : b.getD i 0 < B) (h : SubAt a b o i c) :
 SubAt a b (o.set i (subD (a.getD i 0) (b.getD i 0) c)) (i + 1) (subB (a.getD i 0) (b.getD i 0) c) := by
 refine ⟨subB_le hy h.1, ?_⟩
 rw [val_take_set hi, val_take_succ a, val_take_succ b, Nat.pow_succ]
 exact sub_aux (sub_eq _ _ _) h.2
theorem subAt_end {a b o : List Nat} {c : Nat} (ho : Ok o) (hn : o.length = a.length) (hb : b.length ≤ a.length) (hle : val b ≤ val a) (h : SubAt a b o a.length c) : val o = val a - val b ∧ c = 0 := by
 have h2 := h.2
 rw [val_take_all a (Nat.le_refl _), val_take_all b hb, val_take_all o (by omega)] at h2
 have h3 := val_lt ho
 rw [hn] at h3
 have hc : c = 0 := by
  rcases Nat.eq_zero_or_pos c with h0 | h0
  · exact h0
  · have : B ^ a.length * 1 ≤ B ^ a.length * c := Nat.mul_le_mul_left _ h0
    omega
 subst hc
 rw [Nat.mul_zero] at h2
 exact ⟨by omega, rfl⟩
/-- The sum of all. -/
def vsum (ls : List (List Nat)) : Nat := (ls.map val).sum
theorem vsum_nil : vsum [] = 0 := rfl
theorem vsum_take_succ {ls : List (List Nat)} {k : Nat} (h : k < ls.length) : vsum (ls.take (k + 1)) = vsum (ls.take k) + val ls[k] := by
 unfold vsum
 rw [List.take_succ_eq_append_getElem h, List.map_append, List.sum_append]
 simp only [List.map_cons, List.map_nil, List.sum_cons, List.sum_nil, Nat.add_zero]
theorem vsum_take_le (ls : List (List Nat)) (k : Nat) : vsum (ls.take k) ≤ vsum ls := by
 unfold vsum
 conv => rhs; rw [← List.take_append_drop k ls]
 rw [List.map_append, List.sum_append]
 omega
theorem words_len_take (ls : List (List Nat)) (k : Nat) : (words (vsum (ls.take k))).length ≤ (words (vsum ls)).length := words_mono (vsum_take_le ls k)
theorem B_two_le : 2 ≤ B := by rw [B_eq]; omega
theorem full_aux {P b c v x y : Nat} {Q : Prop} (hb : 2 ≤ b) (hx : x < P) (hy : y < P) (hc : 0 < c) (h : v + P * b * c = x + y) : Q := by
 have h5 : P * 2 ≤ P * b := Nat.mul_le_mul_left _ hb
 have h6 : P * b * 1 ≤ P * b * c := Nat.mul_le_mul_left _ hc
 omega
theorem addAt_full {a b o : List Nat} {n c : Nat} (ha : a.length ≤ n) (hb : b.length ≤ n) (hn : o.length = n + 1) (hoa : Ok a) (hob : Ok b) (h : AddAt a b o (n + 1) c) : val o = val a + val b ∧ c = 0 := by
 have h2 := h.2
 rw [val_take_all a (by omega), val_take_all b (by omega), val_take_all o (by omega), Nat.pow_succ] at h2
 have h3 := Nat.lt_of_lt_of_le (val_lt hoa) (Nat.pow_le_pow_right B_pos ha)
 have h4 := Nat.lt_of_lt_of_le (val_lt hob) (Nat.pow_le_pow_right B_pos hb)
 have hc : c = 0 := by
  rcases Nat.eq_zero_or_pos c with h0 | h0
  · exact h0
  · exact full_aux B_two_le h3 h4 h0 h2
 subst hc
 rw [Nat.mul_zero, Nat.add_zero] at h2
 exact ⟨h2, rfl⟩
theorem subAt_full {a b o : List Nat} {n c : Nat} (ha : a.length ≤ n) (hb : b.length ≤ n) (hn : o.length = n) (ho : Ok o) (hle : val b ≤ val a) (h : SubAt a b o n c) : val o = val a - val b ∧ c = 0 := by
 have h2 := h.2
 rw [val_take_all a ha, val_take_all b hb, val_take_all o (by omega)] at h2
 have h3 := val_lt ho
 rw [hn] at h3
 have hc : c = 0 := by
  rcases Nat.eq_zero_or_pos c with h0 | h0
  · exact h0
  · have : B ^ n * 1 ≤ B ^ n * c := Nat.mul_le_mul_left _ h0
    omega
 subst hc
 rw [Nat.mul_zero] at h2
 exact ⟨by omega, rfl⟩
theorem val_drop (l : List Nat) (k : Nat) : val (l.drop k) = l.getD k 0 + B * val (l.drop (k + 1)) := by
 by_cases h : k < l.length
 · rw [List.drop_eq_getElem_cons h, val, List.getD_eq_getElem?_getD, List.getElem?_eq_getElem h]; rfl
 · rw [List.drop_eq_nil_of_le (by omega), List.drop_eq_nil_of_le (by omega), List.getD_eq_getElem?_getD, List.getElem?_eq_none (by omega)]; simp [val]
theorem val_take_drop (l : List Nat) (k : Nat) : val l = val (l.take k) + B ^ k * val (l.drop k) := by
 by_cases h : k ≤ l.length
 · have e := val_append (l.take k) (l.drop k)
   rw [List.take_append_drop, List.length_take, Nat.min_eq_left h] at e
   exact e
 · rw [List.take_of_length_le (by omega), List.drop_eq_nil_of_le (by omega)]; simp [val]
theorem val_take_lt {l : List Nat} (h : Ok l) (k : Nat) : val (l.take k) < B ^ k :=
 Nat.lt_of_lt_of_le (val_lt (ok_take h k)) (Nat.pow_le_pow_right B_pos (by rw [List.length_take]; omega))
theorem lt_of_drop {a b : List Nat} {k : Nat} (ha : Ok a) (he : val (a.drop (k + 1)) = val (b.drop (k + 1))) (h : a.getD k 0 < b.getD k 0) : val a < val b := by
 rw [val_take_drop a k, val_take_drop b k, val_drop a k, val_drop b k, he]
 exact lt_of_place (val_take_lt ha k) h (Nat.le_refl _)
theorem drop_step {a b : List Nat} {k : Nat} (he : val (a.drop (k + 1)) = val (b.drop (k + 1))) (h : a.getD k 0 = b.getD k 0) : val (a.drop k) = val (b.drop k) := by
 rw [val_drop a k, val_drop b k, he, h]
end Wd
namespace Wd
theorem B_pow (k : Nat) : B ^ k = 2 ^ (32 * k) := by rw [B_two, ← Nat.pow_mul]
/-- Is the bit at a place 1? -/
def bitN (n i : Nat) : Bool := decide (n / 2 ^ i % 2 = 1)
/-- What stands from a place on. -/
theorem val_div (l : List Nat) (h : Ok l) (k : Nat) : val l / B ^ k = val (l.drop k) := by
 rw [val_take_drop l k, Nat.add_mul_div_left _ _ (Nat.pow_pos B_pos), Nat.div_eq_of_lt (val_take_lt h k), Nat.zero_add]
theorem val_mod (l : List Nat) (h : Ok l) (k : Nat) : val l % B ^ k = val (l.take k) := by
 rw [val_take_drop l k, Nat.add_mul_mod_self_left, Nat.mod_eq_of_lt (val_take_lt h k)]
theorem pow_split (i : Nat) : 2 ^ i = B ^ (i / 32) * 2 ^ (i % 32) := by
 rw [B_pow, ← Nat.pow_add, Nat.div_add_mod]
theorem even_B (k : Nat) (h : k < 32) : B = 2 ^ k * (2 * 2 ^ (31 - k)) := by
 rw [B_two, ← Nat.mul_assoc, Nat.mul_comm (2 ^ k) 2, Nat.mul_assoc, ← Nat.pow_add, show k + (31 - k) = 31 from by omega]
/-- The bit of a list lies in one word. -/
theorem bit_word (l : List Nat) (h : Ok l) (i : Nat) : val l / 2 ^ i % 2 = l.getD (i / 32) 0 / 2 ^ (i % 32) % 2 := by
 rw [pow_split i, ← Nat.div_div_eq_div_mul, val_div l h, val_drop]
 have hk : i % 32 < 32 := Nat.mod_lt _ (by omega)
 generalize l.getD (i / 32) 0 = x
 generalize val (l.drop (i / 32 + 1)) = v
 generalize i % 32 = k at hk
 rw [even_B k hk, Nat.mul_assoc (2 ^ k), Nat.add_mul_div_left _ _ (Nat.two_pow_pos k), Nat.mul_assoc 2, Nat.add_mul_mod_self_left]
theorem words_last (n : Nat) (h : 0 < (words n).length) : (words n).getD ((words n).length - 1) 0 ≠ 0 := by
 intro h0
 have ht := trim_words n
 have hlen : (words n).length - 1 < (words n).length := by omega
 rw [List.getD_eq_getElem?_getD, List.getElem?_eq_getElem hlen] at h0
 have e := trim_take_of_zero hlen h0
 rw [show (words n).length - 1 + 1 = (words n).length from by omega, List.take_length, ht] at e
 have h2 := length_trim_le ((words n).take ((words n).length - 1))
 rw [← e, List.length_take] at h2
 omega
/-- The lowest word that isn't 0 decides how many noughts stand at the end. -/
theorem tz_mul_pow (k : Nat) {m : Nat} (h : m ≠ 0) : tz (2 ^ k * m) = k + tz m := by
 have h0 : 2 ^ k * m ≠ 0 := Nat.mul_ne_zero (Nat.ne_of_gt (Nat.two_pow_pos k)) h
 rw [tz_shift k _ h0 (Nat.mul_mod_right _ _), Nat.mul_div_cancel_left _ (Nat.two_pow_pos k), Nat.add_comm]
theorem tz_add_big {x v : Nat} (hx : x ≠ 0) (hlt : x < B) : tz (x + B * v) = tz x := by
 have ht := tz_lt 32 x hx (by rw [← B_two]; exact hlt)
 have hd := tz_dvd x
 have ho := tz_odd_rest hx
 generalize tz x = t at *
 obtain ⟨m, rfl⟩ := hd
 rw [Nat.mul_div_cancel_left _ (Nat.two_pow_pos t)] at ho
 rw [even_B t ht, Nat.mul_assoc (2 ^ t), ← Nat.mul_add, tz_mul_pow t (by omega), tz_odd (by rw [Nat.mul_assoc 2]; omega), Nat.add_zero]
/-- Shifted up: i words are done. -/
def UpAt (a o : List Nat) (w b i : Nat) : Prop := o.getD (w + i) 0 < 2 ^ b ∧ val (o.take (w + i + 1)) = B ^ w * (2 ^ b * val (a.take i))
theorem upAt_zero (a : List Nat) (n w b : Nat) : UpAt a (List.replicate n 0) w b 0 := by
 refine ⟨?_, ?_⟩
 · rw [List.getD_eq_getElem?_getD, List.getElem?_replicate]
   split <;> exact Nat.two_pow_pos b
 · rw [List.take_replicate, val_replicate]; simp [val]
theorem up_low {x b : Nat} (hb : b < 32) : x * 2 ^ b % B % 2 ^ b = 0 := by
 have e := even_B b hb
 have h1 : x * 2 ^ b % B % 2 ^ b = x * 2 ^ b % 2 ^ b := by
  rw [e, Nat.mod_mul_right_mod]
 rw [h1, Nat.mul_mod_left]
theorem up_add_lt {x b h : Nat} (hb : b < 32) (hh : h < 2 ^ b) : h + x * 2 ^ b % B < B := by
 have h0 := up_low (x := x) hb
 have h1 : x * 2 ^ b % B < B := Nat.mod_lt _ B_pos
 obtain ⟨m, hm⟩ := Nat.dvd_of_mod_eq_zero h0
 have e := even_B b hb
 rw [hm] at h1 ⊢
 generalize 2 * 2 ^ (31 - b) = q at e
 rw [e] at h1 ⊢
 have hq : m < q := Nat.lt_of_mul_lt_mul_left h1
 have h2 : 2 ^ b * (m + 1) ≤ 2 ^ b * q := Nat.mul_le_mul_left _ hq
 rw [Nat.mul_add] at h2
 omega
theorem upAt_step {a o : List Nat} {w b i : Nat} (hb : b < 32) (hx : a.getD i 0 < B) (hi : w + i + 1 < o.length) (h : UpAt a o w b i) :
 UpAt a ((o.set (w + i) (o.getD (w + i) 0 + a.getD i 0 * 2 ^ b % B)).set (w + i + 1) (a.getD i 0 * 2 ^ b / B)) w b (i + 1) := by
 obtain ⟨h1, h2⟩ := h
 refine ⟨?_, ?_⟩
 · rw [show w + (i + 1) = w + i + 1 from by omega, List.getD_eq_getElem?_getD, List.getElem?_set_self (by rw [List.length_set]; exact hi)]
   show a.getD i 0 * 2 ^ b / B < 2 ^ b
   refine Nat.div_lt_of_lt_mul ?_
   exact Nat.mul_lt_mul_of_pos_right hx (Nat.two_pow_pos b)
 · rw [show w + (i + 1) + 1 = w + i + 1 + 1 from by omega, val_take_set (by rw [List.length_set]; exact hi), val_take_set (by omega), val_take_succ a i]
   rw [val_take_succ o (w + i)] at h2
   have e := Nat.mod_add_div (a.getD i 0 * 2 ^ b) B
   generalize a.getD i 0 * 2 ^ b % B = r at *
   generalize hq : a.getD i 0 * 2 ^ b / B = q at *
   have e2 : B ^ (w + i) * (r + B * q) = B ^ (w + i) * (a.getD i 0 * 2 ^ b) := by rw [e]
   have e3 : B ^ (w + i + 1) = B ^ (w + i) * B := Nat.pow_succ _ _
   have e4 : B ^ (w + i) = B ^ w * B ^ i := Nat.pow_add _ _ _
   rw [e3, Nat.mul_add, Nat.mul_assoc (B ^ (w + i)) B q]
   rw [Nat.mul_add] at e2
   rw [Nat.mul_add, Nat.mul_add, ← h2]
   have e5 : B ^ w * (2 ^ b * (B ^ i * a.getD i 0)) = B ^ (w + i) * (a.getD i 0 * 2 ^ b) := by rw [e4]; ac_rfl
   rw [e5, ← e2]
   ac_rfl
theorem upAt_end {a o : List Nat} {w b : Nat} (ho : o.length = w + a.length + 1) (h : UpAt a o w b a.length) : val o = val a * 2 ^ (32 * w + b) := by
 have h2 := h.2
 rw [List.take_of_length_le (by omega), List.take_length, B_pow, ← Nat.mul_assoc, ← Nat.pow_add] at h2
 rw [h2, Nat.mul_comm]
/-- Shifted down: i words are done. -/
def DownAt (a o : List Nat) (w b i : Nat) : Prop := val (o.take i) = val a / 2 ^ (32 * w + b) % B ^ i
theorem downAt_zero (a o : List Nat) (w b : Nat) : DownAt a o w b 0 := by simp [DownAt, val, Nat.mod_one]
theorem down_digit {a : List Nat} (h : Ok a) {w b i : Nat} (hb : b < 32) : val a / 2 ^ (32 * w + b) / B ^ i % B = (a.getD (w + i) 0 + B * a.getD (w + i + 1) 0) / 2 ^ b % B := by
 have e1 : val a / 2 ^ (32 * w + b) / B ^ i = val (a.drop (w + i)) / 2 ^ b := by
  rw [Nat.div_div_eq_div_mul, Nat.pow_add, ← B_pow, Nat.mul_assoc, Nat.mul_comm (2 ^ b), ← Nat.mul_assoc, ← Nat.pow_add, ← Nat.div_div_eq_div_mul, val_div a h]
 rw [e1, val_drop, val_drop a (w + i + 1)]
 generalize a.getD (w + i) 0 = x
 generalize a.getD (w + i + 1) 0 = y
 generalize val (a.drop (w + i + 1 + 1)) = v
 have e := even_B b hb
 have e2 : x + B * (y + B * v) = (x + B * y) + 2 ^ b * (B * (2 * 2 ^ (31 - b) * v)) := by
  rw [Nat.mul_add, ← Nat.add_assoc]
  congr 1
  conv => lhs; rw [show B * (B * v) = B * B * v from by rw [Nat.mul_assoc]]
  conv => lhs; arg 1; arg 2; rw [e]
  ac_rfl
 rw [e2, Nat.add_mul_div_left _ _ (Nat.two_pow_pos b), Nat.add_mul_mod_self_left]
theorem downAt_step {a o : List Nat} (h : Ok a) {w b i : Nat} (hb : b < 32) (hi : i < o.length) (hd : DownAt a o w b i) : DownAt a (o.set i ((a.getD (w + i) 0 + B * a.getD (w + i + 1) 0) / 2 ^ b % B)) w b (i + 1) := by
 unfold DownAt at hd ⊢
 rw [val_take_set hi, hd, ← down_digit h hb, Nat.pow_succ, Nat.mod_mul]
theorem downAt_end {a o : List Nat} (h : Ok a) {w b : Nat} (hw : w ≤ a.length) (ho : o.length = a.length - w) (hd : DownAt a o w b (a.length - w)) : val o = val a / 2 ^ (32 * w + b) := by
 unfold DownAt at hd
 rw [List.take_of_length_le (by omega)] at hd
 rw [hd]
 refine Nat.mod_eq_of_lt ?_
 refine Nat.lt_of_le_of_lt (Nat.div_le_div_left (Nat.pow_le_pow_right (by omega) (Nat.le_add_right (32 * w) b)) (Nat.two_pow_pos _)) ?_
 rw [← B_pow]
 refine Nat.div_lt_of_lt_mul ?_
 rw [← Nat.pow_add, show w + (a.length - w) = a.length from by omega]
 exact val_lt h
theorem down_far {a : List Nat} (h : Ok a) {w b : Nat} (hw : a.length ≤ w) : val a / 2 ^ (32 * w + b) = 0 := by
 refine Nat.div_eq_of_lt (Nat.lt_of_lt_of_le (val_lt h) ?_)
 rw [B_pow]
 exact Nat.pow_le_pow_right (by omega) (by omega)
theorem val_set {o : List Nat} {k : Nat} (hk : k < o.length) (x : Nat) : val (o.set k x) + B ^ k * o.getD k 0 = val o + B ^ k * x := by
 have h1 := val_take_drop (o.set k x) (k + 1)
 have h2 := val_take_drop o (k + 1)
 rw [val_take_set hk, List.drop_set_of_lt (by omega)] at h1
 rw [val_take_succ] at h2
 rw [h1]
 conv => rhs; rw [h2]
 ac_rfl
/-- The highest bit decides the length; the lowest how many noughts. -/
theorem bl_top {v n : Nat} (h : v < 2 ^ (n + 1)) (hb : bitN v n = true) : bl v = n + 1 := by
 have h1 : v / 2 ^ n % 2 = 1 := by simpa [bitN] using hb
 have h2 : v / 2 ^ n < 2 := by
  refine Nat.div_lt_of_lt_mul ?_
  rw [← Nat.pow_succ]; exact h
 have h3 : v / 2 ^ n = 1 := by generalize v / 2 ^ n = q at *; omega
 rw [bl_shift n v (by omega), h3, bl_small (by omega), Nat.add_comm]
theorem lt_of_bit {v n : Nat} (h : v < 2 ^ (n + 1)) (hb : bitN v n = false) : v < 2 ^ n := by
 have h1 : ¬ v / 2 ^ n % 2 = 1 := by simpa [bitN] using hb
 have h2 : v / 2 ^ n < 2 := by
  refine Nat.div_lt_of_lt_mul ?_
  rw [← Nat.pow_succ]; exact h
 have h3 : v / 2 ^ n = 0 := by generalize v / 2 ^ n = q at *; omega
 exact (Nat.div_eq_zero_iff_lt (Nat.two_pow_pos n)).1 h3
theorem bl_of_zero {v : Nat} (h : v < 2 ^ 0) : bl v = 0 := by
 have : v = 0 := by simpa using h
 rw [this, bl_zero]
theorem val_lt_two {l : List Nat} (h : Ok l) : val l < 2 ^ (32 * l.length) := by rw [← B_pow]; exact val_lt h
end Wd
namespace Wd
/-- A row of products is added from a place on: i words are done. -/
def RowAt (a o p : List Nat) (x c k i cy : Nat) : Prop :=
 cy < B ∧ p.length = o.length ∧ p.drop (k + i) = o.drop (k + i) ∧ val (p.take (k + i)) + B ^ (k + i) * cy = val (o.take (k + i)) + B ^ k * (x * val (a.take i) + c)
theorem rowAt_zero (a o : List Nat) (x c k : Nat) (hc : c < B) : RowAt a o o x c k 0 c := ⟨hc, rfl, rfl, by simp [val]⟩
theorem getD_of_drop {p o : List Nat} {k : Nat} (h : p.drop k = o.drop k) : p.getD k 0 = o.getD k 0 := by
 have := congrArg (fun l : List Nat => l.getD 0 0) h
 simpa [List.getD_eq_getElem?_getD] using this
theorem row_aux {P b u t m h x y z c q v K : Nat} (he : m + b * h = x * y + z + c) (hv : u + P * c = t + K) : u + P * m + P * b * h = t + P * z + (K + P * (x * y)) := by
 have e1 : P * m + P * b * h = P * (m + b * h) := by rw [Nat.mul_add, Nat.mul_assoc]
 rw [Nat.add_assoc, e1, he]
 rw [Nat.mul_add, Nat.mul_add]
 omega
theorem rowAt_step {a o p : List Nat} {x c k i cy : Nat} (hk : k + i < o.length) (hp : Ok p) (hx : x < B) (hy : a.getD i 0 < B) (h : RowAt a o p x c k i cy) :
 RowAt a o (p.set (k + i) (mulL x (a.getD i 0) (p.getD (k + i) 0) cy)) x c k (i + 1) (mulH x (a.getD i 0) (p.getD (k + i) 0) cy) := by
 obtain ⟨h1, h2, h3, h4⟩ := h
 have hz := ok_getD hp (k + i)
 refine ⟨mulH_lt hx hy hz h1, by rw [List.length_set, h2], ?_, ?_⟩
 · have hd : ∀ l : List Nat, l.drop (k + i + 1) = (l.drop (k + i)).drop 1 := fun l => by rw [List.drop_drop]
   rw [← Nat.add_assoc, List.drop_set_of_lt (by omega), hd, h3, ← hd]
 · rw [← Nat.add_assoc, val_take_set (by omega), val_take_succ o, val_take_succ a, ← getD_of_drop h3]
   have e := mul_eq x (a.getD i 0) (p.getD (k + i) 0) cy
   generalize mulL x (a.getD i 0) (p.getD (k + i) 0) cy = m at *
   generalize mulH x (a.getD i 0) (p.getD (k + i) 0) cy = g at *
   have e2 := row_aux (P := B ^ (k + i)) (u := val (p.take (k + i))) (t := val (o.take (k + i))) (q := 0) (v := 0) e h4
   rw [Nat.pow_succ, e2]
   have e3 : B ^ k * (x * (val (a.take i) + B ^ i * a.getD i 0) + c) = B ^ k * (x * val (a.take i) + c) + B ^ (k + i) * (x * a.getD i 0) := by
    rw [Nat.pow_add, Nat.mul_add x, Nat.add_right_comm, Nat.mul_add (B ^ k)]
    congr 1
    ac_rfl
   rw [e3]
theorem val_drop_zero_succ {o : List Nat} {k : Nat} (h : val (o.drop k) = 0) : o.getD k 0 = 0 ∧ val (o.drop (k + 1)) = 0 := by
 rw [val_drop] at h
 have hB := B_pos
 refine ⟨by omega, ?_⟩
 rcases Nat.eq_zero_or_pos (val (o.drop (k + 1))) with h1 | h1
 · exact h1
 · have := Nat.mul_pos hB h1
   omega
theorem rowAt_end {a o p : List Nat} {x c k cy : Nat} (hk : k + a.length < o.length) (hz : val (o.drop (k + a.length)) = 0) (h : RowAt a o p x c k a.length cy) :
 val (p.set (k + a.length) cy) = val o + B ^ k * (x * val a + c) ∧ val ((p.set (k + a.length) cy).drop (k + a.length + 1)) = 0 := by
 obtain ⟨h1, h2, h3, h4⟩ := h
 obtain ⟨z1, z2⟩ := val_drop_zero_succ hz
 have hd : (p.set (k + a.length) cy).drop (k + a.length + 1) = o.drop (k + a.length + 1) := by
  rw [List.drop_set_of_lt (by omega), ← List.drop_drop, h3, List.drop_drop]
 refine ⟨?_, by rw [hd]; exact z2⟩
 rw [val_take_drop (p.set (k + a.length) cy) (k + a.length + 1), hd, z2, Nat.mul_zero, Nat.add_zero, val_take_set (by omega), h4, List.take_length]
 rw [val_take_drop o (k + a.length), hz, Nat.mul_zero, Nat.add_zero]
/-- A product: i words of the second one are done. -/
def MulAt (a b o : List Nat) (i : Nat) : Prop := val o = val a * val (b.take i) ∧ val (o.drop (i + a.length)) = 0
theorem mulAt_zero (a b : List Nat) (n : Nat) : MulAt a b (List.replicate n 0) 0 := by
 refine ⟨by rw [val_replicate]; simp [val], ?_⟩
 rw [List.drop_replicate, val_replicate]
theorem mulAt_step {a b o o' : List Nat} {i : Nat} (h : MulAt a b o i) (h1 : val o' = val o + B ^ i * (b.getD i 0 * val a + 0)) (h2 : val (o'.drop (i + a.length + 1)) = 0) : MulAt a b o' (i + 1) := by
 refine ⟨?_, by rw [show i + 1 + a.length = i + a.length + 1 from by omega]; exact h2⟩
 rw [Nat.add_zero] at h1
 rw [h1, h.1, val_take_succ, Nat.mul_add]
 congr 1
 ac_rfl
theorem words_mul_le {a b m n : Nat} (ha : (words a).length ≤ m) (hb : (words b).length ≤ n) : (words (a * b)).length ≤ m + n := by
 rw [words_length_le_iff] at *
 rw [Nat.pow_add]
 exact Nat.mul_lt_mul'' ha hb
theorem words_one_len : (words 1).length ≤ 1 := by rw [words_length_le_iff, Nat.pow_one, B_eq]; omega
theorem lt_two_bl (N : Nat) : N < 2 ^ bl N := (bl_le_iff (bl N) N).1 (Nat.le_refl _)
theorem div_two_bl (e : Nat) : e / 2 ^ bl e = 0 := Nat.div_eq_of_lt (lt_two_bl e)
end Wd
namespace Wd
theorem div_of {n q x r : Nat} (h : n = q * x + r) (hr : r < x) : q = n / x ∧ r = n % x := by
 subst h
 have hx : 0 < x := by omega
 constructor
 · rw [Nat.mul_comm, Nat.mul_add_div hx, Nat.div_eq_of_lt hr, Nat.add_zero]
 · rw [Nat.mul_comm, Nat.mul_add_mod, Nat.mod_eq_of_lt hr]
theorem val_drop_set {q : List Nat} {k : Nat} (hk : k < q.length) (x : Nat) : val ((q.set k x).drop k) = x + B * val (q.drop (k + 1)) := by
 rw [val_drop, List.getD_eq_getElem?_getD, List.getElem?_set_self hk, List.drop_set_of_lt (by omega)]
 rfl
/-- By a word: the places from k on are done. -/
def WordAt (a q : List Nat) (x k r : Nat) : Prop := r < x ∧ q.length = a.length ∧ val (a.drop k) = val (q.drop k) * x + r
theorem wordAt_zero (a : List Nat) {x : Nat} (hx : 0 < x) : WordAt a (List.replicate a.length 0) x a.length 0 :=
 ⟨hx, List.length_replicate, by rw [List.drop_length, List.drop_replicate, Nat.sub_self]; simp [val]⟩
theorem word_aux {b V x r y d r' : Nat} (h : d * x + r' = r * b + y) : y + b * (V * x + r) = (d + b * V) * x + r' := by grind
theorem wordAt_step {a q : List Nat} {x k r : Nat} (hk : k < a.length) (h : WordAt a q x (k + 1) r) :
 WordAt a (q.set k (divQ r (a.getD k 0) x)) x k (divR r (a.getD k 0) x) := by
 obtain ⟨h1, h2, h3⟩ := h
 refine ⟨divR_lt (by omega), by rw [List.length_set, h2], ?_⟩
 rw [val_drop_set (by omega), val_drop a k, h3]
 exact word_aux (div_eq _ _ _)
theorem wordAt_end {a q : List Nat} {x r : Nat} (h : WordAt a q x 0 r) : val q = val a / x ∧ r = val a % x := by
 obtain ⟨h1, _, h3⟩ := h
 rw [List.drop_zero, List.drop_zero] at h3
 exact div_of h3 h1
/-- The guess: three words by two, at most a word. -/
def guessN (a2 a1 a0 b1 b0 : Nat) : Nat := min (B - 1) (((a2 * B + a1) * B + a0) / (b1 * B + b0))
theorem guess_lt (a2 a1 a0 b1 b0 : Nat) : guessN a2 a1 a0 b1 b0 < B := by
 have := B_pos
 have : guessN a2 a1 a0 b1 b0 ≤ B - 1 := Nat.min_le_left _ _
 omega
theorem guess_iff {q r b1 b0 T a0 b : Nat} (h : q * b1 + r = T) : q * b0 ≤ r * b + a0 ↔ q * (b1 * b + b0) ≤ T * b + a0 := by
 subst h
 have e : q * (b1 * b + b0) = q * b1 * b + q * b0 := by grind
 have e2 : (q * b1 + r) * b + a0 = q * b1 * b + (r * b + a0) := by grind
 rw [e, e2]
 omega
/-- While it is mended: not too small, and the rest fits. -/
def GuessAt (a2 a1 a0 b1 b0 q r : Nat) : Prop := q < B ∧ r < B ∧ q * b1 + r = a2 * B + a1 ∧ guessN a2 a1 a0 b1 b0 ≤ q
theorem le_guess {a2 a1 a0 b1 b0 q : Nat} (hb : 0 < b1) (hq : q < B) (h : q * (b1 * B + b0) ≤ (a2 * B + a1) * B + a0) : q ≤ guessN a2 a1 a0 b1 b0 := by
 have h2 : 0 < b1 * B := Nat.mul_pos hb B_pos
 refine Nat.le_min.2 ⟨by omega, (Nat.le_div_iff_mul_le (by omega)).2 h⟩
theorem guess_mul_le {a2 a1 a0 b1 b0 : Nat} : guessN a2 a1 a0 b1 b0 * (b1 * B + b0) ≤ (a2 * B + a1) * B + a0 :=
 Nat.le_trans (Nat.mul_le_mul_right _ (Nat.min_le_right _ _)) (Nat.div_mul_le_self _ _)
theorem guess_start {a2 a1 a0 b1 b0 : Nat} (h : a2 < b1) (ha1 : a1 < B) (hb1 : b1 < B) (ha0 : a0 < B) : GuessAt a2 a1 a0 b1 b0 (divQ a2 a1 b1) (divR a2 a1 b1) := by
 have e := div_eq a2 a1 b1
 have hr : divR a2 a1 b1 < b1 := divR_lt (by omega)
 refine ⟨divQ_lt ha1 h, by omega, e, ?_⟩
 have h1 := @guess_mul_le a2 a1 a0 b1 b0
 generalize guessN a2 a1 a0 b1 b0 = g at *
 rcases Nat.lt_or_ge (divQ a2 a1 b1) g with hg | hg
 · exfalso
   have h2 : (divQ a2 a1 b1 + 1) * (b1 * B) ≤ g * (b1 * B + b0) := Nat.mul_le_mul hg (by omega)
   have h3 : (divQ a2 a1 b1 + 1) * (b1 * B) = (divQ a2 a1 b1 * b1 + b1) * B := by grind
   have h4 : (a2 * B + a1 + 1) * B ≤ (divQ a2 a1 b1 * b1 + b1) * B := Nat.mul_le_mul_right _ (by omega)
   rw [Nat.add_mul (a2 * B + a1) 1 B, Nat.one_mul] at h4
   omega
 · exact hg
theorem guess_start_top {a1 a0 b1 b0 : Nat} (hr : a1 + b1 < B) : GuessAt b1 a1 a0 b1 b0 (B - 1) (a1 + b1) := by
 have hB := B_pos
 refine ⟨by omega, hr, ?_, Nat.min_le_left _ _⟩
 have : (B - 1) * b1 + b1 = b1 * B := by rw [← Nat.succ_mul, Nat.succ_eq_add_one, Nat.sub_add_cancel hB, Nat.mul_comm]
 omega
theorem word_mul_lt {x y : Nat} (hx : x < B) (hy : y < B) : x * y < B * B := Nat.mul_lt_mul'' hx hy
theorem guess_over_top {a1 a0 b1 b0 : Nat} (hb : 0 < b1) (hb0 : b0 < B) (hr : B ≤ a1 + b1) : guessN b1 a1 a0 b1 b0 = B - 1 := by
 have hB := B_pos
 refine Nat.le_antisymm (Nat.min_le_left _ _) (le_guess hb (by omega) ?_)
 have e : (B - 1) * b1 + b1 = b1 * B := by rw [← Nat.succ_mul, Nat.succ_eq_add_one, Nat.sub_add_cancel hB, Nat.mul_comm]
 have e2 : (B - 1) * b1 + (a1 + b1) = b1 * B + a1 := by omega
 rw [← guess_iff e2]
 have h1 : (B - 1) * b0 < B * B := word_mul_lt (by omega) hb0
 have h2 : B * B ≤ (a1 + b1) * B := Nat.mul_le_mul_right _ hr
 omega
/-- It fits: it is the guess. -/
theorem guess_end {a2 a1 a0 b1 b0 q r : Nat} (hb : 0 < b1) (h : GuessAt a2 a1 a0 b1 b0 q r) (hle : q * b0 ≤ r * B + a0) : q = guessN a2 a1 a0 b1 b0 := by
 obtain ⟨h1, _, h3, h4⟩ := h
 exact Nat.le_antisymm (le_guess hb h1 ((guess_iff h3).1 hle)) h4
/-- It doesn't: one less. -/
theorem guess_less {a2 a1 a0 b1 b0 q r : Nat} (h : GuessAt a2 a1 a0 b1 b0 q r) (hgt : r * B + a0 < q * b0) :
 1 ≤ q ∧ q - 1 < B ∧ (q - 1) * b1 + (r + b1) = a2 * B + a1 ∧ guessN a2 a1 a0 b1 b0 ≤ q - 1 := by
 obtain ⟨h1, h2, h3, h4⟩ := h
 have h5 : 1 ≤ q := by
  rcases Nat.eq_zero_or_pos q with h0 | h0
  · subst h0; omega
  · exact h0
 refine ⟨h5, by omega, ?_, ?_⟩
 · have : (q - 1) * b1 + b1 = q * b1 := by rw [← Nat.succ_mul, Nat.succ_eq_add_one, Nat.sub_add_cancel h5]
   omega
 · have h6 : ¬ q * (b1 * B + b0) ≤ (a2 * B + a1) * B + a0 := fun h => by
    have := (guess_iff h3).2 h
    omega
   have h7 := @guess_mul_le a2 a1 a0 b1 b0
   rcases Nat.lt_or_ge (guessN a2 a1 a0 b1 b0) q with hg | hg
   · omega
   · exact absurd (Nat.le_trans (Nat.mul_le_mul_right _ hg) h7) h6
theorem guess_step {a2 a1 a0 b1 b0 q r : Nat} (h : GuessAt a2 a1 a0 b1 b0 q r) (hgt : r * B + a0 < q * b0) (hr : r + b1 < B) : GuessAt a2 a1 a0 b1 b0 (q - 1) (r + b1) := by
 obtain ⟨h1, h2, h3, h4⟩ := guess_less h hgt
 exact ⟨h2, hr, h3, h4⟩
theorem guess_over {a2 a1 a0 b1 b0 q r : Nat} (hb : 0 < b1) (hb0 : b0 < B) (h : GuessAt a2 a1 a0 b1 b0 q r) (hgt : r * B + a0 < q * b0) (hr : B ≤ r + b1) : q - 1 = guessN a2 a1 a0 b1 b0 := by
 obtain ⟨h1, h2, h3, h4⟩ := guess_less h hgt
 refine Nat.le_antisymm (le_guess hb h2 ((guess_iff h3).1 ?_)) h4
 have h5 : (q - 1) * b0 < B * B := word_mul_lt h2 hb0
 have h6 : B * B ≤ (r + b1) * B := Nat.mul_le_mul_right _ hr
 omega
/-- Which of two words and two is the greater one, the high ones first. -/
theorem two_le {hi lo r a0 m : Nat} (hm : lo + B * hi = m) (hlo : lo < B) (ha : a0 < B) : m ≤ r * B + a0 ↔ hi < r ∨ hi = r ∧ lo ≤ a0 := by
 subst hm
 rw [Nat.mul_comm B hi]
 rcases Nat.lt_trichotomy hi r with h | h | h
 · have : (hi + 1) * B ≤ r * B := Nat.mul_le_mul_right _ h
   rw [Nat.add_mul, Nat.one_mul] at this
   exact ⟨fun _ => .inl h, fun _ => by omega⟩
 · subst h
   exact ⟨fun h => .inr ⟨rfl, by omega⟩, fun h => by omega⟩
 · have : (r + 1) * B ≤ hi * B := Nat.mul_le_mul_right _ h
   rw [Nat.add_mul, Nat.one_mul] at this
   exact ⟨fun h => by omega, fun h => by omega⟩
/-- How near the guess is: the quotient, or one more. -/
theorem guess_near {U V P b2 bl A3 ul b g : Nat} (hb : 0 < b) (hU : U < b * V) (hV : V = b2 * P + bl) (hbl : bl < P) (hA : U = A3 * P + ul) (hul : ul < P) (hb2 : b ≤ b2) (hg : g = min (b - 1) (A3 / b2)) :
 U / V ≤ g ∧ g ≤ U / V + 1 := by
 have hVpos : 0 < V := by
  rcases Nat.eq_zero_or_pos V with h | h
  · rw [h] at hU; omega
  · exact h
 have hq1 : U / V < b := Nat.div_lt_of_lt_mul (by rw [Nat.mul_comm]; exact hU)
 subst hg
 constructor
 · refine Nat.le_min.2 ⟨by omega, (Nat.le_div_iff_mul_le (by omega)).2 ?_⟩
   have h1 : U / V * V ≤ U := Nat.div_mul_le_self _ _
   generalize U / V = q at *
   have h2 : q * (b2 * P) ≤ q * V := Nat.mul_le_mul_left _ (by omega)
   have h3 : (q * b2) * P < (A3 + 1) * P := by
    rw [Nat.add_mul, Nat.one_mul, Nat.mul_assoc]
    omega
   have := Nat.lt_of_mul_lt_mul_right h3
   omega
 · have h0 : min (b - 1) (A3 / b2) ≤ b - 1 := Nat.min_le_left _ _
   have h1 : min (b - 1) (A3 / b2) * b2 ≤ A3 := Nat.le_trans (Nat.mul_le_mul_right _ (Nat.min_le_right _ _)) (Nat.div_mul_le_self _ _)
   generalize min (b - 1) (A3 / b2) = g at *
   have h2 : g * V = g * b2 * P + g * bl := by rw [hV, Nat.mul_add, Nat.mul_assoc]
   have h3 : g * b2 * P ≤ A3 * P := Nat.mul_le_mul_right _ h1
   have h4 : g * bl ≤ b * P := Nat.mul_le_mul (by omega) (by omega)
   have h5 : b * P ≤ b2 * P := Nat.mul_le_mul_right _ hb2
   have h6 : g * V ≤ U + V := by omega
   rcases Nat.eq_zero_or_pos g with hg0 | hg0
   · rw [hg0]; exact Nat.zero_le _
   · have h7 : (g - 1) * V ≤ U := by
      have : (g - 1) * V + V = g * V := by rw [← Nat.succ_mul, Nat.succ_eq_add_one, Nat.sub_add_cancel hg0]
      omega
     have := (Nat.le_div_iff_mul_le hVpos).2 h7
     generalize U / V = q at *
     omega
/-- So many times another list is taken away, from a place on: i words are done. -/
def TakeAt (b o p : List Nat) (x k i cy bo : Nat) : Prop :=
 cy < B ∧ bo ≤ 1 ∧ p.length = o.length ∧ p.drop (k + i) = o.drop (k + i) ∧ val (p.take (k + i)) + B ^ k * (x * val (b.take i)) = val (o.take (k + i)) + B ^ (k + i) * (cy + bo)
theorem takeAt_zero (b o : List Nat) (x k : Nat) : TakeAt b o o x k 0 0 0 := ⟨B_pos, by omega, rfl, rfl, by simp [val]⟩
theorem take_aux {P b d z m cy bo h bo' l u K t : Nat} (h1 : l + b * h = m + cy) (h2 : d + l + bo = z + b * bo') (hv : u + K = t + P * (cy + bo)) : u + P * d + (K + P * m) = t + P * z + P * b * (h + bo') := by
 have e1 : P * (d + m + cy + bo) = P * (z + b * (h + bo')) := by
  congr 1
  rw [Nat.mul_add]
  omega
 have e2 : P * (d + m + cy + bo) = P * d + P * m + P * (cy + bo) := by grind
 have e3 : P * (z + b * (h + bo')) = P * z + P * b * (h + bo') := by grind
 omega
theorem drop_set_next {p o : List Nat} {j : Nat} (x : Nat) (h : p.drop j = o.drop j) : (p.set j x).drop (j + 1) = o.drop (j + 1) := by
 rw [List.drop_set_of_lt (by omega), ← List.drop_drop, h, List.drop_drop]
theorem pow_split3 (k i x y : Nat) : B ^ k * (x * (B ^ i * y)) = B ^ (k + i) * (x * y) := by
 rw [Nat.pow_add]; ac_rfl
theorem takeAt_step {b o p : List Nat} {x k i cy bo : Nat} (hk : k + i < o.length) (hx : x < B) (hy : b.getD i 0 < B) (h : TakeAt b o p x k i cy bo) :
 TakeAt b o (p.set (k + i) (subD (p.getD (k + i) 0) (mulL x (b.getD i 0) cy 0) bo)) x k (i + 1) (mulH x (b.getD i 0) cy 0) (subB (p.getD (k + i) 0) (mulL x (b.getD i 0) cy 0) bo) := by
 obtain ⟨h1, h2, h3, h4, h5⟩ := h
 refine ⟨mulH_lt hx hy h1 B_pos, subB_le (mulL_lt _ _ _ _) h2, by rw [List.length_set, h3], ?_, ?_⟩
 · rw [← Nat.add_assoc]; exact drop_set_next _ h4
 · rw [← Nat.add_assoc, val_take_set (by omega), val_take_succ o, val_take_succ b, ← getD_of_drop h4, Nat.mul_add x, Nat.mul_add (B ^ k), pow_split3, Nat.pow_succ]
   exact take_aux (mul_eq _ _ _ _) (sub_eq _ _ _) h5
theorem take_end_aux {P b d z cy bo bo' u K t v : Nat} (h2 : d + cy + bo = z + b * bo') (hv : u + K = t + P * (cy + bo)) : u + P * d + P * b * v + K = t + P * z + P * b * v + P * b * bo' := by
 have e1 : P * (d + cy + bo) = P * (z + b * bo') := by rw [h2]
 have e2 : P * (d + cy + bo) = P * d + P * (cy + bo) := by grind
 have e3 : P * (z + b * bo') = P * z + P * b * bo' := by grind
 omega
theorem takeAt_end {b o p : List Nat} {x k cy bo : Nat} (hk : k + b.length < o.length) (h : TakeAt b o p x k b.length cy bo) :
 val (p.set (k + b.length) (subD (p.getD (k + b.length) 0) cy bo)) + B ^ k * (x * val b) = val o + B ^ (k + b.length + 1) * subB (p.getD (k + b.length) 0) cy bo
 ∧ (p.set (k + b.length) (subD (p.getD (k + b.length) 0) cy bo)).drop (k + b.length + 1) = o.drop (k + b.length + 1)
 ∧ (p.set (k + b.length) (subD (p.getD (k + b.length) 0) cy bo)).length = o.length ∧ subB (p.getD (k + b.length) 0) cy bo ≤ 1 := by
 obtain ⟨h1, h2, h3, h4, h5⟩ := h
 have hd := drop_set_next (subD (p.getD (k + b.length) 0) cy bo) h4
 refine ⟨?_, hd, by rw [List.length_set, h3], subB_le h1 h2⟩
 rw [val_take_drop (p.set (k + b.length) _) (k + b.length + 1), val_take_drop o (k + b.length + 1), hd, val_take_set (by omega), val_take_succ o, ← getD_of_drop h4, Nat.pow_succ]
 rw [List.take_length] at h5
 exact take_end_aux (sub_eq _ _ _) h5
/-- It is given back: i words are done. -/
def GiveAt (b o p : List Nat) (k i c : Nat) : Prop :=
 c ≤ 1 ∧ p.length = o.length ∧ p.drop (k + i) = o.drop (k + i) ∧ val (p.take (k + i)) + B ^ (k + i) * c = val (o.take (k + i)) + B ^ k * val (b.take i)
theorem giveAt_zero (b o : List Nat) (k : Nat) : GiveAt b o o k 0 0 := ⟨by omega, rfl, rfl, by simp [val]⟩
theorem give_aux {P b s k z y c u t K : Nat} (h : s + b * k = z + y + c) (hv : u + P * c = t + K) : u + P * s + P * b * k = t + P * z + (K + P * y) := by
 have e1 : P * (s + b * k) = P * (z + y + c) := by rw [h]
 have e2 : P * (s + b * k) = P * s + P * b * k := by grind
 have e3 : P * (z + y + c) = P * z + P * y + P * c := by grind
 omega
theorem pow_split2 (k i y : Nat) : B ^ k * (B ^ i * y) = B ^ (k + i) * y := by rw [Nat.pow_add]; ac_rfl
theorem giveAt_step {b o p : List Nat} {k i c : Nat} (hk : k + i < o.length) (hp : Ok p) (hy : b.getD i 0 < B) (h : GiveAt b o p k i c) :
 GiveAt b o (p.set (k + i) (addS (p.getD (k + i) 0) (b.getD i 0) c)) k (i + 1) (addC (p.getD (k + i) 0) (b.getD i 0) c) := by
 obtain ⟨h1, h2, h3, h4⟩ := h
 refine ⟨addC_le (ok_getD hp _) hy h1, by rw [List.length_set, h2], ?_, ?_⟩
 · rw [← Nat.add_assoc]; exact drop_set_next _ h3
 · rw [← Nat.add_assoc, val_take_set (by omega), val_take_succ o, val_take_succ b, ← getD_of_drop h3, Nat.mul_add (B ^ k), pow_split2, Nat.pow_succ]
   exact give_aux (add_eq _ _ _) h4
theorem give_end_aux {P b s k z c u t K v : Nat} (h : s + b * k = z + c) (hv : u + P * c = t + K) : u + P * s + P * b * v + P * b * k = t + P * z + P * b * v + K := by
 have e1 : P * (s + b * k) = P * (z + c) := by rw [h]
 have e2 : P * (s + b * k) = P * s + P * b * k := by grind
 have e3 : P * (z + c) = P * z + P * c := by grind
 omega
theorem giveAt_end {b o p : List Nat} {k c : Nat} (hk : k + b.length < o.length) (hp : Ok p) (h : GiveAt b o p k b.length c) :
 val (p.set (k + b.length) ((p.getD (k + b.length) 0 + c) % B)) + B ^ (k + b.length + 1) * ((p.getD (k + b.length) 0 + c) / B) = val o + B ^ k * val b
 ∧ (p.set (k + b.length) ((p.getD (k + b.length) 0 + c) % B)).drop (k + b.length + 1) = o.drop (k + b.length + 1)
 ∧ (p.set (k + b.length) ((p.getD (k + b.length) 0 + c) % B)).length = o.length ∧ (p.getD (k + b.length) 0 + c) / B ≤ 1 := by
 obtain ⟨h1, h2, h3, h4⟩ := h
 have hd := drop_set_next ((p.getD (k + b.length) 0 + c) % B) h3
 have hz := ok_getD hp (k + b.length)
 refine ⟨?_, hd, by rw [List.length_set, h2], ?_⟩
 · rw [val_take_drop (p.set (k + b.length) _) (k + b.length + 1), val_take_drop o (k + b.length + 1), hd, val_take_set (by omega), val_take_succ o, ← getD_of_drop h3, Nat.pow_succ]
   rw [List.take_length] at h4
   exact give_end_aux (Nat.mod_add_div _ _) h4
 · have h2 := B_two_le
   have : (p.getD (k + b.length) 0 + c) / B < 2 := Nat.div_lt_of_lt_mul (by omega)
   omega
/-- Long division: the places from j on are done, o is what is left. -/
def LongAt (a b o q : List Nat) (j : Nat) : Prop := val a = val (q.drop j) * (B ^ j * val b) + val o ∧ val o < B ^ j * val b
theorem longAt_zero {a b : List Nat} {m : Nat} (h : val a < B ^ m * val b) : LongAt a b a (List.replicate m 0) m :=
 ⟨by rw [List.drop_replicate, Nat.sub_self]; simp [val], h⟩
theorem long_aux {Q P b V p x : Nat} : Q * (P * b * V) + (p + P * (x * V)) = (x + b * Q) * (P * V) + p := by grind
theorem longAt_step {a b o p q : List Nat} {i x : Nat} (hi : i < q.length) (h : LongAt a b o q (i + 1)) (h1 : val p + B ^ i * (x * val b) = val o) (h2 : val p < B ^ i * val b) : LongAt a b p (q.set i x) i := by
 refine ⟨?_, h2⟩
 rw [h.1, val_drop_set hi, ← h1, Nat.pow_succ]
 exact long_aux
theorem longAt_end {a b o q : List Nat} (h : LongAt a b o q 0) : val q = val a / val b ∧ val o = val a % val b := by
 obtain ⟨h1, h2⟩ := h
 rw [List.drop_zero, Nat.pow_zero, Nat.one_mul] at h1
 rw [Nat.pow_zero, Nat.one_mul] at h2
 exact div_of h1 h2
/-- What the three highest words of what is left tell. -/
theorem long_guess {a b o q : List Nat} {i n : Nat} (hob : Ok o) (hb : Ok b) (hn : b.length = n + 2) (hio : i + (n + 2) < o.length) (htop : b.getD (n + 1) 0 ≠ 0) (h : LongAt a b o q (i + 1)) :
 val (o.drop (i + (n + 2) + 1)) = 0 ∧ o.getD (i + (n + 2)) 0 ≤ b.getD (n + 1) 0
 ∧ val o / B ^ i / val b ≤ guessN (o.getD (i + (n + 2)) 0) (o.getD (i + (n + 1)) 0) (o.getD (i + n) 0) (b.getD (n + 1) 0) (b.getD n 0)
 ∧ guessN (o.getD (i + (n + 2)) 0) (o.getD (i + (n + 1)) 0) (o.getD (i + n) 0) (b.getD (n + 1) 0) (b.getD n 0) ≤ val o / B ^ i / val b + 1 := by
 have hU0 : val o / B ^ i = val (o.drop i) := val_div o hob i
 have hU : val (o.drop i) < B * val b := by
  rw [← hU0]
  refine Nat.div_lt_of_lt_mul ?_
  have := h.2
  rw [Nat.pow_succ, Nat.mul_assoc] at this
  exact this
 have hbv := val_lt hb
 rw [hn] at hbv
 have hz : val (o.drop (i + (n + 2) + 1)) = 0 := by
  have e : (o.drop i).drop (n + 3) = o.drop (i + (n + 2) + 1) := by rw [List.drop_drop, show i + (n + 3) = i + (n + 2) + 1 from by omega]
  rw [← e, ← val_div _ (ok_drop hob i)]
  refine Nat.div_eq_of_lt (Nat.lt_of_lt_of_le hU ?_)
  rw [show n + 3 = (n + 2) + 1 from rfl, Nat.pow_succ, Nat.mul_comm (B ^ (n + 2))]
  exact Nat.mul_le_mul_left _ (Nat.le_of_lt hbv)
 have hU3 : val (o.drop i) = ((o.getD (i + (n + 2)) 0 * B + o.getD (i + (n + 1)) 0) * B + o.getD (i + n) 0) * B ^ n + val ((o.drop i).take n) := by
  rw [val_take_drop (o.drop i) n, List.drop_drop, val_drop o (i + n), val_drop o (i + n + 1), val_drop o (i + n + 1 + 1), show i + n + 1 + 1 = i + (n + 2) from by omega, show i + n + 1 = i + (n + 1) from by omega, hz]
  grind
 have hV2 : val b = (b.getD (n + 1) 0 * B + b.getD n 0) * B ^ n + val (b.take n) := by
  rw [val_take_drop b n, val_drop b n, val_drop b (n + 1), List.drop_eq_nil_of_le (show b.length ≤ n + 1 + 1 from by omega)]
  simp only [val]
  grind
 have h1 := val_take_lt (ok_drop hob i) n
 have h2 := val_take_lt hb n
 have hb2 : B ≤ b.getD (n + 1) 0 * B + b.getD n 0 := by
  have : 1 * B ≤ b.getD (n + 1) 0 * B := Nat.mul_le_mul_right _ (by omega)
  omega
 rw [hU0]
 refine ⟨hz, ?_, guess_near B_pos hU hV2 h2 hU3 h1 hb2 rfl⟩
 have hx1 := ok_getD hb n
 generalize o.getD (i + (n + 2)) 0 = a2 at *
 generalize o.getD (i + (n + 1)) 0 = a1 at *
 generalize o.getD (i + n) 0 = a0 at *
 generalize b.getD (n + 1) 0 = b1 at *
 generalize b.getD n 0 = b0 at *
 generalize val (o.drop i) = U at *
 generalize val b = V at *
 generalize val ((o.drop i).take n) = ul at *
 generalize val (b.take n) = bl at *
 rcases Nat.lt_or_ge b1 a2 with hlt | hge
 · exfalso
   have hP : 0 < B ^ n := Nat.pow_pos B_pos
   have h3 : (b1 + 1) * B * B * B ^ n ≤ a2 * B * B * B ^ n := Nat.mul_le_mul_right _ (Nat.mul_le_mul_right _ (Nat.mul_le_mul_right _ hlt))
   have h4 : a2 * B * B * B ^ n ≤ U := by
    rw [hU3]
    refine Nat.le_trans (Nat.mul_le_mul_right _ ?_) (Nat.le_add_right _ _)
    have : a2 * B * B ≤ (a2 * B + a1) * B := Nat.mul_le_mul_right _ (by omega)
    omega
   have h5 : V ≤ (b1 + 1) * B * B ^ n := by
    have h6 : (b1 * B + b0 + 1) * B ^ n ≤ (b1 + 1) * B * B ^ n := Nat.mul_le_mul_right _ (by rw [Nat.add_mul, Nat.one_mul]; omega)
    rw [Nat.add_mul (b1 * B + b0) 1, Nat.one_mul] at h6
    omega
   have h7 : B * V ≤ (b1 + 1) * B * B * B ^ n := by
    have := Nat.mul_le_mul_left B h5
    have e : B * ((b1 + 1) * B * B ^ n) = (b1 + 1) * B * B * B ^ n := by ac_rfl
    omega
   omega
 · exact hge
theorem long_rest {O P V q : Nat} (hP : 0 < P) (hV : 0 < V) (hq : q = O / P / V) : P * (q * V) ≤ O ∧ ∀ p, p + P * (q * V) = O → p < P * V := by
 have h1 : q * V ≤ O / P := by rw [hq]; exact Nat.div_mul_le_self _ _
 have h2 : O / P < (q + 1) * V := by
  rw [hq, Nat.mul_comm]
  exact Nat.lt_mul_div_succ _ hV
 have h3 : P * (q * V) ≤ O := by
  refine Nat.le_trans (Nat.mul_le_mul_left P h1) ?_
  rw [Nat.mul_comm]; exact Nat.div_mul_le_self _ _
 have h4 : O < P * ((q + 1) * V) := by
  have := Nat.lt_mul_div_succ O hP
  exact Nat.lt_of_lt_of_le this (Nat.mul_le_mul_left P h2)
 refine ⟨h3, fun p hp => ?_⟩
 rw [Nat.add_mul, Nat.one_mul, Nat.mul_add] at h4
 omega
/-- It was not too much. -/
theorem long_no {O P V x p : Nat} (hP : 0 < P) (hV : 0 < V) (hx : O / P / V ≤ x) (h : p + P * (x * V) = O) : p < P * V := by
 have h1 : x * V ≤ O / P := by
  rw [Nat.le_div_iff_mul_le hP, Nat.mul_comm]
  omega
 have h2 : x ≤ O / P / V := (Nat.le_div_iff_mul_le hV).2 h1
 exact (long_rest hP hV (Nat.le_antisymm h2 hx)).2 p h
/-- It was too much, by one. -/
theorem long_yes {O P V x p E p2 c : Nat} (hP : 0 < P) (hV : 0 < V) (hx : x ≤ O / P / V + 1) (h : p + P * (x * V) = O + E) (hp : p < E) (hc : c ≤ 1) (hg : p2 + E * c = p + P * V) (hp2 : p2 < E) :
 1 ≤ x ∧ p2 + P * ((x - 1) * V) = O ∧ p2 < P * V := by
 have h1 : O / P < x * V := by
  refine Nat.div_lt_of_lt_mul ?_
  omega
 have h2 : O / P / V < x := Nat.div_lt_of_lt_mul (by rw [Nat.mul_comm]; exact h1)
 obtain ⟨q, hq⟩ : ∃ q, q = O / P / V := ⟨_, rfl⟩
 obtain rfl : x = q + 1 := by omega
 obtain ⟨h3, h4⟩ := long_rest hP hV hq
 rw [Nat.add_mul, Nat.one_mul, Nat.mul_add] at h
 have h5 : p2 + P * (q * V) = O := by
  have hc2 : c = 0 ∨ c = 1 := by omega
  rcases hc2 with rfl | rfl
  · rw [Nat.mul_zero] at hg; omega
  · rw [Nat.mul_one] at hg; omega
 exact ⟨by omega, by simpa using h5, h4 _ h5⟩
theorem val_lt_of_drop {p : List Nat} (h : Ok p) {k : Nat} (hd : val (p.drop k) = 0) : val p < B ^ k := by
 rw [val_take_drop p k, hd, Nat.mul_zero, Nat.add_zero]
 exact val_take_lt h k
/-- What long asks of what it divides. -/
theorem left_lt {u b : List Nat} {n m : Nat} (hu : Ok u) (hn : b.length = n + 2) (htop : b.getD (n + 1) 0 ≠ 0) (hm : m + (n + 2) = u.length + 1) : val (u ++ [0]) < B ^ m * val b := by
 have h1 := val_lt hu
 rw [val_append]
 simp only [val, Nat.mul_zero, Nat.add_zero]
 refine Nat.lt_of_lt_of_le h1 ?_
 rw [show u.length = m + (n + 1) from by omega, Nat.pow_add]
 refine Nat.mul_le_mul_left _ ?_
 rw [val_take_drop b (n + 1), val_drop b (n + 1)]
 refine Nat.le_trans ?_ (Nat.le_add_left _ _)
 exact Nat.le_mul_of_pos_right _ (by omega)
/-- Twice as much, and one more, if so said: i words are done. -/
def DoubleAt (a p : List Nat) (m i c : Nat) : Prop :=
 c ≤ 1 ∧ p.length = a.length ∧ p.drop i = a.drop i ∧ val (p.take i) + B ^ i * c = 2 * val (a.take i) + m
theorem doubleAt_zero (a : List Nat) {m : Nat} (hm : m ≤ 1) : DoubleAt a a m 0 m := ⟨hm, rfl, rfl, by simp [val]⟩
theorem double_aux {P b s k x c u t m : Nat} (h : s + b * k = 2 * x + c) (hv : u + P * c = 2 * t + m) : u + P * s + P * b * k = 2 * (t + P * x) + m := by
 have e1 : P * (s + b * k) = P * (2 * x + c) := by rw [h]
 have e2 : P * (s + b * k) = P * s + P * b * k := by grind
 have e3 : P * (2 * x + c) = 2 * (P * x) + P * c := by grind
 omega
theorem double_word {x c : Nat} (hc : c ≤ 1) : (2 * x + c) % B + B * (x / 2147483648) = 2 * x + c := by
 rw [B_eq]
 omega
theorem doubleAt_step {a p : List Nat} {m i c : Nat} (hi : i < p.length) (hx : a.getD i 0 < B) (h : DoubleAt a p m i c) : DoubleAt a (p.set i ((2 * p.getD i 0 + c) % B)) m (i + 1) (p.getD i 0 / 2147483648) := by
 obtain ⟨h1, h2, h3, h4⟩ := h
 have hg := getD_of_drop h3
 refine ⟨?_, by rw [List.length_set, h2], drop_set_next _ h3, ?_⟩
 · rw [hg]; rw [B_eq] at hx; omega
 · rw [val_take_set hi, val_take_succ a, ← hg, Nat.pow_succ]
   exact double_aux (double_word h1) h4
theorem doubleAt_end {a p : List Nat} {m c : Nat} (h : DoubleAt a p m a.length c) (hlt : 2 * val a + m < B ^ a.length) : val p = 2 * val a + m := by
 obtain ⟨h1, h2, h3, h4⟩ := h
 rw [List.take_of_length_le (by omega), List.take_length] at h4
 have hc : c = 0 := by
  rcases Nat.eq_zero_or_pos c with h0 | h0
  · exact h0
  · have : B ^ a.length * 1 ≤ B ^ a.length * c := Nat.mul_le_mul_left _ h0
    omega
 subst hc
 omega
/-- A difference in place: i words are done. -/
def LessAt (a b p : List Nat) (i c : Nat) : Prop := p.length = a.length ∧ p.drop i = a.drop i ∧ SubAt a b p i c
theorem lessAt_zero (a b : List Nat) : LessAt a b a 0 0 := ⟨rfl, rfl, subAt_zero a b a⟩
theorem lessAt_step {a b p : List Nat} {i c : Nat} (hi : i < p.length) (hy : b.getD i 0 < B) (h : LessAt a b p i c) :
 LessAt a b (p.set i (subD (p.getD i 0) (b.getD i 0) c)) (i + 1) (subB (p.getD i 0) (b.getD i 0) c) := by
 obtain ⟨h1, h2, h3⟩ := h
 refine ⟨by rw [List.length_set, h1], drop_set_next _ h2, ?_⟩
 rw [getD_of_drop h2]
 exact subAt_step hi hy h3
theorem val_take_ge_len {b : List Nat} (hb : Ok b) {n : Nat} (h : val b < B ^ n) : val (b.take n) = val b := by
 have := val_mod b hb n
 rw [Nat.mod_eq_of_lt h] at this
 exact this.symm
theorem lessAt_end {a b p : List Nat} {c : Nat} (ha : Ok a) (hb : Ok b) (hp : Ok p) (hle : val b ≤ val a) (h : LessAt a b p a.length c) : val p = val a - val b := by
 obtain ⟨h1, _, h2, h3⟩ := h
 have hbl : val b < B ^ a.length := Nat.lt_of_le_of_lt hle (val_lt ha)
 rw [List.take_of_length_le (by omega), List.take_length, val_take_ge_len hb hbl] at h3
 have h4 := val_lt hp
 rw [h1] at h4
 have hc : c = 0 := by
  rcases Nat.eq_zero_or_pos c with h0 | h0
  · exact h0
  · have : B ^ a.length * 1 ≤ B ^ a.length * c := Nat.mul_le_mul_left _ h0
    omega
 subst hc
 omega
/-- Bit by bit: what i bits more make of quotient and rest. -/
theorem bit_div (N V i : Nat) (hV : 0 < V) : N / 2 ^ i = 2 * (N / 2 ^ (i + 1)) + N / 2 ^ i % 2 := by
 rw [Nat.pow_succ, ← Nat.div_div_eq_div_mul]
 omega
theorem bit_yes {M V t : Nat} (hV : 0 < V) (h : V ≤ 2 * (M % V) + t) (ht : t ≤ 1) : (2 * M + t) / V = 2 * (M / V) + 1 ∧ (2 * M + t) % V = 2 * (M % V) + t - V := by
 have e := Nat.div_add_mod M V
 have hr := Nat.mod_lt M hV
 generalize M / V = q at *
 generalize M % V = r at *
 have e2 : 2 * M + t = (2 * q + 1) * V + (2 * r + t - V) := by
  have : (2 * q + 1) * V = 2 * (V * q) + V := by grind
  omega
 have := div_of e2 (by omega)
 exact ⟨this.1.symm, this.2.symm⟩
theorem bit_no {M V t : Nat} (hV : 0 < V) (h : 2 * (M % V) + t < V) : (2 * M + t) / V = 2 * (M / V) ∧ (2 * M + t) % V = 2 * (M % V) + t := by
 have e := Nat.div_add_mod M V
 generalize M / V = q at *
 generalize M % V = r at *
 have e2 : 2 * M + t = (2 * q) * V + (2 * r + t) := by
  have : (2 * q) * V = 2 * (V * q) := by grind
  omega
 have := div_of e2 h
 exact ⟨this.1.symm, this.2.symm⟩
end Wd
namespace Wd
/-- One step by what is left. -/
theorem gcd_rest (a b : Nat) : Nat.gcd b (a % b) = Nat.gcd a b := by
 rw [Nat.gcd_comm a b, Nat.gcd_comm b (a % b), ← Nat.gcd_rec]
theorem gcd_len {a b n : Nat} (ha : (words a).length ≤ n) (hb : (words b).length ≤ n) : (words (Nat.gcd a b)).length ≤ n := by
 rcases Nat.eq_zero_or_pos b with h | h
 · subst h; rw [Nat.gcd_zero_right]; exact ha
 · exact Nat.le_trans (words_mono (Nat.gcd_le_right a h)) hb
/-- A number without the noughts at its end. -/
def oddN (n : Nat) : Nat := n / 2 ^ tz n
theorem oddN_mul (n : Nat) : 2 ^ tz n * oddN n = n := Nat.mul_div_cancel' (tz_dvd n)
theorem oddN_odd {n : Nat} (h : n ≠ 0) : oddN n % 2 = 1 := tz_odd_rest h
theorem oddN_le (n : Nat) : oddN n ≤ n := Nat.div_le_self _ _
theorem odd_coprime_two {x : Nat} (h : x % 2 = 1) (k : Nat) : Nat.Coprime x (2 ^ k) := by
 refine Nat.Coprime.pow_right k ?_
 show Nat.gcd x 2 = 1
 rw [Nat.gcd_comm, Nat.gcd_rec, h, Nat.gcd_one_left]
theorem gcd_two_right {x : Nat} (h : x % 2 = 1) (k y : Nat) : Nat.gcd x (2 ^ k * y) = Nat.gcd x y :=
 Nat.Coprime.gcd_mul_left_cancel_right y (odd_coprime_two h k).symm
theorem gcd_odd {x y m n : Nat} (hx : x % 2 = 1) (hy : y % 2 = 1) : Nat.gcd (2 ^ m * x) (2 ^ n * y) = Nat.gcd x y * 2 ^ min m n := by
 rcases Nat.le_total m n with h | h
 · obtain ⟨d, rfl⟩ := Nat.exists_eq_add_of_le h
   rw [Nat.min_eq_left h, Nat.pow_add, Nat.mul_assoc, Nat.gcd_mul_left, gcd_two_right hx, Nat.mul_comm]
 · obtain ⟨d, rfl⟩ := Nat.exists_eq_add_of_le h
   rw [Nat.min_eq_right h, Nat.pow_add, Nat.mul_assoc, Nat.gcd_mul_left, Nat.gcd_comm _ y, gcd_two_right hy, Nat.gcd_comm y x, Nat.mul_comm]
/-- The common divisor, by halves. -/
theorem gcd_halves {a b : Nat} (ha : a ≠ 0) (hb : b ≠ 0) : Nat.gcd a b = Nat.gcd (oddN a) (oddN b) * 2 ^ min (tz a) (tz b) := by
 have e := gcd_odd (m := tz a) (n := tz b) (oddN_odd ha) (oddN_odd hb)
 rw [oddN_mul, oddN_mul] at e
 exact e
/-- One step by halves. -/
theorem gcd_less {x y : Nat} (hy : y % 2 = 1) (h : y < x) : Nat.gcd (oddN (x - y)) y = Nat.gcd x y := by
 have h1 : Nat.gcd (x - y) y = Nat.gcd x y := Nat.gcd_sub_self_left (Nat.le_of_lt h)
 have h2 : Nat.gcd y (2 ^ tz (x - y) * oddN (x - y)) = Nat.gcd y (oddN (x - y)) := gcd_two_right hy _ _
 rw [oddN_mul] at h2
 rw [Nat.gcd_comm, ← h2, Nat.gcd_comm, h1]
theorem gcd_eq_zero {a b : Nat} : Nat.gcd a b = 0 ↔ a = 0 ∧ b = 0 := Nat.gcd_eq_zero_iff
theorem div_gcd_left (a b : Nat) : Nat.gcd a b * (a / Nat.gcd a b) = a := Nat.mul_div_cancel' (Nat.gcd_dvd_left a b)
end Wd
namespace Wd
/-- A whole number: below 0 or not, and how far from it. -/
def iv (s : Bool) (n : Nat) : Int := if s then -(n : Int) else (n : Int)
/-- Below 0? -/
def ngb (z : Int) : Bool := decide (z < 0)
theorem iv_abs (s : Bool) (n : Nat) : (iv s n).natAbs = n := by cases s <;> simp [iv]
theorem iv_ngb (z : Int) : iv (ngb z) z.natAbs = z := by
 unfold iv ngb
 by_cases h : z < 0
 · rw [decide_eq_true h]; simp; omega
 · rw [decide_eq_false h]; simp; omega
theorem iv_ne (s : Bool) {n : Nat} (h : n ≠ 0) : ngb (iv s n) = s := by
 unfold iv ngb
 cases s
 · exact decide_eq_false (by simp)
 · exact decide_eq_true (by simp; omega)
theorem iv_zero (s : Bool) : iv s 0 = 0 := by cases s <;> rfl
theorem ngb_iv (s : Bool) (n : Nat) : ngb (iv s n) = (s && decide (0 < n)) := by
 by_cases h : n = 0
 · subst h; rw [iv_zero]; simp [ngb]
 · rw [iv_ne s h, decide_eq_true (by omega), Bool.and_true]
theorem ngb_words (s : Bool) (n : Nat) : ngb (iv s n) = (s && decide (0 < (words n).length)) := by
 rw [ngb_iv]
 congr 1
 have := @words_length_zero n
 simp only [decide_eq_decide]
 omega
theorem iv_eq_zero {s : Bool} {n : Nat} : iv s n = 0 ↔ n = 0 := by cases s <;> simp [iv]
theorem iv_false (n : Nat) : iv false n = (n : Int) := rfl
theorem iv_true (n : Nat) : iv true n = -(n : Int) := rfl
theorem iv_not (s : Bool) (n : Nat) : iv (!s) n = -iv s n := by cases s <;> simp [iv]
theorem iv_mul (s t : Bool) (m n : Nat) : iv (s != t) (m * n) = iv s m * iv t n := by
 cases s <;> cases t <;> simp [iv, Int.natCast_mul, Int.mul_neg, Int.neg_mul]
theorem iv_add (s : Bool) (m n : Nat) : iv s (m + n) = iv s m + iv s n := by cases s <;> simp [iv]; omega
/-- Sums of signs that are not alike. -/
theorem iv_gap (s t : Bool) (m n : Nat) (h : (s == t) = false) : iv (if m < n then t else s) (gapN m n) = iv s m + iv t n := by
 unfold gapN
 by_cases hlt : m < n
 · rw [if_pos hlt, if_pos hlt]
   cases s <;> cases t <;> simp [iv] at h ⊢ <;> omega
 · rw [if_neg hlt, if_neg hlt]
   cases s <;> cases t <;> simp [iv] at h ⊢ <;> omega
/-- The sign of a whole number, as the machine tells it. -/
def sgn (z : Int) : Int := if z < 0 then -1 else if 0 < z then 1 else 0
theorem sgn_neg {z : Int} (h : z < 0) : sgn z = -1 := if_pos h
theorem sgn_pos {z : Int} (h : 0 < z) : sgn z = 1 := by unfold sgn; rw [if_neg (by omega), if_pos h]
theorem sgn_cases (z : Int) : z < 0 ∧ sgn z = -1 ∨ z = 0 ∧ sgn z = 0 ∨ 0 < z ∧ sgn z = 1 := by
 rcases Int.lt_trichotomy z 0 with h | h | h
 · exact .inl ⟨h, sgn_neg h⟩
 · exact .inr (.inl ⟨h, by rw [h]; rfl⟩)
 · exact .inr (.inr ⟨h, sgn_pos h⟩)
theorem sgn_mul (x y : Int) : sgn (x * y) = sgn x * sgn y := by
 rcases sgn_cases x with ⟨h, e⟩ | ⟨h, e⟩ | ⟨h, e⟩ <;> rcases sgn_cases y with ⟨k, f⟩ | ⟨k, f⟩ | ⟨k, f⟩ <;> rw [e, f]
 · exact sgn_pos (Int.mul_pos_of_neg_of_neg h k)
 · subst k; simp [sgn]
 · exact sgn_neg (Int.mul_neg_of_neg_of_pos h k)
 · subst h; simp [sgn]
 · subst h; simp [sgn]
 · subst h; simp [sgn]
 · exact sgn_neg (Int.mul_neg_of_pos_of_neg h k)
 · subst k; simp [sgn]
 · exact sgn_pos (Int.mul_pos h k)
theorem words_64 {n : Nat} (h : n < 18446744073709551616) : (words n).length ≤ 2 := by
 rw [words_length_le_iff, B_eq]; exact h
/-- A whole number of so many words. -/
def Lz (z : Int) (k : Nat) : Prop := (words z.natAbs).length ≤ k
theorem Lz.mono {z : Int} {j k : Nat} (h : Lz z j) (hk : j ≤ k) : Lz z k := Nat.le_trans h hk
theorem Lz.neg {z : Int} {k : Nat} (h : Lz z k) : Lz (-z) k := by unfold Lz; rw [Int.natAbs_neg]; exact h
theorem Lz.mul {x y : Int} {j k : Nat} (h : Lz x j) (h' : Lz y k) : Lz (x * y) (j + k) := by unfold Lz; rw [Int.natAbs_mul]; exact words_mul_le h h'
theorem words_add_le1 {a b m : Nat} (ha : (words a).length ≤ m) (hb : (words b).length ≤ m) : (words (a + b)).length ≤ m + 1 := by
 rw [words_length_le_iff] at *
 rw [Nat.pow_succ]
 have := Nat.mul_le_mul_left (B ^ m) B_two_le
 omega
theorem Lz.add {x y : Int} {j k : Nat} (h : Lz x j) (h' : Lz y k) : Lz (x + y) (max j k + 1) :=
 Nat.le_trans (words_mono (Int.natAbs_add_le x y)) (words_add_le1 (Nat.le_trans h (Nat.le_max_left _ _)) (Nat.le_trans h' (Nat.le_max_right _ _)))
theorem Lz.iv {s : Bool} {n k : Nat} (h : (words n).length ≤ k) : Lz (iv s n) k := by unfold Lz; rw [iv_abs]; exact h
/-- A fraction of so many words in each number. -/
def Lq (q : Rat) (k : Nat) : Prop := Lz q.num k ∧ (words q.den).length ≤ k
theorem Lq.mono {q : Rat} {j k : Nat} (h : Lq q j) (hk : j ≤ k) : Lq q k := ⟨h.1.mono hk, Nat.le_trans h.2 hk⟩
theorem Lq.pos {q : Rat} {k : Nat} (h : Lq q k) : 1 ≤ k := by
 have h1 := h.2
 have : (words q.den).length ≠ 0 := fun e => q.den_nz (words_length_zero.1 e)
 omega
theorem Lq.mk {n : Int} {d k : Nat} (h : Lz n k) (h' : (words d).length ≤ k) (hk : 1 ≤ k) : Lq (mkRat n d) k := by
 refine ⟨?_, ?_⟩
 · unfold Lz
   rw [Rat.num_mkRat]
   split
   · simp [words_zero]
   · refine Nat.le_trans (words_mono ?_) h
     rw [Int.natAbs_ediv_of_dvd (by rw [← Int.dvd_natAbs, Int.ofNat_dvd]; exact Nat.gcd_dvd_right d n.natAbs), Int.natAbs_natCast]
     exact Nat.div_le_self _ _
 · rw [Rat.den_mkRat]
   split
   · exact Nat.le_trans words_one_len hk
   · exact Nat.le_trans (words_mono (Nat.div_le_self _ _)) h'
theorem Lq.add {a b : Rat} {j k : Nat} (h : Lq a j) (h' : Lq b k) : Lq (a + b) (j + k + 1) := by
 rw [Rat.add_def']
 refine Lq.mk (((h.1.mul (y := (b.den : Int)) h'.2).add (h'.1.mul (y := (a.den : Int)) h.2)).mono (by have := Nat.max_le.2 ⟨Nat.le_refl (j + k), Nat.le_of_eq (Nat.add_comm k j)⟩; omega)) (Nat.le_trans (words_mul_le h.2 h'.2) (by omega)) (by omega)
theorem Lq.mul {a b : Rat} {j k : Nat} (h : Lq a j) (h' : Lq b k) : Lq (a * b) (j + k) := by
 rw [Rat.mul_def']
 exact Lq.mk (h.1.mul h'.1) (words_mul_le h.2 h'.2) (by have := h.pos; omega)
theorem Lq.neg {a : Rat} {j : Nat} (h : Lq a j) : Lq (-a) j := ⟨h.1.neg, h.2⟩
theorem Lq.sub {a b : Rat} {j k : Nat} (h : Lq a j) (h' : Lq b k) : Lq (a - b) (j + k + 1) := by rw [Rat.sub_eq_add_neg]; exact h.add h'.neg
theorem Lq.inv {a : Rat} {j : Nat} (h : Lq a j) : Lq a⁻¹ j := by
 by_cases h0 : a.num = 0
 · have e := Rat.num_eq_zero.1 h0
   subst e
   rw [Rat.inv_zero]
   exact h
 · refine ⟨?_, ?_⟩
   · unfold Lz
     rw [Rat.num_inv, Int.natAbs_mul, Int.natAbs_sign_of_ne_zero h0, Nat.one_mul, Int.natAbs_natCast]
     exact h.2
   · rw [Rat.den_inv, if_neg h0]
     exact h.1
theorem Lq.div {a b : Rat} {j k : Nat} (h : Lq a j) (h' : Lq b k) : Lq (a / b) (j + k) := by rw [Rat.div_def]; exact h.mul h'.inv
theorem Lq.int {z : Int} {k : Nat} (h : Lz z k) (hk : 1 ≤ k) : Lq (z : Rat) k := ⟨h, Nat.le_trans words_one_len hk⟩
theorem Lq.pow {a : Rat} {j : Nat} (h : Lq a j) (n : Nat) : Lq (a ^ n) (j * n + 1) := by
 induction n with
 | zero => rw [Rat.pow_zero]; exact ⟨by unfold Lz; exact Nat.le_trans words_one_len (by omega), Nat.le_trans words_one_len (by omega)⟩
 | succ n ih => rw [Rat.pow_succ]; exact (ih.mul h).mono (by rw [Nat.mul_succ]; omega)
/-- What is told of two fractions: the sign of their difference. -/
def cmpQ (a b : Rat) : Int := sgn (a - b).num
theorem sgn_mkRat (x : Int) (d : Nat) (h : d ≠ 0) : sgn (mkRat x d).num = sgn x := by
 rw [Rat.num_mkRat, if_neg h]
 have hg : 0 < d.gcd x.natAbs := Nat.gcd_pos_of_pos_left _ (by omega)
 have hd : ((d.gcd x.natAbs : Nat) : Int) ∣ x := by rw [← Int.dvd_natAbs, Int.ofNat_dvd]; exact Nat.gcd_dvd_right d x.natAbs
 obtain ⟨y, hy⟩ := hd
 generalize d.gcd x.natAbs = g at *
 subst hy
 rw [Int.mul_ediv_cancel_left _ (by omega), sgn_mul, sgn_pos (z := (g : Int)) (by omega), Int.one_mul]
end Wd
namespace Wd
theorem mkRat_parts (s : Bool) (L : Nat) {M : Nat} (h : M ≠ 0) : (mkRat (iv s L) M).num = iv s (L / Nat.gcd L M) ∧ (mkRat (iv s L) M).den = M / Nat.gcd L M := by
 rw [Rat.num_mkRat, Rat.den_mkRat, if_neg h, if_neg h, iv_abs, Nat.gcd_comm M L]
 refine ⟨?_, rfl⟩
 have hd := Nat.gcd_dvd_left L M
 generalize Nat.gcd L M = g at *
 obtain ⟨k, rfl⟩ := hd
 rcases Nat.eq_zero_or_pos g with h0 | h0
 · subst h0; simp [iv_zero]
 · rw [Nat.mul_div_cancel_left _ h0]
   cases s
   · simp only [iv_false, Int.natCast_mul]
     exact Int.mul_ediv_cancel_left _ (by omega)
   · simp only [iv_true, Int.natCast_mul, ← Int.mul_neg]
     exact Int.mul_ediv_cancel_left _ (by omega)
theorem mkRat_sub (x y : Int) {d e : Nat} (hd : d ≠ 0) (he : e ≠ 0) : mkRat x d - mkRat y e = mkRat (x * e - y * d) (d * e) := by
 rw [Rat.sub_eq_add_neg, Rat.neg_mkRat, Rat.mkRat_add_mkRat _ _ hd he, Int.neg_mul, Int.sub_eq_add_neg]
theorem cmpQ_mk (x y : Int) {d e : Nat} (hd : d ≠ 0) (he : e ≠ 0) : cmpQ (mkRat x d) (mkRat y e) = sgn (x * e - y * d) := by
 unfold cmpQ
 rw [mkRat_sub x y hd he, sgn_mkRat _ _ (Nat.mul_ne_zero hd he)]
theorem iv_turn {x : Int} {t : Bool} : iv (ngb x != t) x.natAbs = x * iv t 1 := by
 have h := iv_mul (ngb x) t x.natAbs 1
 rw [Nat.mul_one, iv_ngb] at h
 exact h
theorem quo_mk (x : Int) {t : Bool} {N d e : Nat} (hN : N ≠ 0) (hd : d ≠ 0) (he : e ≠ 0) : mkRat (iv (ngb (x * e) != t) (x * e).natAbs) (d * N) = mkRat x d / mkRat (iv t N) e := by
 rw [iv_turn]
 simp only [Rat.mkRat_eq_div]
 have h1 : (N : Rat) ≠ 0 := by simpa using hN
 have h2 : (d : Rat) ≠ 0 := by simpa using hd
 have h3 : (e : Rat) ≠ 0 := by simpa using he
 cases t
 · simp only [iv_false]
   push_cast
   grind
 · simp only [iv_true]
   push_cast
   grind
end Wd
namespace Wd
theorem cmpQ_zero (a b : Rat) : cmpQ a b = 0 ↔ a = b := by
 unfold cmpQ
 constructor
 · intro h
   rcases sgn_cases (a - b).num with ⟨_, e⟩ | ⟨e, _⟩ | ⟨_, e⟩
   · omega
   · have := Rat.num_eq_zero.1 e
     grind
   · omega
 · rintro rfl
   rw [Rat.sub_self]
   rfl
end Wd
