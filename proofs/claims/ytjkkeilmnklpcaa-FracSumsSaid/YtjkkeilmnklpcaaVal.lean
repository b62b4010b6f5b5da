/-
  Plain lists of words: values, right lists. No program here.
-/
namespace Wd

/-- 2^32. -/
@[irreducible] def B : Nat := 4294967296
theorem B_eq : B = 4294967296 := by unfold B; rfl
theorem B_pos : 0 < B := by rw [B_eq]; omega
theorem B_one : 1 < B := by rw [B_eq]; omega
theorem B_two : B = 2 ^ 32 := by rw [B_eq]

/-- The value of a list of words, the lowest first. -/
def val : List Nat → Nat
  | [] => 0
  | x :: l => x + B * val l

/-- Words. -/
def Ok (l : List Nat) : Prop := ∀ x ∈ l, x < B

/-- The right list of a value. -/
def words (n : Nat) : List Nat := if _h : n = 0 then [] else n % B :: words (n / B)
termination_by n
decreasing_by exact Nat.div_lt_self (Nat.pos_of_ne_zero _h) B_one

theorem words_zero : words 0 = [] := by rw [words]; simp
theorem words_pos {n : Nat} (h : n ≠ 0) : words n = n % B :: words (n / B) := by rw [words]; simp [h]

theorem val_words (n : Nat) : val (words n) = n := by
  induction n using Nat.strongRecOn with
  | _ n ih =>
    by_cases h : n = 0
    · subst h; simp [words_zero, val]
    · rw [words_pos h, val, ih _ (Nat.div_lt_self (Nat.pos_of_ne_zero h) B_one)]
      exact Nat.mod_add_div n B

theorem ok_words (n : Nat) : Ok (words n) := by
  induction n using Nat.strongRecOn with
  | _ n ih =>
    by_cases h : n = 0
    · subst h; simp [words_zero, Ok]
    · rw [words_pos h]
      intro x hx
      rcases List.mem_cons.1 hx with rfl | hx
      · exact Nat.mod_lt _ B_pos
      · exact ih _ (Nat.div_lt_self (Nat.pos_of_ne_zero h) B_one) x hx

theorem ok_cons {x : Nat} {l : List Nat} : Ok (x :: l) ↔ x < B ∧ Ok l := by simp [Ok]
theorem ok_nil : Ok [] := by simp [Ok]
theorem ok_append {a b : List Nat} : Ok (a ++ b) ↔ Ok a ∧ Ok b := by
  simp only [Ok, List.mem_append]
  exact ⟨fun h => ⟨fun x hx => h x (.inl hx), fun x hx => h x (.inr hx)⟩, fun h x hx => hx.elim (h.1 x) (h.2 x)⟩
theorem ok_take {l : List Nat} (h : Ok l) (n : Nat) : Ok (l.take n) := fun x hx => h x (List.mem_of_mem_take hx)
theorem ok_drop {l : List Nat} (h : Ok l) (n : Nat) : Ok (l.drop n) := fun x hx => h x (List.mem_of_mem_drop hx)
theorem ok_get {l : List Nat} (h : Ok l) {i : Nat} (hi : i < l.length) : l[i] < B := h _ (List.getElem_mem hi)
theorem ok_getD {l : List Nat} (h : Ok l) (i : Nat) : l.getD i 0 < B := by
  rw [List.getD_eq_getElem?_getD]
  by_cases hi : i < l.length
  · rw [List.getElem?_eq_getElem hi]; exact ok_get h hi
  · rw [List.getElem?_eq_none (by omega)]; exact B_pos
theorem ok_replicate (n : Nat) : Ok (List.replicate n 0) := fun x hx => by
  rw [List.eq_of_mem_replicate hx]; exact B_pos
theorem ok_set {l : List Nat} (h : Ok l) (i : Nat) {x : Nat} (hx : x < B) : Ok (l.set i x) := fun y hy => by
  rcases List.mem_or_eq_of_mem_set hy with h1 | rfl
  · exact h y h1
  · exact hx

theorem lt_aux {b x v p : Nat} (hx : x < b) (h : v < p) : x + b * v < p * b := by
  have := Nat.mul_le_mul_left b h
  rw [Nat.succ_eq_add_one, Nat.mul_add] at this
  rw [Nat.mul_comm p b]; omega
theorem app_aux (b x v p u : Nat) : x + b * (v + p * u) = x + b * v + p * b * u := by grind

theorem val_append (a b : List Nat) : val (a ++ b) = val a + B ^ a.length * val b := by
  induction a with
  | nil => simp [val]
  | cons x a ih => simp only [List.cons_append, val, ih, List.length_cons, Nat.pow_succ]; exact app_aux _ _ _ _ _

theorem val_lt {l : List Nat} (h : Ok l) : val l < B ^ l.length := by
  induction l with
  | nil => simp [val]
  | cons x l ih =>
    have hx := (ok_cons.1 h).1
    have hl := ih (ok_cons.1 h).2
    simp only [val, List.length_cons, Nat.pow_succ]
    exact lt_aux hx hl

theorem val_replicate (n : Nat) : val (List.replicate n 0) = 0 := by
  induction n with
  | zero => rfl
  | succ n ih => simp [List.replicate_succ, val, ih]

theorem val_zeros {l : List Nat} (h : ∀ x ∈ l, x = 0) : val l = 0 := by
  induction l with
  | nil => rfl
  | cons x l ih =>
    simp only [val, h x (by simp), ih (fun y hy => h y (by simp [hy]))]; simp

/-- Two lists of one length and one value are one. -/
theorem val_inj {a b : List Nat} (ha : Ok a) (hb : Ok b) (hl : a.length = b.length) (h : val a = val b) : a = b := by
  induction a generalizing b with
  | nil => exact (List.eq_nil_of_length_eq_zero hl.symm).symm
  | cons x a ih =>
    match b, hl with
    | y :: b, hl =>
      have hx := (ok_cons.1 ha).1
      have hy := (ok_cons.1 hb).1
      simp only [val] at h
      have e1 : x = y := by
        have := congrArg (· % B) h
        simpa [Nat.add_mul_mod_self_left, Nat.mod_eq_of_lt hx, Nat.mod_eq_of_lt hy] using this
      subst e1
      have e2 : val a = val b := Nat.eq_of_mul_eq_mul_left B_pos (by omega)
      rw [ih (ok_cons.1 ha).2 (ok_cons.1 hb).2 (by simpa using hl) e2]

/-- A list without the noughts at its end. -/
def trim : List Nat → List Nat
  | [] => []
  | x :: l => match trim l with
    | [] => if x = 0 then [] else [x]
    | y :: m => x :: y :: m

theorem words_val {l : List Nat} (h : Ok l) : words (val l) = trim l := by
  induction l with
  | nil => simp [val, words_zero, trim]
  | cons x l ih =>
    have hx := (ok_cons.1 h).1
    have ih := ih (ok_cons.1 h).2
    simp only [val, trim]
    by_cases h0 : x + B * val l = 0
    · have hx0 : x = 0 := by omega
      have hv : B * val l = 0 := by omega
      have hv : val l = 0 := by
        rcases Nat.mul_eq_zero.1 hv with h | h
        · exact absurd h (by have := B_pos; omega)
        · exact h
      rw [hv, words_zero] at ih
      rw [h0, words_zero, ← ih]; simp [hx0]
    · rw [words_pos h0, Nat.add_mul_mod_self_left, Nat.mod_eq_of_lt hx, Nat.add_mul_div_left _ _ B_pos, Nat.div_eq_of_lt hx, Nat.zero_add, ih]
      cases ht : trim l with
      | nil =>
        have : val l = 0 := by
          have := val_words (val l); rw [ih, ht] at this; exact this.symm
        have : x ≠ 0 := by rintro rfl; simp [this] at h0
        simp [this]
      | cons y m => rfl

theorem val_trim {l : List Nat} (h : Ok l) : val (trim l) = val l := by rw [← words_val h, val_words]
theorem ok_trim {l : List Nat} (h : Ok l) : Ok (trim l) := by rw [← words_val h]; exact ok_words _

/-- The list without its last word, if that is 0. -/
theorem trim_snoc_zero (l : List Nat) : trim (l ++ [0]) = trim l := by
  induction l with
  | nil => rfl
  | cons x l ih => simp only [List.cons_append, trim, ih]
theorem trim_snoc {l : List Nat} {x : Nat} (hx : x ≠ 0) : trim (l ++ [x]) = l ++ [x] := by
  induction l with
  | nil => simp [trim, hx]
  | cons y l ih =>
    simp only [List.cons_append, trim, ih]
    cases h : l ++ [x] with
    | nil => simp at h
    | cons z m => rfl
theorem trim_take_of_zero {l : List Nat} {n : Nat} (hn : n < l.length) (h : l[n] = 0) : trim (l.take (n + 1)) = trim (l.take n) := by
  rw [List.take_succ_eq_append_getElem hn, h, trim_snoc_zero]
theorem trim_take_of_ne {l : List Nat} {n : Nat} (hn : n < l.length) (h : l[n] ≠ 0) : trim (l.take (n + 1)) = l.take (n + 1) := by
  rw [List.take_succ_eq_append_getElem hn, trim_snoc h]

theorem words_eq_nil {n : Nat} : words n = [] ↔ n = 0 := by
  constructor
  · intro h
    by_cases h0 : n = 0
    · exact h0
    · rw [words_pos h0] at h; cases h
  · rintro rfl; exact words_zero
theorem words_length_zero {n : Nat} : (words n).length = 0 ↔ n = 0 := by rw [List.length_eq_zero_iff, words_eq_nil]
theorem words_inj {m n : Nat} : words m = words n ↔ m = n :=
  ⟨fun h => by have := congrArg val h; simpa [val_words] using this, fun h => by rw [h]⟩
theorem trim_words (n : Nat) : trim (words n) = words n := by rw [← words_val (ok_words n), val_words]
theorem length_trim_le (l : List Nat) : (trim l).length ≤ l.length := by
  induction l with
  | nil => simp [trim]
  | cons x l ih =>
    simp only [trim]
    cases h : trim l with
    | nil => simp only []; split <;> simp
    | cons y m => rw [h] at ih; simpa using ih
/-- A list that ends in a word other than 0 is right. -/
theorem trim_eq_self {l : List Nat} (h : ∀ hl : l ≠ [], l.getLast hl ≠ 0) : trim l = l := by
  by_cases hl : l = []
  · subst hl; rfl
  · rw [← List.dropLast_concat_getLast hl, trim_snoc (h hl)]
theorem words_lt {n k : Nat} (h : n < B ^ k) : (words n).length ≤ k := by
  induction k generalizing n with
  | zero => simp at h; subst h; simp [words_zero]
  | succ k ih =>
    by_cases h0 : n = 0
    · subst h0; simp [words_zero]
    · rw [words_pos h0, List.length_cons]
      have : n / B < B ^ k := Nat.div_lt_of_lt_mul (by rw [Nat.pow_succ, Nat.mul_comm] at h; exact h)
      have := ih this
      omega
theorem le_words {n k : Nat} (h : B ^ k ≤ n) : k < (words n).length := by
  have h1 := val_lt (ok_words n)
  rw [val_words] at h1
  by_cases hk : (words n).length ≤ k
  · have := Nat.pow_le_pow_right B_pos hk
    omega
  · omega
theorem words_length_le_iff {n k : Nat} : (words n).length ≤ k ↔ n < B ^ k :=
  ⟨fun h => Nat.lt_of_lt_of_le (by have := val_lt (ok_words n); rwa [val_words] at this) (Nat.pow_le_pow_right B_pos h), words_lt⟩
theorem words_mono {m n : Nat} (h : m ≤ n) : (words m).length ≤ (words n).length :=
  words_length_le_iff.2 (Nat.lt_of_le_of_lt h (words_length_le_iff.1 (Nat.le_refl _)))
theorem words_val_length {l : List Nat} (h : Ok l) : (words (val l)).length ≤ l.length := by rw [words_val h]; exact length_trim_le l

end Wd
