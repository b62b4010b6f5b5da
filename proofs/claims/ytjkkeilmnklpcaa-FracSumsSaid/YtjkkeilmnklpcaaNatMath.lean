/-
  Plain lists of words: sums, differences, which is the greater one. No program here.
-/
import Derived.Test.YtjkkeilmnklpcaaWords
set_option linter.unusedVariables false
set_option linter.unusedSimpArgs false
namespace Wd

theorem val_take_succ (l : List Nat) (i : Nat) : val (l.take (i + 1)) = val (l.take i) + B ^ i * l.getD i 0 := by
  by_cases h : i < l.length
  · rw [List.take_succ_eq_append_getElem h, val_append, List.length_take, Nat.min_eq_left (by omega), List.getD_eq_getElem?_getD, List.getElem?_eq_getElem h]
    simp [val]
  · rw [List.take_of_length_le (by omega), List.take_of_length_le (by omega), List.getD_eq_getElem?_getD, List.getElem?_eq_none (by omega)]
    simp
theorem val_take_all (l : List Nat) {n : Nat} (h : l.length ≤ n) : val (l.take n) = val l := by rw [List.take_of_length_le h]
theorem val_take_set {o : List Nat} {i : Nat} (h : i < o.length) (x : Nat) : val ((o.set i x).take (i + 1)) = val (o.take i) + B ^ i * x := by
  rw [val_take_succ, List.getD_eq_getElem?_getD, List.getElem?_set_self h]
  congr 2
  rw [List.take_set, List.set_eq_of_length_le (by rw [List.length_take]; omega)]
theorem val_take_set_old (o : List Nat) (i : Nat) (x : Nat) : val ((o.set i x).take i) = val (o.take i) := by
  rw [List.take_set, List.set_eq_of_length_le (by rw [List.length_take]; omega)]

/-- Which of two is the greater one. -/
def cmpI (a b : Nat) : Int := if a < b then -1 else if b < a then 1 else 0
theorem cmpI_lt {a b : Nat} (h : a < b) : cmpI a b = -1 := by simp [cmpI, h]
theorem cmpI_gt {a b : Nat} (h : b < a) : cmpI a b = 1 := by simp [cmpI, h]; omega
theorem cmpI_eq {a b : Nat} (h : a = b) : cmpI a b = 0 := by simp [cmpI, h]
theorem cmpI_neg {a b : Nat} : cmpI a b < 0 ↔ a < b := by unfold cmpI; split <;> (try split) <;> omega
theorem cmpI_cases (a b : Nat) : a < b ∧ cmpI a b = -1 ∨ a = b ∧ cmpI a b = 0 ∨ b < a ∧ cmpI a b = 1 := by
  rcases Nat.lt_trichotomy a b with h | h | h
  · exact .inl ⟨h, cmpI_lt h⟩
  · exact .inr (.inl ⟨h, cmpI_eq h⟩)
  · exact .inr (.inr ⟨h, cmpI_gt h⟩)

/-- By how much the greater one is greater. -/
def gapN (a b : Nat) : Nat := if a < b then b - a else a - b
theorem gapN_lt {a b : Nat} (h : a < b) : gapN a b = b - a := if_pos h
theorem gapN_ge {a b : Nat} (h : b ≤ a) : gapN a b = a - b := if_neg (by omega)

theorem words_shorter {m n : Nat} (h : (words m).length < (words n).length) : m < n := by
  rcases Nat.lt_or_ge m n with h1 | h1
  · exact h1
  · have := words_mono h1; omega

/-- The highest place at which two lists of one length differ decides. -/
theorem val_split {l : List Nat} {k : Nat} (h : k < l.length) : val l = val (l.take k) + B ^ k * (l[k] + B * val (l.drop (k + 1))) := by
  have e : l = l.take k ++ l[k] :: l.drop (k + 1) := by rw [← List.drop_eq_getElem_cons h, List.take_append_drop]
  calc val l = val (l.take k ++ l[k] :: l.drop (k + 1)) := congrArg val e
    _ = _ := by rw [val_append, List.length_take, Nat.min_eq_left (by omega), val]
theorem lt_of_place {p a b x y r s : Nat} (ha : a < p) (h : x < y) (hrs : r ≤ s) : a + p * (x + B * r) < b + p * (y + B * s) := by
  have h1 : p * (x + B * r + 1) ≤ p * (y + B * s) := Nat.mul_le_mul_left _ (by have := Nat.mul_le_mul_left B hrs; omega)
  rw [Nat.mul_add p (x + B * r) 1] at h1
  omega
theorem val_lt_of_place {a b : List Nat} (ha : Ok a) {k : Nat} (hka : k < a.length) (hkb : k < b.length) (he : a.drop (k + 1) = b.drop (k + 1)) (h : a[k] < b[k]) : val a < val b := by
  rw [val_split hka, val_split hkb, he]
  have h1 := val_lt (ok_take ha k)
  rw [List.length_take, Nat.min_eq_left (by omega)] at h1
  exact lt_of_place h1 h (Nat.le_refl _)
theorem drop_eq_step {a b : List Nat} {k : Nat} (hka : k < a.length) (hkb : k < b.length) (he : a.drop (k + 1) = b.drop (k + 1)) (h : a[k] = b[k]) : a.drop k = b.drop k := by
  rw [List.drop_eq_getElem_cons hka, List.drop_eq_getElem_cons hkb, he, h]

/-- A sum, word by word: i places are done. -/
def AddAt (a b o : List Nat) (i c : Nat) : Prop := c ≤ 1 ∧ val (o.take i) + B ^ i * c = val (a.take i) + val (b.take i)
theorem addAt_zero (a b o : List Nat) : AddAt a b o 0 0 := ⟨by omega, by simp [val]⟩
theorem add_aux {p s k x y c v u t : Nat} (h : s + B * k = x + y + c) (hv : v + p * c = u + t) : v + p * s + p * B * k = u + p * x + (t + p * y) := by
  have : p * (s + B * k) = p * (x + y + c) := by rw [h]
  rw [Nat.mul_add, Nat.mul_add, Nat.mul_add, ← Nat.mul_assoc] at this
  omega
theorem addAt_step {a b o : List Nat} {i c : Nat} (hi : i < o.length) (hx : a.getD i 0 < B) (hy : b.getD i 0 < B) (h : AddAt a b o i c) :
    AddAt a b (o.set i (addS (a.getD i 0) (b.getD i 0) c)) (i + 1) (addC (a.getD i 0) (b.getD i 0) c) := by
  refine ⟨addC_le hx hy h.1, ?_⟩
  rw [val_take_set hi, val_take_succ a, val_take_succ b, Nat.pow_succ]
  exact add_aux (add_eq _ _ _) h.2
theorem addAt_end {a b o : List Nat} {n c : Nat} (ha : a.length ≤ n) (hb : b.length ≤ n) (hn : o.length = n + 1) (h : AddAt a b o n c) : val (o.set n c) = val a + val b := by
  have h2 := h.2
  rw [val_take_all a ha, val_take_all b hb] at h2
  rw [← h2, ← val_take_set (by omega), List.take_of_length_le (by simp; omega)]

/-- A difference, word by word. -/
def SubAt (a b o : List Nat) (i c : Nat) : Prop := c ≤ 1 ∧ val (o.take i) + val (b.take i) = val (a.take i) + B ^ i * c
theorem subAt_zero (a b o : List Nat) : SubAt a b o 0 0 := ⟨by omega, by simp [val]⟩
theorem sub_aux {p d k x y c v u t : Nat} (h : d + y + c = x + B * k) (hv : v + t = u + p * c) : v + p * d + (t + p * y) = u + p * x + p * B * k := by
  have : p * (d + y + c) = p * (x + B * k) := by rw [h]
  rw [Nat.mul_add, Nat.mul_add, Nat.mul_add, ← Nat.mul_assoc] at this
  omega
theorem subAt_step {a b o : List Nat} {i c : Nat} (hi : i < o.length) (hy : b.getD i 0 < B) (h : SubAt a b o i c) :
    SubAt a b (o.set i (subD (a.getD i 0) (b.getD i 0) c)) (i + 1) (subB (a.getD i 0) (b.getD i 0) c) := by
  refine ⟨subB_le hy h.1, ?_⟩
  rw [val_take_set hi, val_take_succ a, val_take_succ b, Nat.pow_succ]
  exact sub_aux (sub_eq _ _ _) h.2
theorem subAt_end {a b o : List Nat} {c : Nat} (ho : Ok o) (hn : o.length = a.length) (hb : b.length ≤ a.length) (hle : val b ≤ val a) (h : SubAt a b o a.length c) : val o = val a - val b ∧ c = 0 := by
  have h2 := h.2
  rw [val_take_all a (Nat.le_refl _), val_take_all b hb, val_take_all o (by omega)] at h2
  have h3 := val_lt ho
  rw [hn] at h3
  have hc : c = 0 := by
    rcases Nat.eq_zero_or_pos c with h0 | h0
    · exact h0
    · have : B ^ a.length * 1 ≤ B ^ a.length * c := Nat.mul_le_mul_left _ h0
      omega
  subst hc
  rw [Nat.mul_zero] at h2
  exact ⟨by omega, rfl⟩

/-- The sum of all. -/
def vsum (ls : List (List Nat)) : Nat := (ls.map val).sum
theorem vsum_nil : vsum [] = 0 := rfl
theorem vsum_take_succ {ls : List (List Nat)} {k : Nat} (h : k < ls.length) : vsum (ls.take (k + 1)) = vsum (ls.take k) + val ls[k] := by
  unfold vsum
  rw [List.take_succ_eq_append_getElem h, List.map_append, List.sum_append]
  simp only [List.map_cons, List.map_nil, List.sum_cons, List.sum_nil, Nat.add_zero]
theorem vsum_take_le (ls : List (List Nat)) (k : Nat) : vsum (ls.take k) ≤ vsum ls := by
  unfold vsum
  conv => rhs; rw [← List.take_append_drop k ls]
  rw [List.map_append, List.sum_append]
  omega
theorem words_len_take (ls : List (List Nat)) (k : Nat) : (words (vsum (ls.take k))).length ≤ (words (vsum ls)).length := words_mono (vsum_take_le ls k)

theorem B_two_le : 2 ≤ B := by rw [B_eq]; omega
theorem full_aux {P b c v x y : Nat} {Q : Prop} (hb : 2 ≤ b) (hx : x < P) (hy : y < P) (hc : 0 < c) (h : v + P * b * c = x + y) : Q := by
  have h5 : P * 2 ≤ P * b := Nat.mul_le_mul_left _ hb
  have h6 : P * b * 1 ≤ P * b * c := Nat.mul_le_mul_left _ hc
  omega
theorem addAt_full {a b o : List Nat} {n c : Nat} (ha : a.length ≤ n) (hb : b.length ≤ n) (hn : o.length = n + 1) (hoa : Ok a) (hob : Ok b) (h : AddAt a b o (n + 1) c) : val o = val a + val b ∧ c = 0 := by
  have h2 := h.2
  rw [val_take_all a (by omega), val_take_all b (by omega), val_take_all o (by omega), Nat.pow_succ] at h2
  have h3 := Nat.lt_of_lt_of_le (val_lt hoa) (Nat.pow_le_pow_right B_pos ha)
  have h4 := Nat.lt_of_lt_of_le (val_lt hob) (Nat.pow_le_pow_right B_pos hb)
  have hc : c = 0 := by
    rcases Nat.eq_zero_or_pos c with h0 | h0
    · exact h0
    · exact full_aux B_two_le h3 h4 h0 h2
  subst hc
  rw [Nat.mul_zero, Nat.add_zero] at h2
  exact ⟨h2, rfl⟩
theorem subAt_full {a b o : List Nat} {n c : Nat} (ha : a.length ≤ n) (hb : b.length ≤ n) (hn : o.length = n) (ho : Ok o) (hle : val b ≤ val a) (h : SubAt a b o n c) : val o = val a - val b ∧ c = 0 := by
  have h2 := h.2
  rw [val_take_all a ha, val_take_all b hb, val_take_all o (by omega)] at h2
  have h3 := val_lt ho
  rw [hn] at h3
  have hc : c = 0 := by
    rcases Nat.eq_zero_or_pos c with h0 | h0
    · exact h0
    · have : B ^ n * 1 ≤ B ^ n * c := Nat.mul_le_mul_left _ h0
      omega
  subst hc
  rw [Nat.mul_zero] at h2
  exact ⟨by omega, rfl⟩

theorem val_drop (l : List Nat) (k : Nat) : val (l.drop k) = l.getD k 0 + B * val (l.drop (k + 1)) := by
  by_cases h : k < l.length
  · rw [List.drop_eq_getElem_cons h, val, List.getD_eq_getElem?_getD, List.getElem?_eq_getElem h]; rfl
  · rw [List.drop_eq_nil_of_le (by omega), List.drop_eq_nil_of_le (by omega), List.getD_eq_getElem?_getD, List.getElem?_eq_none (by omega)]; simp [val]
theorem val_take_drop (l : List Nat) (k : Nat) : val l = val (l.take k) + B ^ k * val (l.drop k) := by
  by_cases h : k ≤ l.length
  · have e := val_append (l.take k) (l.drop k)
    rw [List.take_append_drop, List.length_take, Nat.min_eq_left h] at e
    exact e
  · rw [List.take_of_length_le (by omega), List.drop_eq_nil_of_le (by omega)]; simp [val]
theorem val_take_lt {l : List Nat} (h : Ok l) (k : Nat) : val (l.take k) < B ^ k :=
  Nat.lt_of_lt_of_le (val_lt (ok_take h k)) (Nat.pow_le_pow_right B_pos (by rw [List.length_take]; omega))
theorem lt_of_drop {a b : List Nat} {k : Nat} (ha : Ok a) (he : val (a.drop (k + 1)) = val (b.drop (k + 1))) (h : a.getD k 0 < b.getD k 0) : val a < val b := by
  rw [val_take_drop a k, val_take_drop b k, val_drop a k, val_drop b k, he]
  exact lt_of_place (val_take_lt ha k) h (Nat.le_refl _)
theorem drop_step {a b : List Nat} {k : Nat} (he : val (a.drop (k + 1)) = val (b.drop (k + 1))) (h : a.getD k 0 = b.getD k 0) : val (a.drop k) = val (b.drop k) := by
  rw [val_drop a k, val_drop b k, he, h]

/-- Have lists more than so many words in all, or are they more than a hundred? -/
def longL : List Nat → Nat → Nat → Bool
  | [], _, _ => false
  | n :: r, m, i => if m < n ∨ 100 ≤ i then true else longL r (m - n) (i + 1)
theorem longL_yes {n : Nat} {r : List Nat} {m i : Nat} (h : m < n ∨ 100 ≤ i) : longL (n :: r) m i = true := if_pos h
theorem longL_no {n : Nat} {r : List Nat} {m i : Nat} (h : ¬ (m < n ∨ 100 ≤ i)) : longL (n :: r) m i = longL r (m - n) (i + 1) := if_neg h
theorem longL_false {l : List Nat} : ∀ {m i : Nat}, longL l m i = false → l.sum ≤ m ∧ (l = [] ∨ l.length + i ≤ 100) := by
  induction l with
  | nil => intro m i _; simp
  | cons n r ih =>
    intro m i h
    by_cases h0 : m < n ∨ 100 ≤ i
    · rw [longL_yes h0] at h; cases h
    · rw [longL_no h0] at h
      have h1 := ih h
      have hn : n ≤ m := by omega
      refine ⟨by simp only [List.sum_cons]; omega, .inr ?_⟩
      rcases h1.2 with h2 | h2
      · subst h2; simp; omega
      · simp only [List.length_cons]; omega

theorem vsum_cons (l : List Nat) (ls : List (List Nat)) : vsum (l :: ls) = val l + vsum ls := by simp [vsum]
theorem vsum_le {m : Nat} {ls : List (List Nat)} (h : ∀ l ∈ ls, Ok l ∧ l.length ≤ m) : vsum ls ≤ ls.length * B ^ m := by
  induction ls with
  | nil => simp [vsum]
  | cons l ls ih =>
    have h1 := h l (by simp)
    have h2 := ih (fun x hx => h x (by simp [hx]))
    have h3 := Nat.lt_of_lt_of_le (val_lt h1.1) (Nat.pow_le_pow_right B_pos h1.2)
    rw [vsum_cons, List.length_cons, Nat.add_mul, Nat.one_mul]
    omega
theorem pow_aux {b m n s : Nat} (hb : 1 < b) (hn : n ≤ b) (hs : s ≤ n * b ^ m) : s < b ^ (m + 2) := by
  have h1 : n * b ^ m ≤ b * b ^ m := Nat.mul_le_mul_right _ hn
  have h2 : b * b ^ m = b ^ (m + 1) := by rw [Nat.pow_succ, Nat.mul_comm]
  have h3 : b ^ (m + 1) < b ^ (m + 2) := Nat.pow_lt_pow_right hb (by omega)
  omega
theorem words_vsum_le {m : Nat} {ls : List (List Nat)} (h : ∀ l ∈ ls, Ok l ∧ l.length ≤ m) (hn : ls.length ≤ 1000) : (words (vsum ls)).length ≤ m + 2 :=
  words_lt (pow_aux B_one (by rw [B_eq]; omega) (vsum_le h))
theorem words_add_le {a b m : Nat} (ha : (words a).length ≤ m) (hb : (words b).length ≤ m) : (words (a + b)).length ≤ m + 2 := by
  rw [words_length_le_iff] at ha hb
  exact words_lt (pow_aux (n := 2) B_one B_two_le (by omega))
theorem sum_mem_le {l : List Nat} {m : Nat} (h : l.sum ≤ m) : ∀ x ∈ l, x ≤ m := by
  induction l with
  | nil => simp
  | cons y l ih =>
    intro x hx
    simp only [List.sum_cons] at h
    rcases List.mem_cons.1 hx with rfl | hx
    · omega
    · exact ih (by omega) x hx
end Wd
