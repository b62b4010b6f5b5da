/-
  Plain numbers: rows of products of words, squares, powers. No program here.
-/
import Derived.Test.YtjkkeilmnklpcaaTwosMath
set_option linter.unusedVariables false
set_option linter.unusedSimpArgs false
namespace Wd

/-- A row of products is added from a place on: i words are done. -/
def RowAt (a o p : List Nat) (x c k i cy : Nat) : Prop :=
  cy < B ∧ p.length = o.length ∧ p.drop (k + i) = o.drop (k + i) ∧ val (p.take (k + i)) + B ^ (k + i) * cy = val (o.take (k + i)) + B ^ k * (x * val (a.take i) + c)
theorem rowAt_zero (a o : List Nat) (x c k : Nat) (hc : c < B) : RowAt a o o x c k 0 c := ⟨hc, rfl, rfl, by simp [val]⟩
theorem getD_of_drop {p o : List Nat} {k : Nat} (h : p.drop k = o.drop k) : p.getD k 0 = o.getD k 0 := by
  have := congrArg (fun l : List Nat => l.getD 0 0) h
  simpa [List.getD_eq_getElem?_getD] using this
theorem row_aux {P b u t m h x y z c q v K : Nat} (he : m + b * h = x * y + z + c) (hv : u + P * c = t + K) : u + P * m + P * b * h = t + P * z + (K + P * (x * y)) := by
  have e1 : P * m + P * b * h = P * (m + b * h) := by rw [Nat.mul_add, Nat.mul_assoc]
  rw [Nat.add_assoc, e1, he]
  rw [Nat.mul_add, Nat.mul_add]
  omega
theorem rowAt_step {a o p : List Nat} {x c k i cy : Nat} (hk : k + i < o.length) (hp : Ok p) (hx : x < B) (hy : a.getD i 0 < B) (h : RowAt a o p x c k i cy) :
    RowAt a o (p.set (k + i) (mulL x (a.getD i 0) (p.getD (k + i) 0) cy)) x c k (i + 1) (mulH x (a.getD i 0) (p.getD (k + i) 0) cy) := by
  obtain ⟨h1, h2, h3, h4⟩ := h
  have hz := ok_getD hp (k + i)
  refine ⟨mulH_lt hx hy hz h1, by rw [List.length_set, h2], ?_, ?_⟩
  · have hd : ∀ l : List Nat, l.drop (k + i + 1) = (l.drop (k + i)).drop 1 := fun l => by rw [List.drop_drop]
    rw [← Nat.add_assoc, List.drop_set_of_lt (by omega), hd, h3, ← hd]
  · rw [← Nat.add_assoc, val_take_set (by omega), val_take_succ o, val_take_succ a, ← getD_of_drop h3]
    have e := mul_eq x (a.getD i 0) (p.getD (k + i) 0) cy
    generalize mulL x (a.getD i 0) (p.getD (k + i) 0) cy = m at *
    generalize mulH x (a.getD i 0) (p.getD (k + i) 0) cy = g at *
    have e2 := row_aux (P := B ^ (k + i)) (u := val (p.take (k + i))) (t := val (o.take (k + i))) (q := 0) (v := 0) e h4
    rw [Nat.pow_succ, e2]
    have e3 : B ^ k * (x * (val (a.take i) + B ^ i * a.getD i 0) + c) = B ^ k * (x * val (a.take i) + c) + B ^ (k + i) * (x * a.getD i 0) := by
      rw [Nat.pow_add, Nat.mul_add x, Nat.add_right_comm, Nat.mul_add (B ^ k)]
      congr 1
      ac_rfl
    rw [e3]
theorem val_drop_zero_succ {o : List Nat} {k : Nat} (h : val (o.drop k) = 0) : o.getD k 0 = 0 ∧ val (o.drop (k + 1)) = 0 := by
  rw [val_drop] at h
  have hB := B_pos
  refine ⟨by omega, ?_⟩
  rcases Nat.eq_zero_or_pos (val (o.drop (k + 1))) with h1 | h1
  · exact h1
  · have := Nat.mul_pos hB h1
    omega
theorem rowAt_end {a o p : List Nat} {x c k cy : Nat} (hk : k + a.length < o.length) (hz : val (o.drop (k + a.length)) = 0) (h : RowAt a o p x c k a.length cy) :
    val (p.set (k + a.length) cy) = val o + B ^ k * (x * val a + c) ∧ val ((p.set (k + a.length) cy).drop (k + a.length + 1)) = 0 := by
  obtain ⟨h1, h2, h3, h4⟩ := h
  obtain ⟨z1, z2⟩ := val_drop_zero_succ hz
  have hd : (p.set (k + a.length) cy).drop (k + a.length + 1) = o.drop (k + a.length + 1) := by
    rw [List.drop_set_of_lt (by omega), ← List.drop_drop, h3, List.drop_drop]
  refine ⟨?_, by rw [hd]; exact z2⟩
  rw [val_take_drop (p.set (k + a.length) cy) (k + a.length + 1), hd, z2, Nat.mul_zero, Nat.add_zero, val_take_set (by omega), h4, List.take_length]
  rw [val_take_drop o (k + a.length), hz, Nat.mul_zero, Nat.add_zero]

/-- A product: i words of the second one are done. -/
def MulAt (a b o : List Nat) (i : Nat) : Prop := val o = val a * val (b.take i) ∧ val (o.drop (i + a.length)) = 0
theorem mulAt_zero (a b : List Nat) (n : Nat) : MulAt a b (List.replicate n 0) 0 := by
  refine ⟨by rw [val_replicate]; simp [val], ?_⟩
  rw [List.drop_replicate, val_replicate]
theorem mulAt_step {a b o o' : List Nat} {i : Nat} (h : MulAt a b o i) (h1 : val o' = val o + B ^ i * (b.getD i 0 * val a + 0)) (h2 : val (o'.drop (i + a.length + 1)) = 0) : MulAt a b o' (i + 1) := by
  refine ⟨?_, by rw [show i + 1 + a.length = i + a.length + 1 from by omega]; exact h2⟩
  rw [Nat.add_zero] at h1
  rw [h1, h.1, val_take_succ, Nat.mul_add]
  congr 1
  ac_rfl

/-- The products of unlike words, and of like ones. -/
def crossN (a : List Nat) : Nat → Nat
  | 0 => 0
  | i + 1 => crossN a i + B ^ (2 * i + 1) * (a.getD i 0 * val (a.drop (i + 1)))
def diagN (a : List Nat) : Nat → Nat
  | 0 => 0
  | i + 1 => diagN a i + B ^ (2 * i) * (a.getD i 0 * a.getD i 0)
theorem sq_aux (P b x v : Nat) : P * b * (x * v) * 2 + P * (x * x) + P * (b * b) * (v * v) = P * ((x + b * v) * (x + b * v)) := by grind
theorem square_at (a : List Nat) : ∀ i, crossN a i * 2 + diagN a i + B ^ (2 * i) * (val (a.drop i) * val (a.drop i)) = val a * val a
  | 0 => by simp [crossN, diagN]
  | i + 1 => by
    have ih := square_at a i
    have e := sq_aux (B ^ (2 * i)) B (a.getD i 0) (val (a.drop (i + 1)))
    rw [← val_drop] at e
    have e1 : B ^ (2 * i + 1) = B ^ (2 * i) * B := Nat.pow_succ _ _
    have e2 : B ^ (2 * (i + 1)) = B ^ (2 * i) * (B * B) := by rw [show 2 * (i + 1) = 2 * i + 1 + 1 from by omega, Nat.pow_succ, Nat.pow_succ, Nat.mul_assoc]
    unfold crossN diagN
    rw [e1, e2, ← ih, ← e]
    omega
theorem square_end (a : List Nat) : crossN a a.length * 2 + diagN a a.length = val a * val a := by
  have e := square_at a a.length
  rw [List.drop_length] at e
  simp only [val, Nat.mul_zero, Nat.add_zero] at e
  exact e
def CrossAt (a o : List Nat) (i : Nat) : Prop := val o = crossN a i ∧ val (o.drop (i + a.length)) = 0
theorem crossAt_zero (a : List Nat) (n : Nat) : CrossAt a (List.replicate n 0) 0 := ⟨by rw [val_replicate]; rfl, by rw [List.drop_replicate, val_replicate]⟩
theorem crossAt_step {a o o' : List Nat} {i : Nat} (hi : i < a.length) (h : CrossAt a o i) (h1 : val o' = val o + B ^ (2 * i + 1) * (a.getD i 0 * val (a.drop (i + 1)) + 0)) (h2 : val (o'.drop (2 * i + 1 + (a.length - (i + 1)) + 1)) = 0) : CrossAt a o' (i + 1) := by
  refine ⟨by rw [h1, h.1, Nat.add_zero]; rfl, ?_⟩
  rw [show 2 * i + 1 + (a.length - (i + 1)) + 1 = i + 1 + a.length from by omega] at h2
  exact h2
def DiagAt (a o : List Nat) (i : Nat) : Prop := val (o.take (2 * i)) = diagN a i
theorem diagAt_zero (a o : List Nat) : DiagAt a o 0 := by simp [DiagAt, val, diagN]
theorem diagAt_step {a o : List Nat} {i : Nat} (hi : 2 * i + 1 < o.length) (h : DiagAt a o i) :
    DiagAt a ((o.set (2 * i + 1) (mulH (a.getD i 0) (a.getD i 0) 0 0)).set (2 * i) (mulL (a.getD i 0) (a.getD i 0) 0 0)) (i + 1) := by
  unfold DiagAt at h ⊢
  have e := mul_eq (a.getD i 0) (a.getD i 0) 0 0
  generalize mulH (a.getD i 0) (a.getD i 0) 0 0 = g at *
  generalize mulL (a.getD i 0) (a.getD i 0) 0 0 = m at *
  rw [List.set_comm _ _ (by omega), show 2 * (i + 1) = 2 * i + 1 + 1 from by omega, val_take_set (by rw [List.length_set]; omega), val_take_set (by omega), h]
  show _ = diagN a i + B ^ (2 * i) * (a.getD i 0 * a.getD i 0)
  rw [Nat.pow_succ, Nat.add_assoc, Nat.mul_assoc, ← Nat.mul_add, e]
  rfl
theorem diagAt_end {a o : List Nat} (ho : o.length = 2 * a.length) (h : DiagAt a o a.length) : val o = diagN a a.length := by
  unfold DiagAt at h
  rw [List.take_of_length_le (by omega)] at h
  exact h
/-- A power, its exponent's bits from the highest on. -/
theorem pow_bit (N e b : Nat) : (N ^ (e / 2 ^ (b + 1))) * (N ^ (e / 2 ^ (b + 1))) * N ^ (e / 2 ^ b % 2) = N ^ (e / 2 ^ b) := by
  rw [← Nat.pow_add, ← Nat.pow_add]
  congr 1
  have h : e / 2 ^ (b + 1) = e / 2 ^ b / 2 := by rw [Nat.pow_succ, Nat.div_div_eq_div_mul]
  rw [h]
  generalize e / 2 ^ b = q
  omega
theorem words_mul_le {a b m n : Nat} (ha : (words a).length ≤ m) (hb : (words b).length ≤ n) : (words (a * b)).length ≤ m + n := by
  rw [words_length_le_iff] at *
  rw [Nat.pow_add]
  exact Nat.mul_lt_mul'' ha hb

/-- The product of all. -/
def vprod (ls : List (List Nat)) : Nat := (ls.map val).foldr (· * ·) 1
theorem vprod_nil : vprod [] = 1 := rfl
theorem vprod_cons (l : List Nat) (ls : List (List Nat)) : vprod (l :: ls) = val l * vprod ls := rfl
theorem vprod_snoc (ls : List (List Nat)) (l : List Nat) : vprod (ls ++ [l]) = vprod ls * val l := by
  induction ls with
  | nil => simp [vprod]
  | cons a r ih => rw [List.cons_append, vprod_cons, vprod_cons, ih, Nat.mul_assoc]
theorem vprod_take_succ {ls : List (List Nat)} {k : Nat} (h : k < ls.length) : vprod (ls.take (k + 1)) = vprod (ls.take k) * val ls[k] := by
  rw [List.take_succ_eq_append_getElem h, vprod_snoc]
theorem words_one_len : (words 1).length ≤ 1 := by rw [words_length_le_iff, Nat.pow_one, B_eq]; omega
theorem words_vprod_le (ls : List (List Nat)) (h : ∀ l ∈ ls, Ok l) : (words (vprod ls)).length ≤ (ls.map List.length).sum + 1 := by
  induction ls with
  | nil => exact words_one_len
  | cons a r ih =>
    rw [vprod_cons, List.map_cons, List.sum_cons]
    have h1 := ih (fun l hl => h l (List.mem_cons_of_mem _ hl))
    have h2 := words_val_length (h a List.mem_cons_self)
    have := words_mul_le h2 h1
    omega
theorem sum_take_le (l : List Nat) (k : Nat) : (l.take k).sum ≤ l.sum := by
  conv => rhs; rw [← List.take_append_drop k l, List.sum_append]
  omega
theorem words_vprod_take (ls : List (List Nat)) (h : ∀ l ∈ ls, Ok l) (k : Nat) : (words (vprod (ls.take k))).length ≤ (ls.map List.length).sum + 1 := by
  have h1 := words_vprod_le (ls.take k) (fun l hl => h l (List.mem_of_mem_take hl))
  have h2 := sum_take_le (ls.map List.length) k
  rw [← List.map_take] at h2
  omega

/-- May the exponent be? The power. -/
def powOk (N : Nat) (e : Int) : Bool := decide (0 ≤ e ∧ (bl N ≤ 1 ∨ e ≤ 65536 / (bl N : Int)))
def powN (N : Nat) (e : Int) : Nat := if powOk N e then N ^ e.toNat else 0
theorem lt_two_bl (N : Nat) : N < 2 ^ bl N := (bl_le_iff (bl N) N).1 (Nat.le_refl _)
theorem pow_len_k {N q k : Nat} (h : bl N * q < 32 * k) : (words (N ^ q)).length ≤ k := by
  rw [words_length_le_iff, B_pow]
  refine Nat.lt_of_le_of_lt (Nat.pow_le_pow_left (Nat.le_of_lt (lt_two_bl N)) q) ?_
  rw [← Nat.pow_mul]
  exact Nat.pow_lt_pow_right (by omega) h
theorem pow_len {N e q : Nat} (h : e * bl N ≤ 65536) (hq : q ≤ e) : (words (N ^ q)).length ≤ 2049 := by
  refine pow_len_k ?_
  have : q * bl N ≤ e * bl N := Nat.mul_le_mul_right _ hq
  rw [Nat.mul_comm]
  omega
theorem small_pow {N : Nat} (h : bl N ≤ 1) {e : Nat} (he : 0 < e) : N ^ e = N := by
  have h2 : N < 2 := by have := (bl_le_iff 1 N).1 h; simpa using this
  have h3 : N = 0 ∨ N = 1 := by omega
  rcases h3 with rfl | rfl
  · exact Nat.zero_pow he
  · exact Nat.one_pow e
theorem div_two_bl (e : Nat) : e / 2 ^ bl e = 0 := Nat.div_eq_of_lt (lt_two_bl e)
end Wd
