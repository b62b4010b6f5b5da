/-
  Plain numbers: bits and shifts of lists of words. No program here.
-/
import Derived.Test.YtjkkeilmnklpcaaNatMath
set_option linter.unusedVariables false
set_option linter.unusedSimpArgs false
namespace Wd

theorem B_pow (k : Nat) : B ^ k = 2 ^ (32 * k) := by rw [B_two, ← Nat.pow_mul]

/-- Is the bit at a place 1? -/
def bitN (n i : Nat) : Bool := decide (n / 2 ^ i % 2 = 1)

/-- What stands from a place on. -/
theorem val_div (l : List Nat) (h : Ok l) (k : Nat) : val l / B ^ k = val (l.drop k) := by
  rw [val_take_drop l k, Nat.add_mul_div_left _ _ (Nat.pow_pos B_pos), Nat.div_eq_of_lt (val_take_lt h k), Nat.zero_add]
theorem val_mod (l : List Nat) (h : Ok l) (k : Nat) : val l % B ^ k = val (l.take k) := by
  rw [val_take_drop l k, Nat.add_mul_mod_self_left, Nat.mod_eq_of_lt (val_take_lt h k)]
theorem pow_split (i : Nat) : 2 ^ i = B ^ (i / 32) * 2 ^ (i % 32) := by
  rw [B_pow, ← Nat.pow_add, Nat.div_add_mod]
theorem even_B (k : Nat) (h : k < 32) : B = 2 ^ k * (2 * 2 ^ (31 - k)) := by
  rw [B_two, ← Nat.mul_assoc, Nat.mul_comm (2 ^ k) 2, Nat.mul_assoc, ← Nat.pow_add, show k + (31 - k) = 31 from by omega]
/-- The bit of a list lies in one word. -/
theorem bit_word (l : List Nat) (h : Ok l) (i : Nat) : val l / 2 ^ i % 2 = l.getD (i / 32) 0 / 2 ^ (i % 32) % 2 := by
  rw [pow_split i, ← Nat.div_div_eq_div_mul, val_div l h, val_drop]
  have hk : i % 32 < 32 := Nat.mod_lt _ (by omega)
  generalize l.getD (i / 32) 0 = x
  generalize val (l.drop (i / 32 + 1)) = v
  generalize i % 32 = k at hk
  rw [even_B k hk, Nat.mul_assoc (2 ^ k), Nat.add_mul_div_left _ _ (Nat.two_pow_pos k), Nat.mul_assoc 2, Nat.add_mul_mod_self_left]

/-- The bits of a right list that isn't empty: its last word decides. -/
theorem bl_add (v x k : Nat) (hv : v < 2 ^ k) (hx : x ≠ 0) : bl (v + 2 ^ k * x) = k + bl x := by
  have e : (v + 2 ^ k * x) / 2 ^ k = x := by rw [Nat.add_mul_div_left _ _ (Nat.two_pow_pos k), Nat.div_eq_of_lt hv, Nat.zero_add]
  rw [bl_shift k _ (by rw [e]; exact hx), e, Nat.add_comm]
theorem words_last (n : Nat) (h : 0 < (words n).length) : (words n).getD ((words n).length - 1) 0 ≠ 0 := by
  intro h0
  have ht := trim_words n
  have hlen : (words n).length - 1 < (words n).length := by omega
  rw [List.getD_eq_getElem?_getD, List.getElem?_eq_getElem hlen] at h0
  have e := trim_take_of_zero hlen h0
  rw [show (words n).length - 1 + 1 = (words n).length from by omega, List.take_length, ht] at e
  have h2 := length_trim_le ((words n).take ((words n).length - 1))
  rw [← e, List.length_take] at h2
  omega
theorem bl_words (n : Nat) (h : 0 < (words n).length) : bl n = 32 * ((words n).length - 1) + bl ((words n).getD ((words n).length - 1) 0) := by
  have hw := val_words n
  have hlen : (words n).length - 1 < (words n).length := by omega
  have e := val_split hlen
  rw [show (words n).length - 1 + 1 = (words n).length from by omega, List.drop_length, val, Nat.mul_zero, Nat.add_zero, hw] at e
  have hlt := val_take_lt (ok_words n) ((words n).length - 1)
  have hl := words_last n h
  have eg : (words n).getD ((words n).length - 1) 0 = (words n)[(words n).length - 1] := by rw [List.getD_eq_getElem?_getD, List.getElem?_eq_getElem hlen]; rfl
  rw [eg] at hl ⊢
  generalize (words n)[(words n).length - 1] = x at *
  generalize val ((words n).take ((words n).length - 1)) = v at *
  generalize (words n).length - 1 = k at *
  rw [B_pow] at e hlt
  rw [e, bl_add v x (32 * k) hlt hl]

/-- The lowest word that isn't 0 decides how many noughts stand at the end. -/
theorem tz_mul_pow (k : Nat) {m : Nat} (h : m ≠ 0) : tz (2 ^ k * m) = k + tz m := by
  have h0 : 2 ^ k * m ≠ 0 := Nat.mul_ne_zero (Nat.ne_of_gt (Nat.two_pow_pos k)) h
  rw [tz_shift k _ h0 (Nat.mul_mod_right _ _), Nat.mul_div_cancel_left _ (Nat.two_pow_pos k), Nat.add_comm]
theorem tz_add_big {x v : Nat} (hx : x ≠ 0) (hlt : x < B) : tz (x + B * v) = tz x := by
  have ht := tz_lt 32 x hx (by rw [← B_two]; exact hlt)
  have hd := tz_dvd x
  have ho := tz_odd_rest hx
  generalize tz x = t at *
  obtain ⟨m, rfl⟩ := hd
  rw [Nat.mul_div_cancel_left _ (Nat.two_pow_pos t)] at ho
  rw [even_B t ht, Nat.mul_assoc (2 ^ t), ← Nat.mul_add, tz_mul_pow t (by omega), tz_odd (by rw [Nat.mul_assoc 2]; omega), Nat.add_zero]
theorem tz_zero : tz 0 = 0 := by rw [tz]; simp
theorem tz_val {l : List Nat} (h : Ok l) {k : Nat} (hk : k < l.length) (hz : val (l.take k) = 0) (hx : l.getD k 0 ≠ 0) : tz (val l) = 32 * k + tz (l.getD k 0) := by
  rw [val_take_drop l k, hz, Nat.zero_add, val_drop, B_pow, tz_mul_pow _ (by omega), tz_add_big hx (ok_getD h k)]

/-- Shifted up: i words are done. -/
def UpAt (a o : List Nat) (w b i : Nat) : Prop := o.getD (w + i) 0 < 2 ^ b ∧ val (o.take (w + i + 1)) = B ^ w * (2 ^ b * val (a.take i))
theorem upAt_zero (a : List Nat) (n w b : Nat) : UpAt a (List.replicate n 0) w b 0 := by
  refine ⟨?_, ?_⟩
  · rw [List.getD_eq_getElem?_getD, List.getElem?_replicate]
    split <;> exact Nat.two_pow_pos b
  · rw [List.take_replicate, val_replicate]; simp [val]
theorem up_low {x b : Nat} (hb : b < 32) : x * 2 ^ b % B % 2 ^ b = 0 := by
  have e := even_B b hb
  have h1 : x * 2 ^ b % B % 2 ^ b = x * 2 ^ b % 2 ^ b := by
    rw [e, Nat.mod_mul_right_mod]
  rw [h1, Nat.mul_mod_left]
theorem up_add_lt {x b h : Nat} (hb : b < 32) (hh : h < 2 ^ b) : h + x * 2 ^ b % B < B := by
  have h0 := up_low (x := x) hb
  have h1 : x * 2 ^ b % B < B := Nat.mod_lt _ B_pos
  obtain ⟨m, hm⟩ := Nat.dvd_of_mod_eq_zero h0
  have e := even_B b hb
  rw [hm] at h1 ⊢
  generalize 2 * 2 ^ (31 - b) = q at e
  rw [e] at h1 ⊢
  have hq : m < q := Nat.lt_of_mul_lt_mul_left h1
  have h2 : 2 ^ b * (m + 1) ≤ 2 ^ b * q := Nat.mul_le_mul_left _ hq
  rw [Nat.mul_add] at h2
  omega
theorem upAt_step {a o : List Nat} {w b i : Nat} (hb : b < 32) (hx : a.getD i 0 < B) (hi : w + i + 1 < o.length) (h : UpAt a o w b i) :
    UpAt a ((o.set (w + i) (o.getD (w + i) 0 + a.getD i 0 * 2 ^ b % B)).set (w + i + 1) (a.getD i 0 * 2 ^ b / B)) w b (i + 1) := by
  obtain ⟨h1, h2⟩ := h
  refine ⟨?_, ?_⟩
  · rw [show w + (i + 1) = w + i + 1 from by omega, List.getD_eq_getElem?_getD, List.getElem?_set_self (by rw [List.length_set]; exact hi)]
    show a.getD i 0 * 2 ^ b / B < 2 ^ b
    refine Nat.div_lt_of_lt_mul ?_
    exact Nat.mul_lt_mul_of_pos_right hx (Nat.two_pow_pos b)
  · rw [show w + (i + 1) + 1 = w + i + 1 + 1 from by omega, val_take_set (by rw [List.length_set]; exact hi), val_take_set (by omega), val_take_succ a i]
    rw [val_take_succ o (w + i)] at h2
    have e := Nat.mod_add_div (a.getD i 0 * 2 ^ b) B
    generalize a.getD i 0 * 2 ^ b % B = r at *
    generalize hq : a.getD i 0 * 2 ^ b / B = q at *
    have e2 : B ^ (w + i) * (r + B * q) = B ^ (w + i) * (a.getD i 0 * 2 ^ b) := by rw [e]
    have e3 : B ^ (w + i + 1) = B ^ (w + i) * B := Nat.pow_succ _ _
    have e4 : B ^ (w + i) = B ^ w * B ^ i := Nat.pow_add _ _ _
    rw [e3, Nat.mul_add, Nat.mul_assoc (B ^ (w + i)) B q]
    rw [Nat.mul_add] at e2
    rw [Nat.mul_add, Nat.mul_add, ← h2]
    have e5 : B ^ w * (2 ^ b * (B ^ i * a.getD i 0)) = B ^ (w + i) * (a.getD i 0 * 2 ^ b) := by rw [e4]; ac_rfl
    rw [e5, ← e2]
    ac_rfl
theorem upAt_end {a o : List Nat} {w b : Nat} (ho : o.length = w + a.length + 1) (h : UpAt a o w b a.length) : val o = val a * 2 ^ (32 * w + b) := by
  have h2 := h.2
  rw [List.take_of_length_le (by omega), List.take_length, B_pow, ← Nat.mul_assoc, ← Nat.pow_add] at h2
  rw [h2, Nat.mul_comm]

/-- Shifted down: i words are done. -/
def DownAt (a o : List Nat) (w b i : Nat) : Prop := val (o.take i) = val a / 2 ^ (32 * w + b) % B ^ i
theorem downAt_zero (a o : List Nat) (w b : Nat) : DownAt a o w b 0 := by simp [DownAt, val, Nat.mod_one]
theorem down_digit {a : List Nat} (h : Ok a) {w b i : Nat} (hb : b < 32) : val a / 2 ^ (32 * w + b) / B ^ i % B = (a.getD (w + i) 0 + B * a.getD (w + i + 1) 0) / 2 ^ b % B := by
  have e1 : val a / 2 ^ (32 * w + b) / B ^ i = val (a.drop (w + i)) / 2 ^ b := by
    rw [Nat.div_div_eq_div_mul, Nat.pow_add, ← B_pow, Nat.mul_assoc, Nat.mul_comm (2 ^ b), ← Nat.mul_assoc, ← Nat.pow_add, ← Nat.div_div_eq_div_mul, val_div a h]
  rw [e1, val_drop, val_drop a (w + i + 1)]
  generalize a.getD (w + i) 0 = x
  generalize a.getD (w + i + 1) 0 = y
  generalize val (a.drop (w + i + 1 + 1)) = v
  have e := even_B b hb
  have e2 : x + B * (y + B * v) = (x + B * y) + 2 ^ b * (B * (2 * 2 ^ (31 - b) * v)) := by
    rw [Nat.mul_add, ← Nat.add_assoc]
    congr 1
    conv => lhs; rw [show B * (B * v) = B * B * v from by rw [Nat.mul_assoc]]
    conv => lhs; arg 1; arg 2; rw [e]
    ac_rfl
  rw [e2, Nat.add_mul_div_left _ _ (Nat.two_pow_pos b), Nat.add_mul_mod_self_left]
theorem downAt_step {a o : List Nat} (h : Ok a) {w b i : Nat} (hb : b < 32) (hi : i < o.length) (hd : DownAt a o w b i) : DownAt a (o.set i ((a.getD (w + i) 0 + B * a.getD (w + i + 1) 0) / 2 ^ b % B)) w b (i + 1) := by
  unfold DownAt at hd ⊢
  rw [val_take_set hi, hd, ← down_digit h hb, Nat.pow_succ, Nat.mod_mul]
theorem downAt_end {a o : List Nat} (h : Ok a) {w b : Nat} (hw : w ≤ a.length) (ho : o.length = a.length - w) (hd : DownAt a o w b (a.length - w)) : val o = val a / 2 ^ (32 * w + b) := by
  unfold DownAt at hd
  rw [List.take_of_length_le (by omega)] at hd
  rw [hd]
  refine Nat.mod_eq_of_lt ?_
  refine Nat.lt_of_le_of_lt (Nat.div_le_div_left (Nat.pow_le_pow_right (by omega) (Nat.le_add_right (32 * w) b)) (Nat.two_pow_pos _)) ?_
  rw [← B_pow]
  refine Nat.div_lt_of_lt_mul ?_
  rw [← Nat.pow_add, show w + (a.length - w) = a.length from by omega]
  exact val_lt h
theorem down_far {a : List Nat} (h : Ok a) {w b : Nat} (hw : a.length ≤ w) : val a / 2 ^ (32 * w + b) = 0 := by
  refine Nat.div_eq_of_lt (Nat.lt_of_lt_of_le (val_lt h) ?_)
  rw [B_pow]
  exact Nat.pow_le_pow_right (by omega) (by omega)

/-- The low bits. -/
theorem low_val {a : List Nat} (h : Ok a) {w b : Nat} (hb : b < 32) (hw : w < a.length) : val ((a.take (w + 1)).set w (a.getD w 0 % 2 ^ b)) = val a % 2 ^ (32 * w + b) := by
  have e : (a.take (w + 1)).set w (a.getD w 0 % 2 ^ b) = ((a.take (w + 1)).set w (a.getD w 0 % 2 ^ b)).take (w + 1) :=
    (List.take_of_length_le (l := (a.take (w + 1)).set w (a.getD w 0 % 2 ^ b)) (by rw [List.length_set, List.length_take]; omega)).symm
  rw [e, val_take_set (by rw [List.length_take]; omega), List.take_take, Nat.min_eq_left (by omega), Nat.pow_add, ← B_pow, Nat.mod_mul, val_mod a h, val_div a h]
  congr 2
  rw [val_drop]
  conv => rhs; rw [even_B b hb, Nat.mul_assoc (2 ^ b), Nat.add_mul_mod_self_left]
theorem low_far {a : List Nat} (h : Ok a) {w b : Nat} (hw : a.length ≤ w) : val a % 2 ^ (32 * w + b) = val a := by
  refine Nat.mod_eq_of_lt (Nat.lt_of_lt_of_le (val_lt h) ?_)
  rw [B_pow]
  exact Nat.pow_le_pow_right (by omega) (by omega)

/-- Bits gathered one by one: the number whose bits they are, and how far. -/
theorem bit_step (t i : Nat) : t % 2 ^ (i + 1) = t % 2 ^ i + t / 2 ^ i % 2 * 2 ^ i := by
  rw [Nat.pow_succ, Nat.mod_mul, Nat.mul_comm (2 ^ i)]
theorem bits_word_lt {o : List Nat} (h : Ok o) {i : Nat} (hv : val o < 2 ^ i) : o.getD (i / 32) 0 < 2 ^ (i % 32) := by
  rw [pow_split i] at hv
  rw [val_take_drop o (i / 32), val_drop] at hv
  have : B ^ (i / 32) * o.getD (i / 32) 0 < B ^ (i / 32) * 2 ^ (i % 32) := by
    rw [Nat.mul_add] at hv; omega
  exact Nat.lt_of_mul_lt_mul_left this
theorem val_set {o : List Nat} {k : Nat} (hk : k < o.length) (x : Nat) : val (o.set k x) + B ^ k * o.getD k 0 = val o + B ^ k * x := by
  have h1 := val_take_drop (o.set k x) (k + 1)
  have h2 := val_take_drop o (k + 1)
  rw [val_take_set hk, List.drop_set_of_lt (by omega)] at h1
  rw [val_take_succ] at h2
  rw [h1]
  conv => rhs; rw [h2]
  ac_rfl
theorem bits_set {o : List Nat} {i : Nat} (hk : i / 32 < o.length) : val (o.set (i / 32) (o.getD (i / 32) 0 + 2 ^ (i % 32))) = val o + 2 ^ i := by
  have h := val_set hk (o.getD (i / 32) 0 + 2 ^ (i % 32))
  rw [Nat.mul_add, ← pow_split] at h
  omega

/-- The highest bit decides the length; the lowest how many noughts. -/
theorem bl_top {v n : Nat} (h : v < 2 ^ (n + 1)) (hb : bitN v n = true) : bl v = n + 1 := by
  have h1 : v / 2 ^ n % 2 = 1 := by simpa [bitN] using hb
  have h2 : v / 2 ^ n < 2 := by
    refine Nat.div_lt_of_lt_mul ?_
    rw [← Nat.pow_succ]; exact h
  have h3 : v / 2 ^ n = 1 := by generalize v / 2 ^ n = q at *; omega
  rw [bl_shift n v (by omega), h3, bl_small (by omega), Nat.add_comm]
theorem lt_of_bit {v n : Nat} (h : v < 2 ^ (n + 1)) (hb : bitN v n = false) : v < 2 ^ n := by
  have h1 : ¬ v / 2 ^ n % 2 = 1 := by simpa [bitN] using hb
  have h2 : v / 2 ^ n < 2 := by
    refine Nat.div_lt_of_lt_mul ?_
    rw [← Nat.pow_succ]; exact h
  have h3 : v / 2 ^ n = 0 := by generalize v / 2 ^ n = q at *; omega
  exact (Nat.div_eq_zero_iff_lt (Nat.two_pow_pos n)).1 h3
theorem mod_of_bit {v n : Nat} (h : v % 2 ^ n = 0) (hb : bitN v n = false) : v % 2 ^ (n + 1) = 0 := by
  have h1 : ¬ v / 2 ^ n % 2 = 1 := by simpa [bitN] using hb
  rw [bit_step, h, show v / 2 ^ n % 2 = 0 from by omega, Nat.zero_mul]
theorem tz_of_bit {v n : Nat} (h : v % 2 ^ n = 0) (hb : bitN v n = true) : tz v = n := by
  have h1 : v / 2 ^ n % 2 = 1 := by simpa [bitN] using hb
  have h0 : v ≠ 0 := fun h0 => by rw [h0, Nat.zero_div] at h1; omega
  rw [tz_shift n v h0 h, tz_odd h1, Nat.zero_add]
theorem bl_of_zero {v : Nat} (h : v < 2 ^ 0) : bl v = 0 := by
  have : v = 0 := by simpa using h
  rw [this, bl_zero]
theorem val_lt_two {l : List Nat} (h : Ok l) : val l < 2 ^ (32 * l.length) := by rw [← B_pow]; exact val_lt h
theorem tz_of_mod {l : List Nat} (h : Ok l) (hm : val l % 2 ^ (32 * l.length) = 0) : tz (val l) = 0 := by
  rw [Nat.mod_eq_of_lt (val_lt_two h)] at hm
  rw [hm, tz_zero]
end Wd
