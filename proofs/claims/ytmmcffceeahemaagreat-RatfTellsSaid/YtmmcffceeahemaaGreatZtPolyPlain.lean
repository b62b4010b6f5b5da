/-
  Plain polynomials: lists of fractions, told by their values. No program here.
  Polynomials, plain: noughts behind; sums of rows of one length; products entry by entry.
  Polynomials, plain: products as the program sums them up; how long the coefficients get, over one common lower number.
  Polynomials, plain: how long the coefficients get, over one common lower number.
  Polynomials, plain: lengths of products, division and its uniqueness, the common divisor.
  Polynomials, plain: division as the program goes through it, and how long its coefficients get.
  Polynomials, plain: the common divisor as the program goes through it, and how long its coefficients get.
  Fewer equations than unknowns: a small whole solution (more doves than holes). Plain.
  Polynomials, plain: what is spanned with small multipliers is a multiple of the rest that comes next; so the rests of the common divisor, and what is cancelled, stay short.
  Polynomials, plain: the rests of the common divisor are short; and so is a quotient of two that has been cancelled.
-/
import Derived.Test.YtmmcffceeahemaaGreatZtPlain
import Derived.Test.YtmmcffceeahemaaGreatZtShort
set_option linter.unusedVariables false
set_option linter.unusedSimpArgs false
namespace Pq
/-- The value at a place. -/
def E : List Rat → Rat → Rat
 | [], _ => 0
 | a :: p, x => a + x * E p x
/-- The derivative's value. -/
def D : List Rat → Rat → Rat
 | [], _ => 0
 | _ :: p, x => E p x + x * D p x
def add : List Rat → List Rat → List Rat
 | [], q => q
 | a :: p, [] => a :: p
 | a :: p, b :: q => (a + b) :: add p q
def sc (c : Rat) (p : List Rat) : List Rat := p.map (c * ·)
def mul : List Rat → List Rat → List Rat
 | [], _ => []
 | a :: p, q => add (sc a q) (0 :: mul p q)
/-- Without the noughts at its end. -/
def nm : List Rat → List Rat
 | [] => []
 | a :: p => if a = 0 ∧ nm p = [] then [] else a :: nm p
theorem den_mul (a : Rat) : (a.den : Rat) * a = (a.num : Rat) := by
 have h : (a.num : Rat) / (a.den : Rat) = a := by rw [← Rat.mkRat_eq_div, Rat.mkRat_self]
 have hd : (a.den : Rat) ≠ 0 := by
  intro e
  have : a.den = 0 := by exact_mod_cast e
  exact a.den_nz this
 rw [Rat.mul_comm]
 have h2 := Rat.div_mul_cancel (a := (a.num : Rat)) hd
 rw [h] at h2
 exact h2
theorem E_add : ∀ (p q : List Rat) (x : Rat), E (add p q) x = E p x + E q x
 | [], q, x => by simp only [add, E]; grind
 | a :: p, [], x => by simp only [add, E]; grind
 | a :: p, b :: q, x => by simp only [add, E, E_add p q x]; grind
theorem E_sc (c : Rat) : ∀ (p : List Rat) (x : Rat), E (sc c p) x = c * E p x
 | [], x => by simp [sc, E]
 | a :: p, x => by
   have := E_sc c p x
   unfold sc at this ⊢
   simp only [List.map_cons, E, this]
   grind
theorem E_mul : ∀ (p q : List Rat) (x : Rat), E (mul p q) x = E p x * E q x
 | [], q, x => by simp [mul, E]
 | a :: p, q, x => by simp only [mul, E_add, E_sc, E, E_mul p q x]; grind
theorem E_append : ∀ (p q : List Rat) (x : Rat), E (p ++ q) x = E p x + x ^ p.length * E q x
 | [], q, x => by simp [E, Rat.zero_add]
 | a :: p, q, x => by simp only [List.cons_append, E, E_append p q x, List.length_cons, Rat.pow_succ]; grind
theorem D_add : ∀ (p q : List Rat) (x : Rat), D (add p q) x = D p x + D q x
 | [], q, x => by simp only [add, D]; grind
 | a :: p, [], x => by simp only [add, D]; grind
 | a :: p, b :: q, x => by simp only [add, D, E_add, D_add p q x]; grind
theorem D_sc (c : Rat) : ∀ (p : List Rat) (x : Rat), D (sc c p) x = c * D p x
 | [], x => by simp [sc, D]
 | a :: p, x => by
   have h := D_sc c p x
   have h2 := E_sc c p x
   unfold sc at h h2 ⊢
   simp only [List.map_cons, D, h, h2]
   grind
/-- Leibniz. -/
theorem D_mul : ∀ (p q : List Rat) (x : Rat), D (mul p q) x = D p x * E q x + E p x * D q x
 | [], q, x => by simp only [mul, D, E]; grind
 | a :: p, q, x => by simp only [mul, D_add, D_sc, D, E, E_mul, D_mul p q x]; grind
/-- All noughts. -/
def Z (p : List Rat) : Prop := ∀ a ∈ p, a = 0
theorem E_of_Z : ∀ {p : List Rat}, Z p → ∀ x, E p x = 0
 | [], _, x => rfl
 | a :: p, h, x => by
   have h1 : a = 0 := h a (by simp)
   have h2 := E_of_Z (p := p) (fun b hb => h b (by simp [hb])) x
   simp only [E, h1, h2]
   grind
/-- At whole places the values have one lower number. -/
theorem E_den : ∀ p : List Rat, ∃ d : Nat, d ≠ 0 ∧ ∀ n : Nat, ∃ z : Int, (d : Rat) * E p (n : Rat) = (z : Rat)
 | [] => ⟨1, by omega, fun n => ⟨0, by simp [E]⟩⟩
 | a :: p => by
   obtain ⟨d, hd, h⟩ := E_den p
   refine ⟨d * a.den, Nat.mul_ne_zero hd a.den_nz, fun n => ?_⟩
   obtain ⟨z, hz⟩ := h n
   refine ⟨d * a.num + a.den * (n * z), ?_⟩
   have ha : (a.den : Rat) * a = (a.num : Rat) := den_mul a
   simp only [E]
   push_cast
   grind
theorem zero_of_E : ∀ (p : List Rat) (N : Nat), (∀ n : Nat, N ≤ n → E p (n : Rat) = 0) → Z p
 | [], N, h => by simp [Z]
 | a :: p, N, h => by
   obtain ⟨d, hd, hz⟩ := E_den p
   have ha : (a.den : Rat) * a = (a.num : Rat) := den_mul a
   have key : ∀ n : Nat, N ≤ n → ∃ z : Int, (d : Int) * a.num + a.den * (n * z) = 0 := fun n hn => by
    obtain ⟨z, e⟩ := hz n
    refine ⟨z, ?_⟩
    have e2 := h n hn
    simp only [E] at e2
    have : (((d : Int) * a.num + a.den * (n * z) : Int) : Rat) = 0 := by
     push_cast
     grind
    exact_mod_cast this
   have ha0 : a = 0 := by
    obtain ⟨z, e⟩ := key (N + ((d : Int) * a.num).natAbs + 1) (by omega)
    have hz0 : z = 0 := by
     apply Classical.byContradiction
     intro hne
     obtain ⟨M, hM⟩ : ∃ M, (d : Int) * a.num = M := ⟨_, rfl⟩
     rw [hM] at e
     have e3 : M.natAbs = a.den * ((N + M.natAbs + 1) * z.natAbs) := by
      have : M = -(a.den * (((N + M.natAbs + 1 : Nat) : Int) * z)) := by omega
      have h9 := congrArg Int.natAbs this
      rw [Int.natAbs_neg, Int.natAbs_mul, Int.natAbs_mul, Int.natAbs_natCast, Int.natAbs_natCast] at h9
      exact h9
     have h1 : 1 ≤ z.natAbs := by omega
     have h2 : 1 ≤ a.den := a.den_pos
     have h3 : N + M.natAbs + 1 ≤ (N + M.natAbs + 1) * z.natAbs := Nat.le_mul_of_pos_right _ h1
     have h4 : (N + M.natAbs + 1) * z.natAbs ≤ a.den * ((N + M.natAbs + 1) * z.natAbs) := Nat.le_mul_of_pos_left _ h2
     omega
    subst hz0
    have e4 : (d : Int) * a.num = 0 := by simpa using e
    rcases Int.mul_eq_zero.1 e4 with h5 | h5
    · exact absurd (by omega) hd
    · exact Rat.num_eq_zero.1 h5
   have hp := zero_of_E p (N + 1) (fun n hn => by
    have := h n (by omega)
    simp only [E, ha0] at this
    have hn0 : (n : Rat) ≠ 0 := by
     intro e
     have : n = 0 := by exact_mod_cast e
     omega
    have : (n : Rat) * E p (n : Rat) = 0 := by grind
    rcases Rat.mul_eq_zero.1 this with h6 | h6
    · exact absurd h6 hn0
    · exact h6)
   intro b hb
   rcases List.mem_cons.1 hb with rfl | hb
   · exact ha0
   · exact hp b hb
theorem nm_nil_iff : ∀ p : List Rat, nm p = [] ↔ Z p
 | [] => by simp [nm, Z]
 | a :: p => by
   have ih := nm_nil_iff p
   unfold nm
   constructor
   · intro h
     split at h
     · rename_i hh
       intro b hb
       rcases List.mem_cons.1 hb with rfl | hb
       · exact hh.1
       · exact ih.1 hh.2 b hb
     · cases h
   · intro h
     rw [if_pos ⟨h a (by simp), ih.2 (fun b hb => h b (by simp [hb]))⟩]
theorem E_nm : ∀ (p : List Rat) (x : Rat), E (nm p) x = E p x
 | [], x => rfl
 | a :: p, x => by
   have ih := E_nm p x
   unfold nm
   split
   · rename_i h
     have := E_of_Z ((nm_nil_iff p).1 h.2) x
     simp only [E, h.1, this]
     grind
   · simp only [E, ih]
theorem nm_len : ∀ p : List Rat, (nm p).length ≤ p.length
 | [] => Nat.le_refl _
 | a :: p => by
   have := nm_len p
   unfold nm
   split <;> simp <;> omega
theorem nm_nm : ∀ p : List Rat, nm (nm p) = nm p
 | [] => rfl
 | a :: p => by
   have ih := nm_nm p
   by_cases h : a = 0 ∧ nm p = []
   · have e : nm (a :: p) = [] := by unfold nm; rw [if_pos h]
     rw [e]; rfl
   · have e : nm (a :: p) = a :: nm p := by conv => lhs; unfold nm; rw [if_neg h]
     rw [e]
     show (if a = 0 ∧ nm (nm p) = [] then [] else a :: nm (nm p)) = a :: nm p
     rw [ih, if_neg h]
/-- What has the same values is the same but for noughts at the end. -/
theorem nm_ext : ∀ {p q : List Rat}, (∀ x, E p x = E q x) → nm p = nm q
 | [], q, h => by
   have : Z q := zero_of_E q 0 (fun n _ => by rw [← h]; rfl)
   rw [(nm_nil_iff q).2 this]; rfl
 | a :: p, [], h => by
   have : Z (a :: p) := zero_of_E _ 0 (fun n _ => by rw [h]; rfl)
   rw [(nm_nil_iff _).2 this]; rfl
 | a :: p, b :: q, h => by
   have hab : a = b := by
    have := h 0
    simp only [E] at this
    grind
   subst hab
   have hz : Z (add p (sc (-1) q)) := zero_of_E _ 1 (fun n hn => by
    have := h n
    simp only [E] at this
    have hn0 : (n : Rat) ≠ 0 := by
     intro e
     have : n = 0 := by exact_mod_cast e
     omega
    have h2 : (n : Rat) * (E p n - E q n) = 0 := by grind
    rw [E_add, E_sc]
    rcases Rat.mul_eq_zero.1 h2 with h3 | h3
    · exact absurd h3 hn0
    · grind)
   have ih := nm_ext (p := p) (q := q) (fun x => by
    have := E_of_Z hz x
    rw [E_add, E_sc] at this
    grind)
   unfold nm
   rw [ih]
/-- The value where one coefficient is raised. -/
theorem E_set : ∀ (o : List Rat) (j : Nat) (y : Rat) (x : Rat), j < o.length → E (o.set j (o.getD j 0 + y)) x = E o x + x ^ j * y
 | [], j, y, x, h => by simp at h
 | a :: o, 0, y, x, h => by simp [E]; grind
 | a :: o, j + 1, y, x, h => by
   have := E_set o j y x (by simpa using h)
   simp only [List.getD_cons_succ, List.set_cons_succ, E, this, Rat.pow_succ]
   grind
theorem E_replicate (n : Nat) (x : Rat) : E (List.replicate n 0) x = 0 := E_of_Z (fun _ ha => (List.mem_replicate.1 ha).2) x
theorem E_take_succ {p : List Rat} {k : Nat} (h : k < p.length) (x : Rat) : E (p.take (k + 1)) x = E (p.take k) x + x ^ k * p[k] := by
 rw [List.take_succ_eq_append_getElem h, E_append]
 simp only [E, List.length_take, Nat.min_eq_left (Nat.le_of_lt h)]
 grind
theorem sc_one (p : List Rat) : sc 1 p = p := by
 unfold sc
 induction p with
 | nil => rfl
 | cons a p ih => rw [List.map_cons, ih, Rat.one_mul]
theorem nm_take : ∀ {p : List Rat} {n : Nat}, n ≤ p.length → (∀ i, n ≤ i → p.getD i 0 = 0) → (n = 0 ∨ p.getD (n - 1) 0 ≠ 0) → nm p = p.take n
 | [], n, _, _, _ => by simp [nm]
 | a :: p, 0, _, h, _ => by
   rw [(nm_nil_iff (a :: p)).2]
   · rfl
   · intro b hb
     obtain ⟨i, hi, rfl⟩ := List.getElem_of_mem hb
     have := h i (Nat.zero_le _)
     simpa [List.getD_eq_getElem?_getD, List.getElem?_eq_getElem hi] using this
 | a :: p, n + 1, hn, h, h2 => by
   have hn' : n ≤ p.length := by simpa using hn
   have hz : ∀ i, n ≤ i → p.getD i 0 = 0 := fun i hi => by
    have := h (i + 1) (by omega)
    simpa using this
   by_cases h0 : n = 0
   · subst h0
     have ha : a ≠ 0 := by
      rcases h2 with h2 | h2
      · omega
      · simpa using h2
     have ih := nm_take (p := p) (n := 0) (Nat.zero_le _) hz (.inl rfl)
     show (if a = 0 ∧ nm p = [] then [] else a :: nm p) = a :: p.take 0
     rw [if_neg (fun hh => ha hh.1), ih]
   · have h3 : p.getD (n - 1) 0 ≠ 0 := by
      rcases h2 with h2 | h2
      · omega
      · have e : n + 1 - 1 = (n - 1) + 1 := by omega
        rw [e] at h2
        simpa using h2
     have ih := nm_take (p := p) (n := n) hn' hz (.inr h3)
     have hne : nm p ≠ [] := by
      rw [ih]
      intro e
      have h9 : (p.take n).length = 0 := by rw [e]; rfl
      rw [List.length_take] at h9
      omega
     show (if a = 0 ∧ nm p = [] then [] else a :: nm p) = a :: p.take n
     rw [if_neg (fun hh => hne hh.2), ih]
/-- The place of the last one that is not 0. -/
theorem getD_at {p : List Rat} {i : Nat} (h : i < p.length) : p.getD i 0 = p[i] := by simp [List.getD_eq_getElem?_getD, List.getElem?_eq_getElem h]
end Pq
namespace Pq
theorem rpad_eq {qs : List Rat} {n : Nat} (h : qs.length ≤ n) : (List.range n).map (fun i => if i < n then qs.getD i 0 else 0) = qs ++ List.replicate (n - qs.length) 0 := by
 apply List.ext_getElem (by simp; omega)
 intro i h1 h2
 have hi : i < n := by simpa using h1
 simp only [List.getElem_map, List.getElem_range, if_pos hi, List.getElem_append, List.getElem_replicate]
 by_cases hq : i < qs.length
 · rw [dif_pos hq]; simp [List.getD_eq_getElem?_getD, List.getElem?_eq_getElem hq]
 · rw [dif_neg hq]; simp [List.getD_eq_getElem?_getD, List.getElem?_eq_none (Nat.le_of_not_lt hq)]
theorem E_rpad {qs : List Rat} {n : Nat} (h : qs.length ≤ n) (x : Rat) : E ((List.range n).map (fun i => if i < n then qs.getD i 0 else 0)) x = E qs x := by
 rw [rpad_eq h, E_append, E_replicate, Rat.mul_zero, Rat.add_zero]
/-- The sum of two rows of one length. -/
def zip : List Rat → List Rat → List Rat
 | a :: p, b :: q => (a + b) :: zip p q
 | _, _ => []
theorem zip_len : ∀ (p q : List Rat), p.length = q.length → (zip p q).length = p.length
 | [], [], _ => rfl
 | a :: p, b :: q, h => by simp [zip, zip_len p q (by simpa using h)]
 | [], b :: q, h => by simp at h
 | a :: p, [], h => by simp at h
theorem E_zip : ∀ (p q : List Rat) (x : Rat), p.length = q.length → E (zip p q) x = E p x + E q x
 | [], [], x, _ => by
   show (0 : Rat) = 0 + 0
   exact (Rat.add_zero 0).symm
 | a :: p, b :: q, x, h => by
   show a + b + x * E (zip p q) x = (a + x * E p x) + (b + x * E q x)
   rw [E_zip p q x (by simpa using h)]
   grind
 | [], b :: q, x, h => by simp at h
 | a :: p, [], x, h => by simp at h
/-- The sum of the padded rows means the sum. -/
theorem nm_zip {p q P Q : List Rat} (h : P.length = Q.length) (hp : ∀ x, E P x = E p x) (hq : ∀ x, E Q x = E q x) : nm (zip P Q) = nm (add p q) :=
 nm_ext fun x => by rw [E_zip P Q x h, hp, hq, E_add]
/-- The sums laid one by one. -/
def zt (p q : List Rat) (j : Nat) : List Rat := (List.range p.length).map (fun i => if i < j then p.getD i 0 + q.getD i 0 else p.getD i 0)
theorem zt_len (p q : List Rat) (j : Nat) : (zt p q j).length = p.length := by simp [zt]
theorem zip_getD : ∀ (p q : List Rat) (i : Nat), p.length = q.length → (zip p q).getD i 0 = p.getD i 0 + q.getD i 0
 | [], [], i, _ => by simp [zip, Rat.add_zero]
 | a :: p, b :: q, 0, h => by simp [zip]
 | a :: p, b :: q, i + 1, h => by simpa [zip] using zip_getD p q i (by simpa using h)
 | [], b :: q, i, h => by simp at h
 | a :: p, [], i, h => by simp at h
theorem zt_all {p q : List Rat} (h : q.length = p.length) : zt p q p.length = zip p q := by
 apply List.ext_getElem (by rw [zt_len, zip_len _ _ h.symm])
 intro i h1 h2
 have hi : i < p.length := by rw [zt_len] at h1; exact h1
 have e := zip_getD p q i h.symm
 rw [List.getD_eq_getElem?_getD, List.getElem?_eq_getElem h2, Option.getD_some] at e
 rw [e]
 simp only [zt, List.getElem_map, List.getElem_range, if_pos hi]
theorem nm_zt {p q P Q : List Rat} (h : Q.length = P.length) (hp : ∀ x, E P x = E p x) (hq : ∀ x, E Q x = E q x) : nm (zt P Q P.length) = nm (add p q) := by rw [zt_all h]; exact nm_zip h.symm hp hq
/-- One less another one. -/
def sub (p q : List Rat) : List Rat := add p (sc (-1) q)
theorem E_sub (p q : List Rat) (x : Rat) : E (sub p q) x = E p x - E q x := by
 unfold sub
 rw [E_add, E_sc]
 grind
theorem nm_sub (p q : List Rat) : nm (add p (nm (sc (-1) q))) = nm (sub p q) := nm_ext fun x => by rw [E_sub, E_add, E_nm, E_sc]; grind
end Pq
namespace Pq
/-- x times the first j of q is added, i places up. -/
def mrow (x : Rat) (q : List Rat) (i : Nat) : Nat → List Rat → List Rat
 | 0, o => o
 | j + 1, o => (mrow x q i j o).set (i + j) ((mrow x q i j o).getD (i + j) 0 + x * q.getD j 0)
/-- The first i of p times q. -/
def mall (p q : List Rat) : Nat → List Rat
 | 0 => List.replicate (p.length + q.length) 0
 | i + 1 => mrow (p.getD i 0) q i q.length (mall p q i)
theorem mrow_len (x : Rat) (q : List Rat) (i : Nat) : ∀ (j : Nat) (o : List Rat), (mrow x q i j o).length = o.length
 | 0, o => rfl
 | j + 1, o => by rw [mrow, List.length_set, mrow_len x q i j o]
theorem mall_len (p q : List Rat) : ∀ i, (mall p q i).length = p.length + q.length
 | 0 => by simp [mall]
 | i + 1 => by rw [mall, mrow_len, mall_len p q i]
theorem set_getD (o : List Rat) (n : Nat) : o.set n (o.getD n 0) = o := by
 apply List.ext_getElem (by simp)
 intro i h1 h2
 rw [List.getElem_set]
 split
 · rename_i h; subst h; simp [List.getD_eq_getElem?_getD, List.getElem?_eq_getElem h2]
 · rfl
theorem mrow_zero (q : List Rat) (i : Nat) : ∀ (j : Nat) (o : List Rat), mrow 0 q i j o = o
 | 0, o => rfl
 | j + 1, o => by rw [mrow, mrow_zero q i j o, Rat.zero_mul, Rat.add_zero, set_getD]
theorem rpow_add (t : Rat) (i : Nat) : ∀ j, t ^ (i + j) = t ^ i * t ^ j
 | 0 => by rw [Nat.add_zero, Rat.pow_zero, Rat.mul_one]
 | j + 1 => by rw [← Nat.add_assoc, Rat.pow_succ, Rat.pow_succ, rpow_add t i j, Rat.mul_assoc]
theorem E_mrow (x : Rat) (q : List Rat) (i : Nat) (t : Rat) : ∀ (j : Nat) (o : List Rat), i + j ≤ o.length → j ≤ q.length → E (mrow x q i j o) t = E o t + t ^ i * (x * E (q.take j) t)
 | 0, o, _, _ => by simp only [mrow, List.take_zero, E]; grind
 | j + 1, o, h, hq => by
   have ih := E_mrow x q i t j o (by omega) (by omega)
   have hj : j < q.length := by omega
   rw [mrow, E_set _ _ _ _ (by rw [mrow_len]; omega), ih, E_take_succ hj, rpow_add]
   have e : q.getD j 0 = q[j] := by simp [List.getD_eq_getElem?_getD, List.getElem?_eq_getElem hj]
   rw [e]
   grind
theorem E_mall (p q : List Rat) (t : Rat) : ∀ i, i ≤ p.length → E (mall p q i) t = E (p.take i) t * E q t
 | 0, _ => by rw [mall, E_replicate]; simp [E]
 | i + 1, h => by
   have hi : i < p.length := by omega
   have e : p.getD i 0 = p[i] := by simp [List.getD_eq_getElem?_getD, List.getElem?_eq_getElem hi]
   rw [mall, E_mrow _ _ _ _ _ _ (by rw [mall_len]; omega) (Nat.le_refl _), E_mall p q t i (by omega), E_take_succ hi, List.take_length, e]
   grind
theorem nm_mall (p q : List Rat) : nm (mall p q p.length) = nm (mul p q) := nm_ext fun x => by
 rw [E_mall p q x _ (Nat.le_refl _), List.take_length, E_mul]
/-- A fraction over a lower number that is given, its upper one at most so great. -/
def Cm (d N : Nat) (v : Rat) : Prop := ∃ n : Int, v * (d : Rat) = (n : Rat) ∧ n.natAbs ≤ N
theorem Cm.zero (d N : Nat) : Cm d N 0 := ⟨0, by rw [Rat.zero_mul]; rfl, by simp⟩
theorem Cm.mono {d N M : Nat} {v : Rat} (h : Cm d N v) (hm : N ≤ M) : Cm d M v := by obtain ⟨n, h1, h2⟩ := h; exact ⟨n, h1, Nat.le_trans h2 hm⟩
theorem Cm.add {d N M : Nat} {a b : Rat} (h : Cm d N a) (k : Cm d M b) : Cm d (N + M) (a + b) := by
 obtain ⟨n, h1, h2⟩ := h
 obtain ⟨m, k1, k2⟩ := k
 refine ⟨n + m, ?_, by omega⟩
 rw [Rat.add_mul, h1, k1]; push_cast; rfl
theorem Cm.neg {d N : Nat} {a : Rat} (h : Cm d N a) : Cm d N (-a) := by
 obtain ⟨n, h1, h2⟩ := h
 refine ⟨-n, ?_, by omega⟩
 rw [Rat.neg_mul, h1]; push_cast; rfl
theorem Cm.sub {d N M : Nat} {a b : Rat} (h : Cm d N a) (k : Cm d M b) : Cm d (N + M) (a - b) := by rw [Rat.sub_eq_add_neg]; exact h.add k.neg
theorem Cm.mul {d e N M : Nat} {a b : Rat} (h : Cm d N a) (k : Cm e M b) : Cm (d * e) (N * M) (a * b) := by
 obtain ⟨n, h1, h2⟩ := h
 obtain ⟨m, k1, k2⟩ := k
 refine ⟨n * m, ?_, by rw [Int.natAbs_mul]; exact Nat.mul_le_mul h2 k2⟩
 push_cast
 rw [← h1, ← k1]; grind
theorem Cm.up {d N : Nat} {a : Rat} (h : Cm d N a) (c : Nat) : Cm (d * c) (N * c) a := by
 obtain ⟨n, h1, h2⟩ := h
 refine ⟨n * c, ?_, by rw [Int.natAbs_mul, Int.natAbs_natCast]; exact Nat.mul_le_mul_right _ h2⟩
 push_cast
 rw [← h1]; grind
theorem Cm.self (q : Rat) : Cm q.den q.num.natAbs q := ⟨q.num, by rw [Rat.mul_comm]; exact den_mul q, Nat.le_refl _⟩
theorem Cm.eq {d N : Nat} {v : Rat} (h : Cm d N v) (hd : d ≠ 0) : ∃ n : Int, v = mkRat n d ∧ n.natAbs ≤ N := by
 obtain ⟨n, h1, h2⟩ := h
 refine ⟨n, ?_, h2⟩
 have hd' : (d : Rat) ≠ 0 := by
  intro e
  exact hd (by exact_mod_cast e)
 rw [Rat.mkRat_eq_div, ← h1, Rat.div_def, Rat.mul_assoc, Rat.mul_inv_cancel _ hd', Rat.mul_one]
theorem Cm.lq {d N k : Nat} {v : Rat} (h : Cm d N v) (hd : d ≠ 0) (h1 : d < Wd.B ^ k) (h2 : N < Wd.B ^ k) (hk : 1 ≤ k) : Wd.Lq v k := by
 obtain ⟨n, rfl, hn⟩ := h.eq hd
 exact Wd.Lq.mk (Wd.words_lt (Nat.lt_of_le_of_lt hn h2)) (Wd.words_lt h1) hk
/-- All over one lower number of at most so many words, the upper ones as long. -/
def Lp (p : List Rat) (k : Nat) : Prop := ∃ d : Nat, d ≠ 0 ∧ d < Wd.B ^ k ∧ ∃ N : Nat, N < Wd.B ^ k ∧ ∀ q ∈ p, Cm d N q
end Pq
namespace Pq
theorem powB_pos (k : Nat) : 0 < Wd.B ^ k := Nat.pow_pos Wd.B_pos
theorem pow_mul_lt {b x y j k : Nat} (h1 : x < b ^ j) (h2 : y < b ^ k) : x * y < b ^ (j + k) := by
 rw [Nat.pow_add]
 exact Nat.lt_of_le_of_lt (Nat.mul_le_mul_left _ (Nat.le_of_lt h2)) (Nat.mul_lt_mul_of_pos_right h1 (Nat.lt_of_le_of_lt (Nat.zero_le _) h2))
theorem pow_add_lt {b x y k : Nat} (hb : 2 ≤ b) (h1 : x < b ^ k) (h2 : y < b ^ k) : x + y < b ^ (k + 1) := by
 rw [Nat.pow_succ]
 have : b ^ k * 2 ≤ b ^ k * b := Nat.mul_le_mul_left _ hb
 omega
theorem B2 : 2 ≤ Wd.B := by rw [Wd.B_eq]; omega
theorem Lp.mono {p : List Rat} {j k : Nat} (h : Lp p j) (hk : j ≤ k) : Lp p k := by
 obtain ⟨d, h1, h2, N, h3, h4⟩ := h
 have := Nat.pow_le_pow_right Wd.B_pos hk
 exact ⟨d, h1, Nat.lt_of_lt_of_le h2 this, N, Nat.lt_of_lt_of_le h3 this, h4⟩
theorem Lp.one_le {p : List Rat} {k : Nat} (h : Lp p k) : 1 ≤ k := by
 obtain ⟨d, h1, h2, _⟩ := h
 rcases Nat.eq_zero_or_pos k with rfl | hk
 · rw [Nat.pow_zero] at h2; omega
 · exact hk
theorem Lp.lq {p : List Rat} {k : Nat} (h : Lp p k) : ∀ q ∈ p, Wd.Lq q k := by
 have hk := h.one_le
 obtain ⟨d, h1, h2, N, h3, h4⟩ := h
 exact fun q hq => (h4 q hq).lq h1 h2 h3 hk
theorem Lp.sub {p q : List Rat} {k : Nat} (h : Lp p k) (hq : ∀ x ∈ q, x ∈ p) : Lp q k := by
 obtain ⟨d, h1, h2, N, h3, h4⟩ := h
 exact ⟨d, h1, h2, N, h3, fun x hx => h4 x (hq x hx)⟩
theorem Lp.nil : Lp [] 1 := ⟨1, by omega, by have := B2; rw [Nat.pow_one]; omega, 0, powB_pos 1, by simp⟩
theorem Lp.cons {a : Rat} {p : List Rat} {j k : Nat} (h : Wd.Lq a j) (h' : Lp p k) : Lp (a :: p) (j + k) := by
 obtain ⟨d, h1, h2, N, h3, h4⟩ := h'
 have ha : a.num.natAbs < Wd.B ^ j := Wd.words_length_le_iff.1 h.1
 have hd : a.den < Wd.B ^ j := Wd.words_length_le_iff.1 h.2
 refine ⟨a.den * d, Nat.mul_ne_zero a.den_nz h1, pow_mul_lt hd h2, max (a.num.natAbs * d) (N * a.den), ?_, fun q hq => ?_⟩
 · have e1 := pow_mul_lt ha h2
   have e2 := pow_mul_lt h3 hd
   rw [Nat.add_comm k j] at e2
   exact Nat.max_lt.2 ⟨e1, e2⟩
 · rcases List.mem_cons.1 hq with rfl | hq
   · exact ((Cm.self q).up d).mono (Nat.le_max_left _ _)
   · have := ((h4 q hq).up a.den).mono (Nat.le_max_right (a.num.natAbs * d) (N * a.den))
     rwa [Nat.mul_comm d] at this
theorem Lp.few {k : Nat} : ∀ {p : List Rat}, (∀ q ∈ p, Wd.Lq q k) → Lp p (p.length * k + 1)
 | [], _ => Lp.nil.mono (by omega)
 | a :: p, h => by
   have := (h a (by simp)).pos
   refine (Lp.cons (h a (by simp)) (Lp.few (p := p) (fun q hq => h q (by simp [hq])))).mono ?_
   rw [List.length_cons, Nat.succ_mul]
   omega
theorem nm_mem : ∀ {p : List Rat} {x : Rat}, x ∈ nm p → x ∈ p
 | [], x, h => h
 | a :: p, x, h => by
   unfold nm at h
   split at h
   · simp at h
   · rcases List.mem_cons.1 h with rfl | h
     · simp
     · exact List.mem_cons_of_mem _ (nm_mem h)
theorem Lp.nm {p : List Rat} {k : Nat} (h : Lp p k) : Lp (nm p) k := h.sub fun _ hx => nm_mem hx
theorem Lp.sc {c : Rat} {p : List Rat} {j k : Nat} (h : Wd.Lq c j) (h' : Lp p k) : Lp (sc c p) (j + k) := by
 obtain ⟨d, h1, h2, N, h3, h4⟩ := h'
 have ha : c.num.natAbs < Wd.B ^ j := Wd.words_length_le_iff.1 h.1
 have hd : c.den < Wd.B ^ j := Wd.words_length_le_iff.1 h.2
 refine ⟨c.den * d, Nat.mul_ne_zero c.den_nz h1, pow_mul_lt hd h2, c.num.natAbs * N, pow_mul_lt ha h3, fun q hq => ?_⟩
 obtain ⟨y, hy, rfl⟩ := List.mem_map.1 hq
 exact (Cm.self c).mul (h4 y hy)
theorem Lp.scn {c : Int} {p : List Rat} {k : Nat} (hc : c.natAbs ≤ 1) (h' : Lp p k) : Lp (Pq.sc (c : Rat) p) k := by
 obtain ⟨d, h1, h2, N, h3, h4⟩ := h'
 refine ⟨d, h1, h2, N, h3, fun q hq => ?_⟩
 obtain ⟨y, hy, rfl⟩ := List.mem_map.1 hq
 obtain ⟨n, k1, k2⟩ := h4 y hy
 refine ⟨c * n, by push_cast; rw [← k1]; grind, ?_⟩
 rw [Int.natAbs_mul]
 exact Nat.le_trans (Nat.mul_le_mul hc k2) (by omega)
theorem getD_cm {d N : Nat} {p : List Rat} (h : ∀ q ∈ p, Cm d N q) (i : Nat) : Cm d N (p.getD i 0) := by
 by_cases hi : i < p.length
 · rw [List.getD_eq_getElem?_getD, List.getElem?_eq_getElem hi]; exact h _ (List.getElem_mem hi)
 · rw [List.getD_eq_getElem?_getD, List.getElem?_eq_none (by omega)]; exact Cm.zero d N
theorem add_mem : ∀ {p q : List Rat} {x : Rat}, x ∈ add p q → ∃ i, x = p.getD i 0 + q.getD i 0
 | [], q, x, h => by
   obtain ⟨i, hi, rfl⟩ := List.getElem_of_mem (show x ∈ q from h)
   exact ⟨i, by simp [List.getD_eq_getElem?_getD, List.getElem?_eq_getElem hi, Rat.zero_add]⟩
 | a :: p, [], x, h => by
   obtain ⟨i, hi, rfl⟩ := List.getElem_of_mem (show x ∈ a :: p from h)
   exact ⟨i, by simp only [List.getD_eq_getElem?_getD, List.getElem?_eq_getElem hi]; simp [Rat.add_zero]⟩
 | a :: p, b :: q, x, h => by
   rcases List.mem_cons.1 (show x ∈ (a + b) :: add p q from h) with rfl | h
   · exact ⟨0, by simp⟩
   · obtain ⟨i, e⟩ := add_mem h
     exact ⟨i + 1, by simpa using e⟩
theorem Lp.add {p q : List Rat} {j k : Nat} (h : Lp p j) (h' : Lp q k) : Lp (add p q) (j + k + 1) := by
 obtain ⟨d, h1, h2, N, h3, h4⟩ := h
 obtain ⟨e, k1, k2, M, k3, k4⟩ := h'
 refine ⟨d * e, Nat.mul_ne_zero h1 k1, Nat.lt_of_lt_of_le (pow_mul_lt h2 k2) (Nat.pow_le_pow_right Wd.B_pos (by omega)), N * e + M * d, ?_, fun x hx => ?_⟩
 · have e1 := pow_mul_lt h3 k2
   have e2 := pow_mul_lt k3 h2
   rw [Nat.add_comm k j] at e2
   exact pow_add_lt B2 e1 e2
 · obtain ⟨i, rfl⟩ := add_mem hx
   have e1 := (getD_cm h4 i).up e
   have e2 := (getD_cm k4 i).up d
   rw [Nat.mul_comm e d] at e2
   exact e1.add e2
theorem mrow_cm {d N M : Nat} {x : Rat} {q : List Rat} {i : Nat} (hx : ∀ k, Cm d M (x * q.getD k 0)) : ∀ (j : Nat) (o : List Rat), (∀ n, Cm d N (o.getD n 0)) → ∀ n, Cm d (if n < i + j ∧ i ≤ n then N + M else N) ((mrow x q i j o).getD n 0)
 | 0, o, ho, n => by
   rw [mrow, if_neg (by omega)]; exact ho n
 | j + 1, o, ho, n => by
   have ih := mrow_cm (i := i) hx j o ho
   rw [mrow, List.getD_eq_getElem?_getD, List.getElem?_set]
   by_cases e : i + j = n
   · subst e
     rw [if_pos rfl, if_pos (by omega)]
     have h0 := ih (i + j)
     rw [if_neg (by omega)] at h0
     split
     · exact h0.add (hx j)
     · exact Cm.zero _ _
   · rw [if_neg e, ← List.getD_eq_getElem?_getD]
     have h0 := ih n
     split
     · rename_i hn
       exact h0.mono (by split <;> omega)
     · rename_i hn
       rwa [if_neg (by omega)] at h0
theorem mall_cm {d e N M : Nat} {p q : List Rat} (hp : ∀ x ∈ p, Cm d N x) (hq : ∀ x ∈ q, Cm e M x) : ∀ i n, Cm (d * e) (i * (N * M)) ((mall p q i).getD n 0)
 | 0, n => by
   rw [mall, List.getD_eq_getElem?_getD, List.getElem?_replicate]
   split <;> exact Cm.zero _ _
 | i + 1, n => by
   have := mrow_cm (x := p.getD i 0) (q := q) (i := i) (fun k => (getD_cm hp i).mul (getD_cm hq k)) q.length _ (mall_cm hp hq i) n
   exact this.mono (by rw [Nat.succ_mul]; split <;> omega)
theorem count_lt {b c x k : Nat} (hc : c ≤ b) (h : x < b ^ k) (h0 : 0 < b) : c * x < b ^ (k + 1) := by
 rw [Nat.pow_succ, Nat.mul_comm]
 exact Nat.lt_of_le_of_lt (Nat.mul_le_mul_left _ hc) (Nat.mul_lt_mul_of_pos_right h h0)
/-- Whatever the program holds while it sums up a product is short. -/
theorem mul_states {p q : List Rat} {j k : Nat} (h : Lp p j) (h' : Lp q k) (hl : p.length ≤ 100000000) : ∀ i r, i < p.length → ∀ x ∈ mrow (p.getD i 0) q i r (mall p q i), Wd.Lq x (j + k + 1) := by
 have hj := h.one_le
 obtain ⟨d, h1, h2, N, h3, h4⟩ := h
 obtain ⟨e, k1, k2, M, k3, k4⟩ := h'
 intro i r hi x hx
 obtain ⟨n, hn, rfl⟩ := List.getElem_of_mem hx
 have := mrow_cm (x := p.getD i 0) (q := q) (i := i) (fun k => (getD_cm h4 i).mul (getD_cm k4 k)) r _ (mall_cm h4 k4 i) n
 rw [List.getD_eq_getElem?_getD, List.getElem?_eq_getElem hn] at this
 have hb : p.length ≤ Wd.B := by rw [Wd.B_eq]; omega
 refine (this.mono (M := p.length * (N * M)) ?_).lq (Nat.mul_ne_zero h1 k1) (Nat.lt_of_lt_of_le (pow_mul_lt h2 k2) (Nat.pow_le_pow_right Wd.B_pos (by omega))) (count_lt hb (pow_mul_lt h3 k3) Wd.B_pos) (by omega)
 have : (i + 1) * (N * M) ≤ p.length * (N * M) := Nat.mul_le_mul_right _ hi
 rw [Nat.succ_mul] at this
 split <;> omega
theorem Lp.mall {p q : List Rat} {j k : Nat} (h : Lp p j) (h' : Lp q k) (hl : p.length ≤ 100000000) : Lp (mall p q p.length) (j + k + 1) := by
 obtain ⟨d, h1, h2, N, h3, h4⟩ := h
 obtain ⟨e, k1, k2, M, k3, k4⟩ := h'
 have hb : p.length ≤ Wd.B := by rw [Wd.B_eq]; omega
 refine ⟨d * e, Nat.mul_ne_zero h1 k1, Nat.lt_of_lt_of_le (pow_mul_lt h2 k2) (Nat.pow_le_pow_right Wd.B_pos (by omega)), p.length * (N * M), count_lt hb (pow_mul_lt h3 k3) Wd.B_pos, fun x hx => ?_⟩
 obtain ⟨n, hn, rfl⟩ := List.getElem_of_mem hx
 have := mall_cm h4 k4 p.length n
 rwa [List.getD_eq_getElem?_getD, List.getElem?_eq_getElem hn] at this
theorem Lp.mul {p q : List Rat} {j k : Nat} (h : Lp p j) (h' : Lp q k) (hl : p.length ≤ 100000000) : Lp (Pq.nm (mul p q)) (j + k + 1) := by
 rw [← nm_mall]; exact (h.mall h' hl).nm
end Pq
namespace Pq
theorem add_len : ∀ p q : List Rat, (add p q).length = max p.length q.length
 | [], q => by simp [add]
 | a :: p, [] => by simp [add]
 | a :: p, b :: q => by simp [add, add_len p q]
theorem add_getD : ∀ (p q : List Rat) (i : Nat), (add p q).getD i 0 = p.getD i 0 + q.getD i 0
 | [], q, i => by simp [add, Rat.zero_add]
 | a :: p, [], i => by simp [add, Rat.add_zero]
 | a :: p, b :: q, 0 => by simp [add]
 | a :: p, b :: q, i + 1 => by simpa [add] using add_getD p q i
theorem sc_len (c : Rat) (p : List Rat) : (sc c p).length = p.length := by simp [sc]
theorem sc_getD (c : Rat) (p : List Rat) (i : Nat) : (sc c p).getD i 0 = c * p.getD i 0 := by
 by_cases hi : i < p.length
 · simp [sc, List.getD_eq_getElem?_getD, List.getElem?_eq_getElem hi]
 · simp [sc, List.getD_eq_getElem?_getD, List.getElem?_eq_none (Nat.le_of_not_lt hi)]
theorem getD_out {p : List Rat} {i : Nat} (h : p.length ≤ i) : p.getD i 0 = 0 := by simp [List.getD_eq_getElem?_getD, List.getElem?_eq_none h]
theorem mul_len : ∀ (p q : List Rat), p ≠ [] → q ≠ [] → (mul p q).length + 1 = p.length + q.length
 | [], q, h, _ => absurd rfl h
 | [a], q, _, hq => by
   have := List.length_pos_iff.2 hq
   simp only [mul, add_len, sc_len, List.length_cons, List.length_nil]; omega
 | a :: b :: p, q, _, hq => by
   have := List.length_pos_iff.2 hq
   have ih := mul_len (b :: p) q (by simp) hq
   rw [mul, add_len, sc_len]
   simp only [List.length_cons] at ih ⊢
   omega
theorem mul_top : ∀ (p q : List Rat), p ≠ [] → q ≠ [] → (mul p q).getD (p.length - 1 + (q.length - 1)) 0 = p.getD (p.length - 1) 0 * q.getD (q.length - 1) 0
 | [], q, h, _ => absurd rfl h
 | [a], q, _, hq => by
   rw [mul, add_getD, sc_getD, mul]
   have e : (([0] : List Rat)).getD (([a] : List Rat).length - 1 + (q.length - 1)) 0 = 0 := by
    cases h : ([a] : List Rat).length - 1 + (q.length - 1) <;> simp
   rw [e, Rat.add_zero]
   simp
 | a :: b :: p, q, _, hq => by
   have hq' := List.length_pos_iff.2 hq
   have ih := mul_top (b :: p) q (by simp) hq
   rw [mul, add_getD, sc_getD]
   have e1 : (a :: b :: p).length - 1 + (q.length - 1) = ((b :: p).length - 1 + (q.length - 1)) + 1 := by simp only [List.length_cons]; omega
   have e2 : (a :: b :: p).length - 1 = ((b :: p).length - 1) + 1 := by simp only [List.length_cons]; omega
   rw [e1, getD_out (p := q) (by simp only [List.length_cons]; omega), e2, List.getD_cons_succ, List.getD_cons_succ, ih, Rat.mul_zero, Rat.zero_add]
/-- Right ones: none, or the last one is not 0. -/
def Tr (p : List Rat) : Prop := p = [] ∨ p.getD (p.length - 1) 0 ≠ 0
theorem nm_of_tr {p : List Rat} (h : Tr p) : nm p = p := by
 have := nm_take (p := p) (n := p.length) (Nat.le_refl _) (fun i hi => getD_out hi) (by
  rcases h with rfl | h
  · exact .inl rfl
  · exact .inr h)
 rwa [List.take_length] at this
theorem tr_of_nm : ∀ {p : List Rat}, nm p = p → Tr p
 | [], _ => .inl rfl
 | [a], h => by
   refine .inr ?_
   simp only [nm] at h
   split at h
   · cases h
   · rename_i hh
     simpa using hh
 | a :: b :: p, h => by
   have h2 : nm (b :: p) = b :: p := by
    have h3 : (if a = 0 ∧ nm (b :: p) = [] then [] else a :: nm (b :: p)) = a :: b :: p := h
    split at h3
    · cases h3
    · exact (List.cons.inj h3).2
   rcases tr_of_nm h2 with h4 | h4
   · cases h4
   · refine .inr ?_
     have e2 : (a :: b :: p).length - 1 = ((b :: p).length - 1) + 1 := by simp only [List.length_cons]; omega
     rw [e2, List.getD_cons_succ]
     exact h4
theorem tr_nm (p : List Rat) : Tr (nm p) := tr_of_nm (nm_nm p)
theorem tr_mul {p q : List Rat} (hp : Tr p) (hq : Tr q) (h1 : p ≠ []) (h2 : q ≠ []) : Tr (mul p q) ∧ mul p q ≠ [] := by
 have hl := mul_len p q h1 h2
 have h3 := List.length_pos_iff.2 h1
 have h4 := List.length_pos_iff.2 h2
 have ne : mul p q ≠ [] := by intro e; rw [e] at hl; simp at hl; omega
 refine ⟨.inr ?_, ne⟩
 rw [show (mul p q).length - 1 = p.length - 1 + (q.length - 1) by omega, mul_top p q h1 h2]
 intro e
 rcases Rat.mul_eq_zero.1 e with e | e
 · exact hp.elim h1 (fun h => h e)
 · exact hq.elim h2 (fun h => h e)
theorem nm_mul {p q : List Rat} (hp : Tr p) (hq : Tr q) (h1 : p ≠ []) (h2 : q ≠ []) : nm (mul p q) = mul p q := nm_of_tr (tr_mul hp hq h1 h2).1
/-- Polynomials with the same values. -/
theorem tr_ext {p q : List Rat} (hp : Tr p) (hq : Tr q) (h : ∀ x, E p x = E q x) : p = q := by
 have := nm_ext h
 rwa [nm_of_tr hp, nm_of_tr hq] at this
theorem nm_nil {p : List Rat} (h : ∀ x, E p x = 0) : nm p = [] := nm_ext (q := []) (fun x => by rw [h]; rfl)
theorem E_nil (x : Rat) : E [] x = 0 := rfl
theorem E_of_nil {p : List Rat} (h : nm p = []) (x : Rat) : E p x = 0 := by rw [← E_nm, h]; rfl
/-- What is divided. -/
def IsDiv (a b q r : List Rat) : Prop := (∀ x, E a x = E q x * E b x + E r x) ∧ (nm r).length < (nm b).length
theorem IsDiv.unique {a b q r q' r' : List Rat} (h : IsDiv a b q r) (h' : IsDiv a b q' r') : nm q = nm q' ∧ nm r = nm r' := by
 have hb : nm b ≠ [] := by intro e; have := h.2; rw [e] at this; simp at this
 have hD : nm (add q (sc (-1) q')) = [] := by
  apply Classical.byContradiction
  intro hne
  have e : nm (mul (nm (add q (sc (-1) q'))) (nm b)) = nm (add (nm r') (sc (-1) (nm r))) := nm_ext fun x => by
   have e1 := h.1 x
   have e2 := h'.1 x
   rw [E_mul, E_nm, E_nm, E_add, E_sc, E_add, E_sc, E_nm, E_nm]
   grind
  rw [nm_mul (tr_nm _) (tr_nm _) hne hb] at e
  have l1 := mul_len _ _ hne hb
  have l2 := nm_len (add (nm r') (sc (-1) (nm r)))
  rw [add_len, sc_len] at l2
  rw [e] at l1
  have l3 := List.length_pos_iff.2 hne
  have := h.2
  have := h'.2
  omega
 have hq : ∀ x, E q x = E q' x := fun x => by
  have := E_of_nil hD x
  rw [E_add, E_sc] at this
  grind
 refine ⟨nm_ext hq, nm_ext fun x => ?_⟩
 have e1 := h.1 x
 have e2 := h'.1 x
 rw [hq] at e1
 grind
/-- One divides another one. -/
def Dv (g a : List Rat) : Prop := ∃ u, ∀ x, E a x = E u x * E g x
/-- What both span. -/
def In (a b c : List Rat) : Prop := ∃ s t, ∀ x, E c x = E s x * E a x + E t x * E b x
def Span (a b a' b' : List Rat) : Prop := In a b a' ∧ In a b b' ∧ In a' b' a ∧ In a' b' b
theorem In.trans {a b a' b' c : List Rat} (h1 : In a b a') (h2 : In a b b') (h : In a' b' c) : In a b c := by
 obtain ⟨s1, t1, e1⟩ := h1
 obtain ⟨s2, t2, e2⟩ := h2
 obtain ⟨s, t, e⟩ := h
 refine ⟨add (mul s s1) (mul t s2), add (mul s t1) (mul t t2), fun x => ?_⟩
 rw [e, e1, e2]
 simp only [E_add, E_mul]
 grind
theorem E_one (x : Rat) : E [1] x = 1 := by simp only [E]; grind
theorem In.fst (a b : List Rat) : In a b a := ⟨[1], [], fun x => by rw [E_one, E_nil]; grind⟩
theorem In.snd (a b : List Rat) : In a b b := ⟨[], [1], fun x => by rw [E_one, E_nil]; grind⟩
theorem Span.refl (a b : List Rat) : Span a b a b := ⟨.fst a b, .snd a b, .fst a b, .snd a b⟩
theorem Span.trans {a b a' b' a'' b'' : List Rat} (h : Span a b a' b') (k : Span a' b' a'' b'') : Span a b a'' b'' :=
 ⟨h.1.trans h.2.1 k.1, h.1.trans h.2.1 k.2.1, k.2.2.1.trans k.2.2.2 h.2.2.1, k.2.2.1.trans k.2.2.2 h.2.2.2⟩
/-- Multiples by fractions other than 0 span the same. -/
theorem Span.scale {a b a' b' : List Rat} {c d : Rat} (hc : c ≠ 0) (hd : d ≠ 0) (h1 : ∀ x, E a' x = c * E a x) (h2 : ∀ x, E b' x = d * E b x) : Span a b a' b' := by
 have e : ∀ (c x : Rat), E [c] x = c := fun c x => by simp only [E]; grind
 refine ⟨⟨[c], [], fun x => ?_⟩, ⟨[], [d], fun x => ?_⟩, ⟨[c⁻¹], [], fun x => ?_⟩, ⟨[], [d⁻¹], fun x => ?_⟩⟩
 · rw [e, E_nil, h1]; grind
 · rw [e, E_nil, h2]; grind
 · rw [e, E_nil, h1, ← Rat.mul_assoc, Rat.inv_mul_cancel _ hc]; grind
 · rw [e, E_nil, h2, ← Rat.mul_assoc, Rat.inv_mul_cancel _ hd]; grind
/-- A step of the common divisor: the first one by the second one. -/
theorem Span.step {a b q r : List Rat} (h : ∀ x, E a x = E q x * E b x + E r x) : Span a b b r := by
 refine ⟨.snd a b, ⟨[1], sc (-1) q, fun x => ?_⟩, ⟨q, [1], fun x => ?_⟩, .fst b r⟩
 · rw [E_one, E_sc, h]; grind
 · rw [E_one, h]; grind
/-- The common divisor: right, its last coefficient 1 (or none), it divides both, and both span it. -/
def Mo (g : List Rat) : Prop := g = [] ∨ g.getD (g.length - 1) 0 = 1
theorem Mo.tr {g : List Rat} (h : Mo g) : Tr g := by
 rcases h with h | h
 · exact .inl h
 · exact .inr (by rw [h]; decide)
def IsGcd (a b g : List Rat) : Prop := Mo g ∧ Dv g a ∧ Dv g b ∧ In a b g
theorem IsGcd.of_span {a b g : List Rat} (h : Span a b g []) (hm : Mo g) : IsGcd a b g := by
 have dv : ∀ {c}, In g [] c → Dv g c := fun ⟨s, t, e⟩ => ⟨s, fun x => by rw [e, E_nil]; grind⟩
 exact ⟨hm, dv h.2.2.1, dv h.2.2.2, h.1⟩
theorem Dv.of_in {a b g c : List Rat} (h1 : Dv g a) (h2 : Dv g b) (h : In a b c) : Dv g c := by
 obtain ⟨u, e1⟩ := h1
 obtain ⟨v, e2⟩ := h2
 obtain ⟨s, t, e⟩ := h
 refine ⟨add (mul s u) (mul t v), fun x => ?_⟩
 rw [e, e1, e2, E_add, E_mul, E_mul]; grind
theorem Dv.len {g a : List Rat} (h : Dv g a) (hg : Tr g) (ha : nm a ≠ []) : g.length ≤ (nm a).length := by
 obtain ⟨u, e⟩ := h
 have hu : nm u ≠ [] := fun hh => ha (nm_nil fun x => by rw [e, E_of_nil hh, Rat.zero_mul])
 have hgn : g ≠ [] := fun hh => ha (nm_nil fun x => by rw [e, hh, E_nil, Rat.mul_zero])
 have e2 : nm a = nm (mul (nm u) g) := nm_ext fun x => by rw [e, E_mul, E_nm]
 rw [e2, nm_mul (tr_nm u) hg hu hgn]
 have := mul_len (nm u) g hu hgn
 have := List.length_pos_iff.2 hu
 omega
theorem Mo.unique {g h : List Rat} (hg : Mo g) (hh : Mo h) (h1 : Dv g h) (h2 : Dv h g) : g = h := by
 by_cases gn : g = []
 · subst gn
   obtain ⟨u, e⟩ := h1
   exact (tr_ext hg.tr hh.tr fun x => by rw [e, E_nil, Rat.mul_zero])
 by_cases hn : h = []
 · subst hn
   obtain ⟨u, e⟩ := h2
   exact (tr_ext hg.tr hh.tr fun x => by rw [e, E_nil, Rat.mul_zero])
 have l1 := h1.len hg.tr (by rw [nm_of_tr hh.tr]; exact hn)
 have l2 := h2.len hh.tr (by rw [nm_of_tr hg.tr]; exact gn)
 rw [nm_of_tr hh.tr] at l1
 rw [nm_of_tr hg.tr] at l2
 obtain ⟨u, e⟩ := h1
 have hu : nm u ≠ [] := fun k => hn (by rw [← nm_of_tr hh.tr]; exact nm_nil fun x => by rw [e, E_of_nil k, Rat.zero_mul])
 have e2 : h = mul (nm u) g := by
  have : nm h = nm (mul (nm u) g) := nm_ext fun x => by rw [e, E_mul, E_nm]
  rwa [nm_of_tr hh.tr, nm_mul (tr_nm u) hg.tr hu gn] at this
 have l3 := mul_len (nm u) g hu gn
 have l4 := mul_top (nm u) g hu gn
 rw [← e2] at l3 l4
 have l5 := List.length_pos_iff.2 hu
 have hu1 : (nm u).length = 1 := by omega
 have hg1 : g.getD (g.length - 1) 0 = 1 := hg.elim (fun k => absurd k gn) id
 have hh1 : h.getD (h.length - 1) 0 = 1 := hh.elim (fun k => absurd k hn) id
 rw [hu1, show 1 - 1 + (g.length - 1) = h.length - 1 by omega, hh1, hg1, Rat.mul_one] at l4
 match hv : nm u, hu1 with
 | [c], _ =>
   rw [hv] at l4 e2
   simp at l4
   subst l4
   refine tr_ext hg.tr hh.tr fun x => ?_
   rw [e2, E_mul, E_one, Rat.one_mul]
theorem IsGcd.unique {a b g h : List Rat} (hg : IsGcd a b g) (hh : IsGcd a b h) : g = h :=
 hg.1.unique hh.1 (Dv.of_in hg.2.1 hg.2.2.1 hh.2.2.2) (Dv.of_in hh.2.1 hh.2.2.1 hg.2.2.2)
theorem IsGcd.ext {a b a' b' g : List Rat} (h : IsGcd a b g) (ha : ∀ x, E a x = E a' x) (hb : ∀ x, E b x = E b' x) : IsGcd a' b' g := by
 obtain ⟨h1, ⟨u, h2⟩, ⟨v, h3⟩, s, t, h4⟩ := h
 exact ⟨h1, ⟨u, fun x => by rw [← ha]; exact h2 x⟩, ⟨v, fun x => by rw [← hb]; exact h3 x⟩, s, t, fun x => by rw [← ha, ← hb]; exact h4 x⟩
theorem IsGcd.nil {a b g : List Rat} (h : IsGcd a b g) (ha : nm a = []) (hb : nm b = []) : g = [] := by
 obtain ⟨h1, _, _, s, t, e⟩ := h
 rw [← nm_of_tr h1.tr]
 exact nm_nil fun x => by rw [e, E_of_nil ha, E_of_nil hb]; grind
theorem IsGcd.ne {a b g : List Rat} (h : IsGcd a b g) (hab : nm a ≠ [] ∨ nm b ≠ []) : g ≠ [] := by
 rintro rfl
 obtain ⟨_, ⟨u, h2⟩, ⟨v, h3⟩, _⟩ := h
 rcases hab with k | k
 · exact k (nm_nil fun x => by rw [h2, E_nil, Rat.mul_zero])
 · exact k (nm_nil fun x => by rw [h3, E_nil, Rat.mul_zero])
/-- What a divisor leaves is nothing. -/
theorem IsDiv.exact {a g q r : List Rat} (h : IsDiv a g q r) (hd : Dv g a) : nm r = [] := by
 obtain ⟨u, e⟩ := hd
 have hb : 0 < (nm g).length := by have := h.2; omega
 have : IsDiv a g u [] := ⟨fun x => by rw [e, E_nil, Rat.add_zero], by simpa [nm] using hb⟩
 exact (h.unique this).2
/-- Behind a product with a third one it is the product, but for a factor. -/
theorem IsGcd.times {a b g z h k : List Rat} (hg : IsGcd a b g) {az bz gz : List Rat} (h1 : ∀ x, E az x = E a x * E z x) (h2 : ∀ x, E bz x = E b x * E z x) (h3 : ∀ x, E gz x = E g x * E z x) (hh : IsGcd az bz h) (hk : IsGcd gz [] k) : h = k := by
 obtain ⟨_, ⟨u, e1⟩, ⟨v, e2⟩, s, t, e3⟩ := hg
 refine hh.unique ⟨hk.1, ?_, ?_, ?_⟩
 · obtain ⟨w, e⟩ := hk.2.1
   exact ⟨mul u w, fun x => by rw [h1, e1, E_mul]; have := e x; rw [h3] at this; grind⟩
 · obtain ⟨w, e⟩ := hk.2.1
   exact ⟨mul v w, fun x => by rw [h2, e2, E_mul]; have := e x; rw [h3] at this; grind⟩
 · obtain ⟨s', t', e⟩ := hk.2.2.2
   exact ⟨mul s' s, mul s' t, fun x => by rw [e, h3, e3, h1, h2, E_nil, E_mul, E_mul]; grind⟩
end Pq
namespace Pq
theorem mrow_getD (x : Rat) (q : List Rat) (i : Nat) : ∀ (j : Nat) (o : List Rat) (n : Nat), i + j ≤ o.length → (mrow x q i j o).getD n 0 = o.getD n 0 + (if i ≤ n ∧ n < i + j then x * q.getD (n - i) 0 else 0)
 | 0, o, n, _ => by rw [mrow, if_neg (by omega), Rat.add_zero]
 | j + 1, o, n, h => by
   have ih := mrow_getD x q i j o
   rw [mrow, List.getD_eq_getElem?_getD, List.getElem?_set]
   by_cases e : i + j = n
   · subst e
     rw [if_pos rfl, if_pos (by rw [mrow_len]; omega), if_pos (by omega), Option.getD_some, ih _ (by omega), if_neg (by omega), Rat.add_zero]
     congr 3; omega
   · rw [if_neg e, ← List.getD_eq_getElem?_getD, ih _ (by omega)]
     by_cases h1 : i ≤ n ∧ n < i + j
     · rw [if_pos h1, if_pos (by omega)]
     · rw [if_neg h1, if_neg (by omega)]
/-- The quotient's coefficient that comes next. -/
def dc (a b : List Rat) (r : List Rat) (s : Nat) : Rat := r.getD (a.length - 1 - s) 0 / b.getD (b.length - 1) 0
/-- What is left, and the quotient, behind s rounds. -/
def dst (a b : List Rat) : Nat → List Rat × List Rat
 | 0 => (a, List.replicate (a.length - b.length + 1) 0)
 | s + 1 => (mrow (-(dc a b (dst a b s).1 s)) b (a.length - b.length - s) b.length (dst a b s).1, (dst a b s).2.set (a.length - b.length - s) (dc a b (dst a b s).1 s))
theorem dst_len (a b : List Rat) : ∀ s, (dst a b s).1.length = a.length ∧ (dst a b s).2.length = a.length - b.length + 1
 | 0 => by simp [dst]
 | s + 1 => by
   have := dst_len a b s
   simp only [dst, mrow_len, List.length_set]
   exact this
theorem dst_q0 (a b : List Rat) : ∀ s i, i + s ≤ a.length - b.length → (dst a b s).2.getD i 0 = 0
 | 0, i, h => by simp [dst, List.getD_eq_getElem?_getD, List.getElem?_replicate]; split <;> rfl
 | s + 1, i, h => by
   rw [dst, List.getD_eq_getElem?_getD, List.getElem?_set, if_neg (by omega), ← List.getD_eq_getElem?_getD]
   exact dst_q0 a b s i (by omega)
theorem dst_q0' (a b : List Rat) (n : Nat) : (dst a b 0).2.getD n 0 = 0 := by
 simp [dst, List.getD_eq_getElem?_getD, List.getElem?_replicate]; split <;> rfl
theorem dst_top {a b : List Rat} (hb : b.getD (b.length - 1) 0 ≠ 0) (hl : b.length ≤ a.length) : ∀ s, s ≤ a.length - b.length + 1 → ∀ m, a.length ≤ m + s → (dst a b s).1.getD m 0 = 0
 | 0, _, m, h => getD_out (by simpa [dst] using h)
 | s + 1, hs, m, h => by
   have hb0 : b.length ≠ 0 := by
    intro e
    rw [List.length_eq_zero_iff.1 e] at hb
    simp at hb
   have ih := dst_top hb hl s (by omega)
   rw [dst, mrow_getD _ _ _ _ _ _ (by rw [(dst_len a b s).1]; omega)]
   by_cases hm : a.length ≤ m + s
   · rw [ih m hm]
     split
     · omega
     · exact Rat.add_zero 0
   · rw [if_pos (by omega), show m - (a.length - b.length - s) = b.length - 1 by omega]
     unfold dc
     rw [show a.length - 1 - s = m by omega, Rat.div_def]
     have := Rat.inv_mul_cancel _ hb
     grind
theorem dst_E {a b : List Rat} (hl : b.length ≤ a.length) (hb : b ≠ []) : ∀ s, s ≤ a.length - b.length + 1 → ∀ x, E a x = E (dst a b s).2 x * E b x + E (dst a b s).1 x
 | 0, _, x => by simp only [dst, E_replicate]; grind
 | s + 1, hs, x => by
   have hb0 := List.length_pos_iff.2 hb
   have ih := dst_E hl hb s (by omega) x
   have e1 := E_mrow (-(dc a b (dst a b s).1 s)) b (a.length - b.length - s) x b.length (dst a b s).1 (by rw [(dst_len a b s).1]; omega) (Nat.le_refl _)
   have e2 := E_set (dst a b s).2 (a.length - b.length - s) (dc a b (dst a b s).1 s) x (by rw [(dst_len a b s).2]; omega)
   rw [dst_q0 a b s _ (by omega), Rat.zero_add] at e2
   rw [List.take_length] at e1
   simp only [dst]
   rw [e1, e2, ih]
   grind
/-- What is divided, as the program does it. -/
def qt (a b : List Rat) : List Rat := (dst a b (a.length - b.length + 1)).2
def rm (a b : List Rat) : List Rat := (dst a b (a.length - b.length + 1)).1
theorem nm_le_of {p : List Rat} {n : Nat} (h : ∀ m, n ≤ m → p.getD m 0 = 0) : (nm p).length ≤ n := by
 rcases Nat.lt_or_ge n (nm p).length with h1 | h1
 · exfalso
   have e : ∀ (p : List Rat) (i : Nat), i < (nm p).length → (nm p).getD i 0 = p.getD i 0 := by
    intro p
    induction p with
    | nil => intro i hi; simp [nm] at hi
    | cons a p ih =>
      intro i hi
      unfold nm at hi ⊢
      split at hi
      · simp at hi
      · rename_i hh
        rw [if_neg hh]
        cases i with
        | zero => simp
        | succ i => simpa using ih i (by simpa using hi)
   have h2 := e p ((nm p).length - 1) (by omega)
   rw [h _ (by omega)] at h2
   rcases tr_nm p with h3 | h3
   · rw [h3] at h1; simp at h1
   · exact h3 h2
 · exact h1
theorem div_is {a b : List Rat} (ha : Tr a) (hb : Tr b) (hne : b ≠ []) (hl : b.length ≤ a.length) : IsDiv a b (qt a b) (rm a b) := by
 have hb0 := List.length_pos_iff.2 hne
 have htop : b.getD (b.length - 1) 0 ≠ 0 := hb.elim (fun k => absurd k hne) id
 refine ⟨dst_E hl hne _ (Nat.le_refl _), ?_⟩
 rw [nm_of_tr hb]
 have := nm_le_of (p := rm a b) (n := b.length - 1) (fun m hm => dst_top htop hl _ (Nat.le_refl _) m (by omega))
 omega
/-- A quotient over one lower number. -/
theorem Cm.over {d e R M T' : Nat} {v t : Rat} (h : Cm d R v) {T : Int} (hT : t * (e : Rat) = (T : Rat)) (hT0 : T ≠ 0) (hT' : T.natAbs = T') : Cm (d * T') (R * e) (v / t) := by
 obtain ⟨n, h1, h2⟩ := h
 have ht0 : t ≠ 0 := by
  intro e0
  rw [e0, Rat.zero_mul] at hT
  exact hT0 (by exact_mod_cast hT.symm)
 have hsg : (T' : Rat) = (T.sign : Rat) * (T : Rat) := by
  have : (T' : Int) = T.sign * T := by rw [← hT', Int.sign_mul_self]
  exact_mod_cast this
 refine ⟨n * e * T.sign, ?_, ?_⟩
 · push_cast
   rw [← h1, hsg, ← hT, Rat.div_def]
   have := Rat.inv_mul_cancel _ ht0
   grind
 · rw [Int.natAbs_mul, Int.natAbs_mul, Int.natAbs_natCast, Int.natAbs_sign_of_ne_zero hT0, Nat.mul_one]
   exact Nat.mul_le_mul_right _ h2
theorem Cm.over_mul {d e R M T' : Nat} {v t w : Rat} (h : Cm d R v) {T : Int} (hT : t * (e : Rat) = (T : Rat)) (hT0 : T ≠ 0) (hT' : T.natAbs = T') (k : Cm e M w) : Cm (d * T') (R * M) (v / t * w) := by
 obtain ⟨n, h1, h2⟩ := h
 obtain ⟨m, k1, k2⟩ := k
 have ht0 : t ≠ 0 := by
  intro e0
  rw [e0, Rat.zero_mul] at hT
  exact hT0 (by exact_mod_cast hT.symm)
 have hsg : (T' : Rat) = (T.sign : Rat) * (T : Rat) := by
  have : (T' : Int) = T.sign * T := by rw [← hT', Int.sign_mul_self]
  exact_mod_cast this
 refine ⟨n * m * T.sign, ?_, ?_⟩
 · push_cast
   rw [← h1, ← k1, hsg, ← hT, Rat.div_def]
   have := Rat.inv_mul_cancel _ ht0
   grind
 · rw [Int.natAbs_mul, Int.natAbs_mul, Int.natAbs_sign_of_ne_zero hT0, Nat.mul_one]
   exact Nat.mul_le_mul h2 k2
/-- The multiple by the last coefficient's inverse. -/
def mo (p : List Rat) : List Rat := sc (1 / p.getD (p.length - 1) 0) p
theorem mo_mo {p : List Rat} (h : Tr p) : Mo (mo p) := by
 rcases h with rfl | h
 · exact .inl rfl
 · refine .inr ?_
   unfold mo
   rw [sc_len, sc_getD, Rat.div_def, Rat.one_mul, Rat.inv_mul_cancel _ h]
theorem Lp.mo {p : List Rat} {k : Nat} (h : Lp p k) (ht : Tr p) : Lp (mo p) k := by
 rcases ht with rfl | ht
 · exact h
 obtain ⟨d, h1, h2, N, h3, h4⟩ := h
 have hp : p ≠ [] := by rintro rfl; simp at ht
 have hl := List.length_pos_iff.2 hp
 obtain ⟨T, t1, t2⟩ := getD_cm h4 (p.length - 1)
 have hT0 : T ≠ 0 := by
  rintro rfl
  rcases Rat.mul_eq_zero.1 (t1.trans (by rfl : (((0 : Int)) : Rat) = 0)) with e | e
  · exact ht e
  · exact h1 (by exact_mod_cast e)
 refine ⟨T.natAbs, by omega, by omega, N, h3, fun q hq => ?_⟩
 obtain ⟨y, hy, rfl⟩ := List.mem_map.1 hq
 have e1 : Cm 1 1 (1 : Rat) := ⟨1, by grind, by omega⟩
 have := e1.over_mul (R := 1) (e := d) (T := T) t1 hT0 rfl (h4 y hy)
 rwa [Nat.one_mul, Nat.one_mul] at this
theorem mrow_cm2 {d N K : Nat} {x : Rat} {q : List Rat} {i : Nat} (hx : ∀ k, Cm d K (x * q.getD k 0)) (o : List Rat) (j : Nat) (ho : ∀ n, Cm d N (o.getD n 0)) (n : Nat) : Cm d (N + K) ((mrow x q i j o).getD n 0) :=
 (mrow_cm hx j o ho n).mono (by split <;> omega)
/-- Everything that division holds, over one lower number for each round. -/
theorem dst_cm {a b : List Rat} {d e N M : Nat} (ha : ∀ x ∈ a, Cm d N x) (hb : ∀ x ∈ b, Cm e M x) (he : e ≠ 0) (htop : b.getD (b.length - 1) 0 ≠ 0) :
 ∃ T : Nat, T ≠ 0 ∧ T ≤ M ∧ ∀ s, (∀ n, Cm (d * T ^ s) (N * (2 * M) ^ s) ((dst a b s).1.getD n 0)) ∧ (∀ n, Cm (d * T ^ s) (N * e * (2 * M) ^ s) ((dst a b s).2.getD n 0)) ∧ Cm (d * T ^ (s + 1)) (N * e * (2 * M) ^ s) (dc a b (dst a b s).1 s) ∧
   ∀ k, Cm (d * T ^ (s + 1)) (N * (2 * M) ^ s * M) (-(dc a b (dst a b s).1 s) * b.getD k 0) := by
 obtain ⟨T, t1, t2⟩ := getD_cm hb (b.length - 1)
 have hT0 : T ≠ 0 := by
  rintro rfl
  rcases Rat.mul_eq_zero.1 (t1.trans (by rfl : (((0 : Int)) : Rat) = 0)) with e1 | e1
  · exact htop e1
  · exact he (by exact_mod_cast e1)
 refine ⟨T.natAbs, by omega, t2, ?_⟩
 have hM : 1 ≤ M := by omega
 have rest : ∀ s, (∀ n, Cm (d * T.natAbs ^ s) (N * (2 * M) ^ s) ((dst a b s).1.getD n 0)) → Cm (d * T.natAbs ^ (s + 1)) (N * e * (2 * M) ^ s) (dc a b (dst a b s).1 s) ∧ ∀ k, Cm (d * T.natAbs ^ (s + 1)) (N * (2 * M) ^ s * M) (-(dc a b (dst a b s).1 s) * b.getD k 0) := by
  intro s h
  refine ⟨?_, fun k => ?_⟩
  · have := (h (a.length - 1 - s)).over (M := M) (e := e) t1 hT0 rfl
    rw [Nat.mul_assoc, ← Nat.pow_succ] at this
    exact this.mono (by rw [Nat.mul_right_comm]; exact Nat.le_refl _)
  · have := ((h (a.length - 1 - s)).over_mul (e := e) t1 hT0 rfl (getD_cm hb k)).neg
    rw [Nat.mul_assoc, ← Nat.pow_succ, ← Rat.neg_mul] at this
    exact this
 intro s
 induction s with
 | zero =>
   have h0 : ∀ n, Cm (d * T.natAbs ^ 0) (N * (2 * M) ^ 0) ((dst a b 0).1.getD n 0) := fun n => by
    rw [Nat.pow_zero, Nat.pow_zero, Nat.mul_one, Nat.mul_one]; exact getD_cm ha n
   refine ⟨h0, fun n => ?_, rest 0 h0⟩
   rw [dst_q0' a b n]; exact Cm.zero _ _
 | succ s ih =>
   obtain ⟨i1, i2, i3, i4⟩ := ih
   have h0 : ∀ n, Cm (d * T.natAbs ^ (s + 1)) (N * (2 * M) ^ (s + 1)) ((dst a b (s + 1)).1.getD n 0) := fun n => by
    rw [dst]
    have := mrow_cm2 (i := a.length - b.length - s) i4 (dst a b s).1 b.length (fun n => by
     have := (i1 n).up T.natAbs
     rwa [Nat.mul_assoc, ← Nat.pow_succ] at this) n
    refine this.mono ?_
    have e1 : N * (2 * M) ^ s * T.natAbs ≤ N * (2 * M) ^ s * M := Nat.mul_le_mul_left _ t2
    have e2 : N * (2 * M) ^ (s + 1) = N * (2 * M) ^ s * M + N * (2 * M) ^ s * M := by rw [Nat.pow_succ, ← Nat.mul_assoc, Nat.mul_comm 2 M, ← Nat.mul_assoc]; omega
    omega
   refine ⟨h0, fun n => ?_, rest (s + 1) h0⟩
   rw [dst, List.getD_eq_getElem?_getD, List.getElem?_set]
   have e1 : N * e * (2 * M) ^ s ≤ N * e * (2 * M) ^ (s + 1) := Nat.mul_le_mul_left _ (Nat.pow_le_pow_right (by omega) (by omega))
   split
   · split
     · exact i3.mono e1
     · exact Cm.zero _ _
   · rw [← List.getD_eq_getElem?_getD]
     have := (i2 n).up T.natAbs
     rw [Nat.mul_assoc, ← Nat.pow_succ] at this
     refine this.mono ?_
     rw [Nat.pow_succ, ← Nat.mul_assoc]
     exact Nat.mul_le_mul_left _ (by omega)
theorem pow_lt_pow {b x k : Nat} (h : x < b ^ k) (s : Nat) (hb : 2 ≤ b) : (2 * x) ^ s ≤ b ^ (s * (k + 1)) := by
 rw [Nat.mul_comm s, Nat.pow_mul]
 refine Nat.pow_le_pow_left ?_ s
 rw [Nat.pow_succ, Nat.mul_comm 2 x]
 exact Nat.mul_le_mul (Nat.le_of_lt h) hb
theorem lt_mul_le {b x y j k : Nat} (h1 : x < b ^ j) (h2 : y ≤ b ^ k) (hb : 2 ≤ b) : x * y < b ^ (j + k) := by
 rw [Nat.pow_add]
 exact Nat.lt_of_le_of_lt (Nat.mul_le_mul_left _ h2) (Nat.mul_lt_mul_of_pos_right h1 (Nat.pow_pos (by omega)))
theorem lp_of_getD {p : List Rat} {d N k : Nat} (hd : d ≠ 0) (h1 : d < Wd.B ^ k) (h2 : N < Wd.B ^ k) (h : ∀ n, Cm d N (p.getD n 0)) : Lp p k :=
 ⟨d, hd, h1, N, h2, fun x hx => by
   obtain ⟨n, hn, rfl⟩ := List.getElem_of_mem hx
   have := h n
   rwa [List.getD_eq_getElem?_getD, List.getElem?_eq_getElem hn] at this⟩
/-- Whatever division holds is short. -/
theorem div_states {a b : List Rat} {j k : Nat} (h : Lp a j) (h' : Lp b k) (hb : Tr b) (hne : b ≠ []) (s : Nat) :
 Lp (dst a b s).1 (j + s * (k + 1)) ∧ Lp (dst a b s).2 (j + k + s * (k + 1)) ∧ Wd.Lq (dc a b (dst a b s).1 s) (j + k + (s + 1) * (k + 1)) ∧
  (∀ r, Lp (mrow (-(dc a b (dst a b s).1 s)) b (a.length - b.length - s) r (dst a b s).1) (j + (s + 1) * (k + 1))) := by
 have htop : b.getD (b.length - 1) 0 ≠ 0 := hb.elim (fun k => absurd k hne) id
 have hj := h.one_le
 obtain ⟨d, h1, h2, N, h3, h4⟩ := h
 obtain ⟨e, k1, k2, M, k3, k4⟩ := h'
 obtain ⟨T, hT0, hTM, H⟩ := dst_cm h4 k4 k1 htop
 have hb2 := B2
 have hT2 : T ≤ 2 * M := by omega
 have hTs : ∀ s, T ^ s ≤ Wd.B ^ (s * (k + 1)) := fun s => Nat.le_trans (Nat.pow_le_pow_left hT2 s) (pow_lt_pow k3 s hb2)
 have hMs : ∀ s, (2 * M) ^ s ≤ Wd.B ^ (s * (k + 1)) := fun s => pow_lt_pow k3 s hb2
 have hd0 : ∀ s, d * T ^ s ≠ 0 := fun s => Nat.mul_ne_zero h1 (Nat.ne_of_gt (Nat.pow_pos (Nat.pos_of_ne_zero hT0)))
 have hne' := pow_mul_lt h3 k2
 have up : ∀ {x a b : Nat}, x < Wd.B ^ a → a ≤ b → x < Wd.B ^ b := fun h1 h2 => Nat.lt_of_lt_of_le h1 (Nat.pow_le_pow_right Wd.B_pos h2)
 obtain ⟨i1, i2, i3, i4⟩ := H s
 refine ⟨lp_of_getD (hd0 s) (lt_mul_le h2 (hTs s) hb2) (lt_mul_le h3 (hMs s) hb2) i1, lp_of_getD (hd0 s) (up (lt_mul_le h2 (hTs s) hb2) (by omega)) (lt_mul_le hne' (hMs s) hb2) i2, ?_, fun r => ?_⟩
 · refine i3.lq (hd0 _) (up (lt_mul_le h2 (hTs (s + 1)) hb2) (by omega)) (up (lt_mul_le hne' (hMs s) hb2) ?_) (by omega)
   rw [Nat.succ_mul]; omega
 · refine lp_of_getD (N := N * (2 * M) ^ (s + 1)) (hd0 (s + 1)) (lt_mul_le h2 (hTs (s + 1)) hb2) (lt_mul_le h3 (hMs (s + 1)) hb2) fun n => ?_
   have := mrow_cm2 (i := a.length - b.length - s) i4 (dst a b s).1 r (fun n => by
    have := (i1 n).up T
    rwa [Nat.mul_assoc, ← Nat.pow_succ] at this) n
   refine this.mono ?_
   have e1 : N * (2 * M) ^ s * T ≤ N * (2 * M) ^ s * M := Nat.mul_le_mul_left _ hTM
   have e2 : N * (2 * M) ^ (s + 1) = N * (2 * M) ^ s * M + N * (2 * M) ^ s * M := by rw [Nat.pow_succ, ← Nat.mul_assoc, Nat.mul_comm 2 M, ← Nat.mul_assoc]; omega
   omega
theorem Lp.qt {a b : List Rat} {j k : Nat} (h : Lp a j) (h' : Lp b k) (hb : Tr b) (hne : b ≠ []) : Lp (qt a b) (j + k + (a.length - b.length + 1) * (k + 1)) := (div_states h h' hb hne _).2.1
theorem Lp.rm {a b : List Rat} {j k : Nat} (h : Lp a j) (h' : Lp b k) (hb : Tr b) (hne : b ≠ []) : Lp (rm a b) (j + (a.length - b.length + 1) * (k + 1)) := (div_states h h' hb hne _).1
/-- One round, told by the place in the quotient. -/
theorem dst_step {a b : List Rat} {m : Nat} (hm : m ≤ a.length - b.length) (hb : 1 ≤ b.length) (hl : b.length ≤ a.length) :
 (dst a b (a.length - b.length + 1 - (m + 1))).2.set m (dc a b (dst a b (a.length - b.length + 1 - (m + 1))).1 (a.length - b.length + 1 - (m + 1))) = (dst a b (a.length - b.length + 1 - m)).2 ∧
 mrow (-(dc a b (dst a b (a.length - b.length + 1 - (m + 1))).1 (a.length - b.length + 1 - (m + 1)))) b m b.length (dst a b (a.length - b.length + 1 - (m + 1))).1 = (dst a b (a.length - b.length + 1 - m)).1 ∧
 dc a b (dst a b (a.length - b.length + 1 - (m + 1))).1 (a.length - b.length + 1 - (m + 1)) = (dst a b (a.length - b.length + 1 - (m + 1))).1.getD (m + b.length - 1) 0 / b.getD (b.length - 1) 0 := by
 have e : a.length - b.length + 1 - m = (a.length - b.length + 1 - (m + 1)) + 1 := by omega
 have e2 : a.length - b.length - (a.length - b.length + 1 - (m + 1)) = m := by omega
 have e3 : a.length - 1 - (a.length - b.length + 1 - (m + 1)) = m + b.length - 1 := by omega
 refine ⟨?_, ?_, ?_⟩
 · rw [e]; simp only [dst]; rw [e2]
 · rw [e]; simp only [dst]; rw [e2]
 · simp only [dc]; rw [e3]
/-- All that division holds at a place in the quotient is short. -/
theorem div_small {a b : List Rat} {j k K : Nat} (h : Lp a j) (h' : Lp b k) (hb : Tr b) (hne : b ≠ []) (hK : j + k + (a.length + 1) * (k + 1) ≤ K) (hl : b.length ≤ a.length) :
 ∀ m, m ≤ a.length - b.length → (∀ x ∈ (dst a b (a.length - b.length + 1 - (m + 1))).1, Wd.Lq x K) ∧ Wd.Lq (dc a b (dst a b (a.length - b.length + 1 - (m + 1))).1 (a.length - b.length + 1 - (m + 1))) K ∧
   ∀ r, ∀ x ∈ mrow (-(dc a b (dst a b (a.length - b.length + 1 - (m + 1))).1 (a.length - b.length + 1 - (m + 1)))) b m r (dst a b (a.length - b.length + 1 - (m + 1))).1, Wd.Lq x K := by
 intro m hm
 have hb0 := List.length_pos_iff.2 hne
 have hs : a.length - b.length + 1 - (m + 1) + 1 ≤ a.length + 1 := by omega
 have e2 : a.length - b.length - (a.length - b.length + 1 - (m + 1)) = m := by omega
 obtain ⟨h1, h2, h3, h4⟩ := div_states h h' hb hne (a.length - b.length + 1 - (m + 1))
 rw [e2] at h4
 have hb1 : (a.length - b.length + 1 - (m + 1) + 1) * (k + 1) ≤ (a.length + 1) * (k + 1) := Nat.mul_le_mul_right _ hs
 have hb2 : (a.length - b.length + 1 - (m + 1)) * (k + 1) ≤ (a.length - b.length + 1 - (m + 1) + 1) * (k + 1) := Nat.mul_le_mul_right _ (by omega)
 exact ⟨fun x hx => (h1.lq x hx).mono (by omega), h3.mono (by omega), fun r x hx => ((h4 r).lq x hx).mono (by omega)⟩
/-- Quotient and rest as the program tells them. -/
def dq (p q : List Rat) : List Rat := if nm q = [] then [] else if (nm p).length < (nm q).length then [] else nm (qt (nm p) (nm q))
def dr (p q : List Rat) : List Rat := if nm q = [] then [] else if (nm p).length < (nm q).length then nm p else nm (rm (nm p) (nm q))
theorem dq_tr (p q : List Rat) : Tr (dq p q) := by
 unfold dq
 split
 · exact .inl rfl
 · split
   · exact .inl rfl
   · exact tr_nm _
theorem dr_tr (p q : List Rat) : Tr (dr p q) := by
 unfold dr
 split
 · exact .inl rfl
 · split <;> exact tr_nm _
theorem dqr_div {p q : List Rat} (h : nm q ≠ []) : IsDiv p q (dq p q) (dr p q) := by
 unfold dq dr
 rw [if_neg h, if_neg h]
 split
 · rename_i hl
   refine ⟨fun x => by rw [E_nil, E_nm]; grind, ?_⟩
   rw [nm_nm]
   exact hl
 · rename_i hl
   obtain ⟨h1, h2⟩ := div_is (tr_nm p) (tr_nm q) h (by omega)
   refine ⟨fun x => ?_, ?_⟩
   · have := h1 x
     rw [E_nm] at this
     rw [E_nm, E_nm, this, E_nm]
   · rw [nm_nm]
     rwa [nm_nm] at h2
theorem dqr_size {p q : List Rat} {j k : Nat} (hp : Lp p j) (hq : Lp q k) : Lp (dq p q) (j + k + (p.length + 1) * (k + 1)) ∧ Lp (dr p q) (j + (p.length + 1) * (k + 1)) := by
 have h1 := hp.one_le
 have hl := nm_len p
 have hm : ((nm p).length - (nm q).length + 1) * (k + 1) ≤ (p.length + 1) * (k + 1) := Nat.mul_le_mul_right _ (by omega)
 unfold dq dr
 by_cases h : nm q = []
 · rw [if_pos h, if_pos h]; exact ⟨Lp.nil.mono (by omega), Lp.nil.mono (by omega)⟩
 · rw [if_neg h, if_neg h]
   by_cases h2 : (nm p).length < (nm q).length
   · rw [if_pos h2, if_pos h2]; exact ⟨Lp.nil.mono (by omega), hp.nm.mono (by omega)⟩
   · rw [if_neg h2, if_neg h2]
     exact ⟨((hp.nm).qt hq.nm (tr_nm q) h).nm.mono (by omega), ((hp.nm).rm hq.nm (tr_nm q) h).nm.mono (by omega)⟩
end Pq
namespace Pq
theorem nm_mo {p : List Rat} (h : Tr p) : nm (sc (1 / p.getD (p.length - 1) 0) p) = mo p := nm_of_tr (mo_mo h).tr
theorem mo_len (p : List Rat) : (mo p).length = p.length := sc_len _ _
theorem E_mo {p : List Rat} (h : Tr p) : ∃ c : Rat, c ≠ 0 ∧ ∀ x, E (mo p) x = c * E p x := by
 rcases h with rfl | h
 · exact ⟨1, by decide, fun x => by show (0 : Rat) = 1 * 0; rw [Rat.mul_zero]⟩
 · refine ⟨1 / p.getD (p.length - 1) 0, fun e => ?_, fun x => E_sc _ _ _⟩
   have := Rat.inv_mul_cancel _ h
   rw [Rat.div_def, Rat.one_mul] at e
   rw [e, Rat.zero_mul] at this
   exact absurd this (by decide)
/-- Both, behind so many rounds. -/
def gst (x y : List Rat) : Nat → List Rat × List Rat
 | 0 => (mo (nm x), mo (nm y))
 | n + 1 => ((gst x y n).2, mo (dr (gst x y n).1 (gst x y n).2))
theorem gst_mo (x y : List Rat) : ∀ n, Mo (gst x y n).1 ∧ Mo (gst x y n).2
 | 0 => ⟨mo_mo (tr_nm x), mo_mo (tr_nm y)⟩
 | n + 1 => ⟨(gst_mo x y n).2, mo_mo (dr_tr _ _)⟩
theorem gst_less {x y : List Rat} {n : Nat} (h : (gst x y n).2 ≠ []) : (gst x y (n + 1)).2.length < (gst x y n).2.length := by
 have hb := (gst_mo x y n).2.tr
 have h2 := (dqr_div (p := (gst x y n).1) (q := (gst x y n).2) (by rw [nm_of_tr hb]; exact h)).2
 rw [nm_of_tr hb, nm_of_tr (dr_tr _ _)] at h2
 show (mo (dr (gst x y n).1 (gst x y n).2)).length < _
 rw [mo_len]
 exact h2
theorem gst_span (x y : List Rat) : ∀ n, (∀ i, i < n → (gst x y i).2 ≠ []) → Span x y (gst x y n).1 (gst x y n).2
 | 0, _ => by
   obtain ⟨c, hc, h1⟩ := E_mo (tr_nm x)
   obtain ⟨d, hd, h2⟩ := E_mo (tr_nm y)
   exact Span.scale hc hd (fun t => by rw [← E_nm x]; exact h1 t) (fun t => by rw [← E_nm y]; exact h2 t)
 | n + 1, h => by
   have ih := gst_span x y n (fun i hi => h i (by omega))
   have hb := (gst_mo x y n).2.tr
   have h2 := dqr_div (p := (gst x y n).1) (q := (gst x y n).2) (by rw [nm_of_tr hb]; exact h n (by omega))
   obtain ⟨c, hc, h3⟩ := E_mo (dr_tr (gst x y n).1 (gst x y n).2)
   exact (ih.trans (Span.step h2.1)).trans (Span.scale (c := 1) (d := c) (by decide) hc (fun t => by rw [Rat.one_mul]; rfl) h3)
theorem gst_len (x y : List Rat) {m : Nat} (hx : x.length ≤ m) (hy : y.length ≤ m) : ∀ n, (∀ i, i < n → (gst x y i).2 ≠ []) → (gst x y n).1.length ≤ m ∧ (gst x y n).2.length ≤ m
 | 0, _ => by
   have := nm_len x
   have := nm_len y
   simp only [gst, mo_len]
   omega
 | n + 1, h => by
   have ih := gst_len x y hx hy n (fun i hi => h i (by omega))
   have := gst_less (h n (by omega))
   have e : (gst x y (n + 1)).1 = (gst x y n).2 := rfl
   rw [e]
   omega
theorem dr_size {a b : List Rat} {k : Nat} (ha : Lp a k) (hb : Lp b k) (ta : Tr a) (tb : Tr b) (h : b ≠ []) : Lp (dr a b) (k + (a.length - b.length + 1) * (k + 1)) := by
 unfold dr
 rw [nm_of_tr ta, nm_of_tr tb, if_neg h]
 split
 · exact ha.mono (by omega)
 · exact (ha.rm hb tb h).nm
end Pq
namespace Sg
theorem pigeon : ∀ (m n : Nat) (f : Nat → Nat), (∀ i, i < n → f i < m) → m < n → ∃ i j, i < j ∧ j < n ∧ f i = f j
 | 0, n, f, h, hn => absurd (h 0 hn) (by omega)
 | m + 1, n, f, h, hn => by
   obtain ⟨n, rfl⟩ : ∃ k, n = k + 1 := ⟨n - 1, by omega⟩
   by_cases hc : ∃ i, i < n ∧ f i = f n
   · obtain ⟨i, h1, h2⟩ := hc
     exact ⟨i, n, h1, by omega, h2⟩
   · have hne : ∀ i, i < n → f i ≠ f n := fun i hi e => hc ⟨i, hi, e⟩
     have hv := h n (by omega)
     obtain ⟨i, j, h1, h2, h3⟩ := pigeon m n (fun i => if f i < f n then f i else f i - 1) (fun i hi => by
      have := h i (by omega)
      have := hne i hi
      (try dsimp only)
      split <;> omega) (by omega)
     have e1 := hne i (by omega)
     have e2 := hne j h2
     refine ⟨i, j, h1, by omega, ?_⟩
     (try dsimp only at h3)
     split at h3 <;> split at h3 <;> omega
/-- So many digits. -/
def dg (b : Nat) : Nat → Nat → List Int
 | 0, _ => []
 | n + 1, t => ((t % b : Nat) : Int) :: dg b n (t / b)
theorem dg_len (b : Nat) : ∀ n t, (dg b n t).length = n
 | 0, _ => rfl
 | n + 1, t => by simp only [dg, List.length_cons, dg_len b n]
theorem dg_small {b : Nat} (hb : 0 < b) : ∀ n t, ∀ x ∈ dg b n t, 0 ≤ x ∧ x < (b : Int)
 | 0, _, x, h => by simp [dg] at h
 | n + 1, t, x, h => by
   rcases List.mem_cons.1 h with rfl | h
   · have := Nat.mod_lt t hb
     omega
   · exact dg_small hb n _ x h
theorem dg_inj {b : Nat} (hb : 0 < b) : ∀ n s t, s < b ^ n → t < b ^ n → dg b n s = dg b n t → s = t
 | 0, s, t, h1, h2, _ => by rw [Nat.pow_zero] at h1 h2; omega
 | n + 1, s, t, h1, h2, h => by
   simp only [dg, List.cons.injEq] at h
   obtain ⟨e1, e2⟩ := h
   rw [Nat.pow_succ, Nat.mul_comm] at h1 h2
   have e3 := dg_inj hb n _ _ (Nat.div_lt_of_lt_mul h1) (Nat.div_lt_of_lt_mul h2) e2
   have e4 : s % b = t % b := by exact_mod_cast e1
   rw [← Nat.div_add_mod s b, ← Nat.div_add_mod t b, e3, e4]
def enc (C : Nat) : List Nat → Nat
 | [] => 0
 | x :: l => x + C * enc C l
theorem enc_lt {C : Nat} : ∀ l : List Nat, (∀ x ∈ l, x < C) → enc C l < C ^ l.length
 | [], _ => by simp [enc]
 | x :: l, h => by
   have ih := enc_lt l (fun y hy => h y (.tail _ hy))
   have hx := h x (.head _)
   have h2 := Nat.mul_le_mul_left C ih
   simp only [enc, List.length_cons, Nat.pow_succ]
   rw [Nat.mul_comm (C ^ l.length) C]
   rw [Nat.succ_eq_add_one, Nat.mul_add, Nat.mul_one] at h2
   generalize C * enc C l = a at *
   generalize C * C ^ l.length = b at *
   omega
theorem enc_inj {C : Nat} : ∀ l k : List Nat, l.length = k.length → (∀ x ∈ l, x < C) → (∀ x ∈ k, x < C) → enc C l = enc C k → l = k
 | [], [], _, _, _, _ => rfl
 | [], _ :: _, h, _, _, _ => by simp at h
 | _ :: _, [], h, _, _, _ => by simp at h
 | x :: l, y :: k, hl, h1, h2, h => by
   simp only [enc] at h
   have hx := h1 x (.head _)
   have hy := h2 y (.head _)
   have e1 : x = y := by
    have := congrArg (· % C) h
    simp only [Nat.add_mul_mod_self_left, Nat.mod_eq_of_lt hx, Nat.mod_eq_of_lt hy] at this
    exact this
   subst e1
   have e2 : enc C l = enc C k := Nat.eq_of_mul_eq_mul_left (show 0 < C by omega) (by omega)
   rw [enc_inj l k (by simpa using hl) (fun z hz => h1 z (.tail _ hz)) (fun z hz => h2 z (.tail _ hz)) e2]
def dot : List Int → List Int → Int
 | a :: as, b :: bs => a * b + dot as bs
 | _, _ => 0
def df : List Int → List Int → List Int
 | a :: as, b :: bs => (a - b) :: df as bs
 | _, _ => []
theorem df_len : ∀ u v : List Int, u.length = v.length → (df u v).length = u.length
 | [], [], _ => rfl
 | [], _ :: _, h => by simp at h
 | _ :: _, [], h => by simp at h
 | a :: u, b :: v, h => by simp only [df, List.length_cons, df_len u v (by simpa using h)]
theorem df_small {H : Int} : ∀ u v : List Int, (∀ x ∈ u, 0 ≤ x ∧ x < H) → (∀ x ∈ v, 0 ≤ x ∧ x < H) → ∀ x ∈ df u v, -H < x ∧ x < H
 | [], _, _, _, x, h => by simp [df] at h
 | _ :: _, [], _, _, x, h => by simp [df] at h
 | a :: u, b :: v, h1, h2, x, h => by
   rcases List.mem_cons.1 h with rfl | h
   · have := h1 a (.head _)
     have := h2 b (.head _)
     omega
   · exact df_small u v (fun y hy => h1 y (.tail _ hy)) (fun y hy => h2 y (.tail _ hy)) x h
theorem df_zero : ∀ u v : List Int, u.length = v.length → (∀ x ∈ df u v, x = 0) → u = v
 | [], [], _, _ => rfl
 | [], _ :: _, h, _ => by simp at h
 | _ :: _, [], h, _ => by simp at h
 | a :: u, b :: v, h, hz => by
   have := hz (a - b) (.head _)
   rw [df_zero u v (by simpa using h) (fun x hx => hz x (.tail _ hx)), show a = b by omega]
theorem dot_df : ∀ r u v : List Int, u.length = v.length → dot r (df u v) = dot r u - dot r v
 | [], u, v, _ => by simp [dot]
 | _ :: _, [], [], _ => by simp [dot, df]
 | _ :: _, [], _ :: _, h => by simp at h
 | _ :: _, _ :: _, [], h => by simp at h
 | a :: r, b :: u, c :: v, h => by
   simp only [dot, df, dot_df r u v (by simpa using h), Int.mul_sub]
   omega
theorem dot_bound {A H : Nat} : ∀ r v : List Int, (∀ a ∈ r, a.natAbs ≤ A) → (∀ x ∈ v, x.natAbs ≤ H) → (dot r v).natAbs ≤ r.length * (A * H)
 | [], v, _, _ => by simp [dot]
 | _ :: _, [], _, _ => by simp [dot]
 | a :: r, b :: v, h1, h2 => by
   have ih := dot_bound r v (fun y hy => h1 y (.tail _ hy)) (fun y hy => h2 y (.tail _ hy))
   have e : (a * b).natAbs ≤ A * H := by rw [Int.natAbs_mul]; exact Nat.mul_le_mul (h1 a (.head _)) (h2 b (.head _))
   simp only [dot, List.length_cons, Nat.succ_mul]
   generalize a * b = x at *
   generalize dot r v = y at *
   generalize A * H = z at *
   generalize r.length * z = t at *
   omega
theorem dot_zero : ∀ r v : List Int, (∀ a ∈ r, a = 0) → dot r v = 0
 | [], v, _ => by simp [dot]
 | _ :: _, [], _ => by simp [dot]
 | a :: r, b :: v, h => by rw [dot, h a (.head _), dot_zero r v (fun y hy => h y (.tail _ hy))]; simp
theorem siegel {N A : Nat} (hA : 1 ≤ A) (rows : List (List Int)) (hN : rows.length < N) (hr : ∀ r ∈ rows, r.length = N ∧ ∀ a ∈ r, a.natAbs ≤ A) :
 ∃ v : List Int, v.length = N ∧ (∀ x ∈ v, x.natAbs ≤ (2 * N * A) ^ (N - 1)) ∧ (∃ x ∈ v, x ≠ 0) ∧ ∀ r ∈ rows, dot r v = 0 := by
 obtain ⟨H, hH⟩ : ∃ H, H = (2 * N * A) ^ (N - 1) := ⟨_, rfl⟩
 obtain ⟨Z, hZ⟩ : ∃ Z, Z = N * (A * H) := ⟨_, rfl⟩
 have hNA : 1 ≤ 2 * N * A := Nat.mul_pos (by omega) hA
 have hC : 2 * Z + 1 ≤ 2 * N * A * (H + 1) := by
  rw [Nat.mul_add, Nat.mul_one, hZ, show 2 * N * A * H = 2 * (N * (A * H)) by rw [Nat.mul_assoc, Nat.mul_assoc]]
  omega
 have hlt : (2 * Z + 1) ^ rows.length < (H + 1) ^ N := by
  calc (2 * Z + 1) ^ rows.length ≤ (2 * Z + 1) ^ (N - 1) := Nat.pow_le_pow_right (by omega) (by omega)
   _ ≤ (2 * N * A * (H + 1)) ^ (N - 1) := Nat.pow_le_pow_left hC _
   _ = H * (H + 1) ^ (N - 1) := by rw [Nat.mul_pow, ← hH]
   _ < (H + 1) * (H + 1) ^ (N - 1) := Nat.mul_lt_mul_of_pos_right (by omega) (Nat.pow_pos (by omega))
   _ = (H + 1) ^ N := by rw [Nat.mul_comm, ← Nat.pow_succ, show (N - 1).succ = N by omega]
 have hd : ∀ r ∈ rows, ∀ t, (dot r (dg (H + 1) N t)).natAbs ≤ Z := fun r h t => by
  obtain ⟨h1, h2⟩ := hr r h
  have := dot_bound (A := A) (H := H) r (dg (H + 1) N t) h2 (fun x hx => by
   have := dg_small (by omega) N t x hx
   omega)
  rwa [h1, ← hZ] at this
 have hs : ∀ t, ∀ x ∈ rows.map (fun r => (dot r (dg (H + 1) N t) + (Z : Int)).toNat), x < 2 * Z + 1 := fun t x hx => by
  obtain ⟨r, h1, rfl⟩ := List.mem_map.1 hx
  have := hd r h1 t
  omega
 obtain ⟨i, j, hij, hj, he⟩ := pigeon ((2 * Z + 1) ^ rows.length) ((H + 1) ^ N) (fun t => enc (2 * Z + 1) (rows.map (fun r => (dot r (dg (H + 1) N t) + (Z : Int)).toNat)))
  (fun t _ => by
    have := enc_lt _ (hs t)
    rwa [List.length_map] at this) hlt
 have hl := enc_inj _ _ (by simp) (hs i) (hs j) he
 have hlen : (dg (H + 1) N i).length = (dg (H + 1) N j).length := by rw [dg_len, dg_len]
 refine ⟨df (dg (H + 1) N i) (dg (H + 1) N j), by rw [df_len _ _ hlen, dg_len], fun x hx => ?_, Classical.byContradiction fun hz => ?_, fun r h => ?_⟩
 · have := df_small (H := ((H + 1 : Nat) : Int)) _ _ (dg_small (by omega) N i) (dg_small (by omega) N j) x hx
   rw [← hH]
   omega
 · have := df_zero _ _ hlen (fun x hx => Classical.byContradiction fun hn => hz ⟨x, hx, hn⟩)
   have := dg_inj (by omega) N i j (by omega) hj this
   omega
 · rw [dot_df _ _ _ hlen]
   have e : ∀ r ∈ rows, (dot r (dg (H + 1) N i) + (Z : Int)).toNat = (dot r (dg (H + 1) N j) + (Z : Int)).toNat := by
    intro r h
    exact List.map_inj_left.1 hl r h
   have := e r h
   have := hd r h i
   have := hd r h j
   omega
def rt (l : List Int) : List Rat := l.map (fun z : Int => (z : Rat))
def sh (X : List Int) : Nat → Nat → List (List Int)
 | _, 0 => []
 | k, P + 1 => (List.replicate k 0 ++ X) :: sh X (k + 1) P
def cb : List Int → List (List Int) → List Rat
 | z :: v, G :: Gs => Pq.add (Pq.sc (z : Rat) (rt G)) (cb v Gs)
 | _, _ => []
theorem rt_len (l : List Int) : (rt l).length = l.length := by simp [rt]
theorem rt_getD (l : List Int) (n : Nat) : (rt l).getD n 0 = ((l.getD n 0 : Int) : Rat) := by
 by_cases hi : n < l.length
 · simp [rt, List.getD_eq_getElem?_getD, List.getElem?_eq_getElem hi]
 · simp [rt, List.getD_eq_getElem?_getD, List.getElem?_eq_none (Nat.le_of_not_lt hi)]
theorem rt_append (l k : List Int) : rt (l ++ k) = rt l ++ rt k := by simp [rt]
theorem rt_zero (n : Nat) : rt (List.replicate n 0) = List.replicate n 0 := by simp [rt]
theorem sh_len (X : List Int) : ∀ k P, (sh X k P).length = P
 | _, 0 => rfl
 | k, P + 1 => by simp only [sh, List.length_cons, sh_len X (k + 1) P]
theorem sh_mem {X : List Int} : ∀ {k P : Nat} {G : List Int}, G ∈ sh X k P → ∃ j, j < k + P ∧ G = List.replicate j 0 ++ X
 | _, 0, G, h => by simp [sh] at h
 | k, P + 1, G, h => by
   rcases List.mem_cons.1 h with rfl | h
   · exact ⟨k, by omega, rfl⟩
   · obtain ⟨j, h1, h2⟩ := sh_mem h
     exact ⟨j, by omega, h2⟩
theorem cb_getD : ∀ (v : List Int) (Gs : List (List Int)) (n : Nat), (cb v Gs).getD n 0 = ((dot (Gs.map (fun G => G.getD n 0)) v : Int) : Rat)
 | [], [], n => by simp [cb, dot]
 | [], _ :: _, n => by simp [cb, dot]
 | _ :: _, [], n => by simp [cb, dot]
 | z :: v, G :: Gs, n => by
   rw [cb, Pq.add_getD, Pq.sc_getD, cb_getD v Gs n, rt_getD, List.map_cons, dot, Rat.intCast_add, Rat.intCast_mul, Rat.mul_comm]
theorem E_cb_append : ∀ (v w : List Int) (Gs Hs : List (List Int)) (x : Rat), v.length = Gs.length → Pq.E (cb (v ++ w) (Gs ++ Hs)) x = Pq.E (cb v Gs) x + Pq.E (cb w Hs) x
 | [], w, [], Hs, x, _ => by simp [cb, Pq.E, Rat.zero_add]
 | [], w, _ :: _, Hs, x, h => by simp at h
 | _ :: _, w, [], Hs, x, h => by simp at h
 | z :: v, w, G :: Gs, Hs, x, h => by
   simp only [List.cons_append, cb, Pq.E_add, E_cb_append v w Gs Hs x (by simpa using h), Rat.add_assoc]
theorem E_cb_sh (X : List Int) (x : Rat) : ∀ (v : List Int) (k P : Nat), v.length = P → Pq.E (cb v (sh X k P)) x = x ^ k * (Pq.E (rt v) x * Pq.E (rt X) x)
 | [], k, 0, _ => by simp [cb, sh, rt, Pq.E]
 | [], k, P + 1, h => by simp at h
 | _ :: _, k, 0, h => by simp at h
 | z :: v, k, P + 1, h => by
   have e : rt (z :: v) = (z : Rat) :: rt v := rfl
   rw [sh, cb, Pq.E_add, Pq.E_sc, rt_append, rt_zero, Pq.E_append, Pq.E_replicate, List.length_replicate, E_cb_sh X x v (k + 1) P (by simpa using h), e, Rat.pow_succ]
   simp only [Pq.E]
   grind
/-- A small combination of two whole polynomials without coefficients from a place on. -/
theorem small_pair {X Y : List Int} {A P Q e T : Nat} (hA : 1 ≤ A) (hX : ∀ a ∈ X, a.natAbs ≤ A) (hY : ∀ a ∈ Y, a.natAbs ≤ A) (hN : T - e < P + Q) (hP : P = 0 ∨ X.length + P ≤ T + 1) (hQ : Q = 0 ∨ Y.length + Q ≤ T + 1) :
 ∃ s t : List Int, s.length = P ∧ t.length = Q ∧ (∀ x ∈ s ++ t, x.natAbs ≤ (2 * (P + Q) * A) ^ (P + Q - 1)) ∧ (∃ x ∈ s ++ t, x ≠ 0) ∧ ∃ S : List Rat, (∀ x, Pq.E S x = Pq.E (rt s) x * Pq.E (rt X) x + Pq.E (rt t) x * Pq.E (rt Y) x) ∧ (∀ n, e ≤ n → S.getD n 0 = 0) ∧
   ∀ n, ∃ z : Int, S.getD n 0 = (z : Rat) ∧ z.natAbs ≤ (P + Q) * (A * (2 * (P + Q) * A) ^ (P + Q - 1)) := by
 obtain ⟨G, hG⟩ : ∃ G, G = sh X 0 P ++ sh Y 0 Q := ⟨_, rfl⟩
 have hGl : G.length = P + Q := by rw [hG, List.length_append, sh_len, sh_len]
 have hGm : ∀ g ∈ G, g.length ≤ T ∧ ∀ n, (g.getD n 0).natAbs ≤ A := fun g hg => by
  have one : ∀ (Z : List Int) (j n : Nat), (∀ a ∈ Z, a.natAbs ≤ A) → ((List.replicate j 0 ++ Z).getD n 0).natAbs ≤ A := fun Z j n hZ => by
   by_cases hn : n < (List.replicate j (0 : Int) ++ Z).length
   · have hm : (List.replicate j (0 : Int) ++ Z)[n] ∈ List.replicate j (0 : Int) ++ Z := List.getElem_mem hn
     rw [List.getD_eq_getElem?_getD, List.getElem?_eq_getElem hn, Option.getD_some]
     rcases List.mem_append.1 hm with hm | hm
     · rw [(List.mem_replicate.1 hm).2]; simp
     · exact hZ _ hm
   · rw [List.getD_eq_getElem?_getD, List.getElem?_eq_none (Nat.le_of_not_lt hn)]; simp
  rw [hG] at hg
  rcases List.mem_append.1 hg with hg | hg
  · obtain ⟨j, h1, rfl⟩ := sh_mem hg
    refine ⟨?_, fun n => one X j n hX⟩
    rw [List.length_append, List.length_replicate]
    omega
  · obtain ⟨j, h1, rfl⟩ := sh_mem hg
    refine ⟨?_, fun n => one Y j n hY⟩
    rw [List.length_append, List.length_replicate]
    omega
 have hrow : ∀ n, ∀ a ∈ G.map (fun g => g.getD n 0), a.natAbs ≤ A := fun n a ha => by
  obtain ⟨g, h1, rfl⟩ := List.mem_map.1 ha
  exact (hGm g h1).2 n
 obtain ⟨v, hv, hsm, hnz, hdot⟩ := siegel (N := P + Q) hA ((List.range (T - e)).map (fun i => G.map (fun g => g.getD (e + i) 0))) (by simpa using hN) (fun r hr => by
  obtain ⟨i, _, rfl⟩ := List.mem_map.1 hr
  exact ⟨by rw [List.length_map, hGl], hrow _⟩)
 refine ⟨v.take P, v.drop P, by rw [List.length_take]; omega, by rw [List.length_drop]; omega, by rw [List.take_append_drop]; exact hsm, by rw [List.take_append_drop]; exact hnz, cb v G, fun x => ?_, fun n hn => ?_, fun n => ⟨_, cb_getD v G n, ?_⟩⟩
 · have e1 : cb v G = cb (v.take P ++ v.drop P) (sh X 0 P ++ sh Y 0 Q) := by rw [List.take_append_drop, hG]
   rw [e1, E_cb_append _ _ _ _ _ (by rw [List.length_take, sh_len]; omega), E_cb_sh _ _ _ _ _ (by rw [List.length_take]; omega), E_cb_sh _ _ _ _ _ (by rw [List.length_drop]; omega)]
   simp only [Rat.pow_zero, Rat.one_mul]
 · rw [cb_getD]
   by_cases hT : n < T
   · rw [hdot _ (List.mem_map.2 ⟨n - e, List.mem_range.2 (by omega), by rw [show e + (n - e) = n by omega]⟩)]
     rfl
   · rw [dot_zero _ _ (fun a ha => ?_)]
     · rfl
     · obtain ⟨g, h1, rfl⟩ := List.mem_map.1 ha
       have := (hGm g h1).1
       rw [List.getD_eq_getElem?_getD, List.getElem?_eq_none (by omega)]; simp
 · have := dot_bound (A := A) _ v (hrow n) hsm
   rwa [List.length_map, hGl] at this
end Sg
namespace Pq
/-- The length of the right one. -/
def ln (p : List Rat) : Nat := (nm p).length
theorem ln_ext {p q : List Rat} (h : ∀ x, E p x = E q x) : ln p = ln q := by unfold ln; rw [nm_ext h]
theorem ln_le (p : List Rat) : ln p ≤ p.length := nm_len p
theorem ln_tr {p : List Rat} (h : Tr p) : ln p = p.length := by unfold ln; rw [nm_of_tr h]
theorem ln_nil {p : List Rat} (h : nm p = []) : ln p = 0 := by unfold ln; rw [h]; rfl
theorem ln_pos {p : List Rat} (h : nm p ≠ []) : 0 < ln p := List.length_pos_iff.2 h
theorem nm_getD : ∀ (p : List Rat) (i : Nat), (nm p).getD i 0 = p.getD i 0
 | [], i => rfl
 | a :: p, i => by
   unfold nm
   split
   · rename_i h
     cases i with
     | zero => simp [h.1]
     | succ i => rw [List.getD_cons_succ, ← nm_getD p i, h.2]; simp
   · cases i with
     | zero => simp
     | succ i => rw [List.getD_cons_succ, List.getD_cons_succ]; exact nm_getD p i
theorem getD_ext {p q : List Rat} (h : ∀ x, E p x = E q x) (i : Nat) : p.getD i 0 = q.getD i 0 := by rw [← nm_getD p, ← nm_getD q, nm_ext h]
theorem getD_ln {p : List Rat} {i : Nat} (h : ln p ≤ i) : p.getD i 0 = 0 := by rw [← nm_getD]; exact getD_out h
theorem lt_ln {p : List Rat} {i : Nat} (h : p.getD i 0 ≠ 0) : i < ln p := Classical.byContradiction fun hn => h (getD_ln (Nat.le_of_not_lt hn))
theorem top_ln {p : List Rat} (h : nm p ≠ []) : p.getD (ln p - 1) 0 ≠ 0 := by
 rcases tr_nm p with e | e
 · exact absurd e h
 · rwa [nm_getD] at e
theorem ln_mul {p q : List Rat} (hp : nm p ≠ []) (hq : nm q ≠ []) : ln (mul p q) + 1 = ln p + ln q := by
 have e : nm (mul p q) = mul (nm p) (nm q) := by
  rw [← nm_mul (tr_nm p) (tr_nm q) hp hq]
  exact nm_ext fun x => by rw [E_mul, E_mul, E_nm, E_nm]
 unfold ln
 rw [e]
 exact mul_len _ _ hp hq
theorem ln_add_lt {p q : List Rat} (h : ln q < ln p) : ln (add p q) = ln p := by
 have hp : nm p ≠ [] := fun e => by rw [ln_nil e] at h; omega
 refine Nat.le_antisymm (nm_le_of fun m hm => ?_) ?_
 · rw [add_getD, getD_ln hm, getD_ln (by omega), Rat.add_zero]
 · have h1 := top_ln hp
   have h2 : (add p q).getD (ln p - 1) 0 ≠ 0 := by rwa [add_getD, getD_ln (p := q) (by omega), Rat.add_zero]
   have := lt_ln h2
   omega
theorem ln_sc_le (c : Rat) (p : List Rat) : ln (sc c p) ≤ ln p := nm_le_of fun m hm => by rw [sc_getD, getD_ln hm, Rat.mul_zero]
theorem no_zero {p q : List Rat} (h : ∀ x, E p x * E q x = 0) (hq : nm q ≠ []) : nm p = [] := by
 apply Classical.byContradiction
 intro hp
 have h1 := ln_mul hp hq
 have h2 : nm (mul p q) = [] := nm_nil fun x => by rw [E_mul]; exact h x
 rw [ln_nil h2] at h1
 have := ln_pos hp
 have := ln_pos hq
 omega
theorem no_zeroE {p q : List Rat} (h : ∀ x, E p x * E q x = 0) (hq : nm q ≠ []) (x : Rat) : E p x = 0 := E_of_nil (no_zero h hq) x
theorem const_ln {p : List Rat} (h : ln p ≤ 1) : ∃ k : Rat, ∀ x, E p x = k := by
 refine ⟨(nm p).getD 0 0, fun x => ?_⟩
 rw [← E_nm]
 unfold ln at h
 match nm p, h with
 | [], _ => rfl
 | [a], _ => simp only [E, List.getD_cons_zero]; grind
 | _ :: _ :: _, h => simp at h
/-- At most so many places above those from L on. -/
def Sz (s : List Rat) (L M : Nat) : Prop := nm s = [] ∨ ln s + L ≤ M + 1
theorem mo_self {p : List Rat} (h : Mo p) : mo (nm p) = p := by
 rw [nm_of_tr h.tr]
 rcases h with rfl | h
 · rfl
 · unfold mo
   rw [h, show (1 : Rat) / 1 = 1 by rw [Rat.div_def]; exact Rat.mul_inv_cancel 1 (by decide)]
   exact sc_one p
theorem gst_zero {a b : List Rat} (ha : Mo a) (hb : Mo b) : gst a b 0 = (a, b) := by
 show (mo (nm a), mo (nm b)) = _
 rw [mo_self ha, mo_self hb]
theorem gst_one {a b : List Rat} (ha : Mo a) (hb : Mo b) : gst a b 1 = (b, mo (dr a b)) := by
 show ((gst a b 0).2, mo (dr (gst a b 0).1 (gst a b 0).2)) = _
 rw [gst_zero ha hb]
theorem gst_shift {a b : List Rat} (ha : Mo a) (hb : Mo b) : ∀ n, gst b (mo (dr a b)) n = gst a b (n + 1)
 | 0 => by rw [gst_zero hb (mo_mo (dr_tr _ _)), gst_one ha hb]
 | n + 1 => by
   show ((gst b (mo (dr a b)) n).2, mo (dr (gst b (mo (dr a b)) n).1 (gst b (mo (dr a b)) n).2)) = _
   rw [gst_shift ha hb n]
   rfl
theorem gst_mo_eq (x y : List Rat) : ∀ n, gst (mo (nm x)) (mo (nm y)) n = gst x y n
 | 0 => by rw [gst_zero (mo_mo (tr_nm x)) (mo_mo (tr_nm y))]; rfl
 | n + 1 => by
   show ((gst (mo (nm x)) (mo (nm y)) n).2, mo (dr (gst (mo (nm x)) (mo (nm y)) n).1 (gst (mo (nm x)) (mo (nm y)) n).2)) = _
   rw [gst_mo_eq x y n]
   rfl
theorem stp {a b : List Rat} (ha : Mo a) (hb : Mo b) (hne : b ≠ []) {L : Nat} (hL : L ≤ b.length) {s t c : List Rat} (hs : Sz s L b.length) (hc : ∀ x, E c x = E s x * E a x + E t x * E b x) (hlt : ln c < L) :
 ∃ (s' t' q : List Rat) (κ : Rat), κ ≠ 0 ∧ (∀ x, E a x = E q x * E b x + κ * E (mo (dr a b)) x) ∧ (∀ x, E s' x = E s x * E q x + E t x) ∧ (∀ x, E t' x = κ * E s x) ∧ Sz s' L (mo (dr a b)).length ∧ Sz t' L b.length ∧ (∀ x, E c x = E s' x * E b x + E t' x * E (mo (dr a b)) x) := by
 have hnb : nm b ≠ [] := by rw [nm_of_tr hb.tr]; exact hne
 have hdiv := (dqr_div (p := a) (q := b) hnb).1
 obtain ⟨c0, hc0, he⟩ := E_mo (dr_tr a b)
 have hm1 : Mo (mo (dr a b)) := mo_mo (dr_tr a b)
 generalize mo (dr a b) = b1 at *
 generalize dq a b = q at *
 generalize dr a b = r at *
 have hi := Rat.inv_mul_cancel _ hc0
 have hκ : c0⁻¹ ≠ 0 := fun e => by rw [e, Rat.zero_mul] at hi; exact absurd hi (by decide)
 have hr : ∀ x, E r x = c0⁻¹ * E b1 x := fun x => by rw [he, ← Rat.mul_assoc, hi, Rat.one_mul]
 have hEs : ∀ x, E (add (mul s q) t) x = E s x * E q x + E t x := fun x => by rw [E_add, E_mul]
 have hEt : ∀ x, E (sc c0⁻¹ s) x = c0⁻¹ * E s x := fun x => E_sc _ _ _
 have hsum : ∀ x, E c x = E (add (mul s q) t) x * E b x + E (sc c0⁻¹ s) x * E b1 x := fun x => by
  rw [hc, hdiv, hr, hEs, hEt]
  grind
 have ht' : Sz (sc c0⁻¹ s) L b.length := by
  rcases hs with h | h
  · exact .inl (nm_nil fun x => by rw [hEt, E_of_nil h, Rat.mul_zero])
  · exact .inr (by have := ln_sc_le c0⁻¹ s; omega)
 refine ⟨_, _, q, c0⁻¹, hκ, fun x => by rw [hdiv, hr], hEs, hEt, ?_, ht', hsum⟩
 generalize add (mul s q) t = s' at *
 generalize sc c0⁻¹ s = t' at *
 apply Classical.byContradiction
 intro hno
 unfold Sz at hno
 have h1 : nm s' ≠ [] := fun e => hno (.inl e)
 have h2 : b1.length + 1 < ln s' + L := Nat.lt_of_not_le fun e => hno (.inr e)
 have l1 := ln_mul h1 hnb
 have lb : ln b = b.length := ln_tr hb.tr
 have l2 : ln (mul t' b1) < ln (mul s' b) := by
  have hpos := ln_pos h1
  have hbp := ln_pos hnb
  by_cases k1 : nm t' = []
  · rw [ln_nil (p := mul t' b1) (nm_nil fun x => by rw [E_mul, E_of_nil k1, Rat.zero_mul])]
    omega
  by_cases k2 : nm b1 = []
  · rw [ln_nil (p := mul t' b1) (nm_nil fun x => by rw [E_mul, E_of_nil k2, Rat.mul_zero])]
    omega
  have l3 := ln_mul k1 k2
  have l4 : ln b1 = b1.length := ln_tr hm1.tr
  rcases ht' with h | h
  · exact absurd h k1
  · omega
 have l5 := ln_add_lt l2
 have l6 : ln c = ln (add (mul s' b) (mul t' b1)) := ln_ext fun x => by rw [hsum, E_add, E_mul, E_mul]
 have hpos := ln_pos h1
 omega
theorem gst_first_le {a b : List Rat} (hb : Mo b) (hne : b ≠ []) (ha : Mo a) (n : Nat) (h : ∀ i, i < n → (gst b (mo (dr a b)) i).2 ≠ []) : (gst b (mo (dr a b)) n).1.length ≤ b.length := by
 have h2 := (dqr_div (p := a) (q := b) (by rw [nm_of_tr hb.tr]; exact hne)).2
 rw [nm_of_tr hb.tr, nm_of_tr (dr_tr _ _)] at h2
 exact (gst_len b (mo (dr a b)) (m := b.length) (Nat.le_refl _) (by rw [mo_len]; omega) n h).1
theorem mo_dr_lt {a b : List Rat} (hb : Mo b) (hne : b ≠ []) : (mo (dr a b)).length < b.length := by
 have h2 := (dqr_div (p := a) (q := b) (by rw [nm_of_tr hb.tr]; exact hne)).2
 rw [nm_of_tr hb.tr, nm_of_tr (dr_tr _ _)] at h2
 rw [mo_len]
 exact h2
theorem Un : ∀ (n : Nat) (a b : List Rat), Mo a → Mo b → (n = 0 → b.length < a.length) → (∀ i, i < n → (gst a b i).2 ≠ []) → ∀ (s t c : List Rat), Sz s (gst a b n).1.length b.length → Sz t (gst a b n).1.length a.length → (∀ x, E c x = E s x * E a x + E t x * E b x) → ln c < (gst a b n).1.length →
 ∃ k : Rat, ∀ x, E c x = k * E (gst a b n).2 x
 | 0, a, b, ha, hb, hlt, _, s, t, c, hs, ht, hc, _ => by
   rw [gst_zero ha hb] at hs ht ⊢
   have hlt := hlt rfl
   dsimp only at hs ht ⊢
   have hs0 : nm s = [] := by
    rcases hs with h | h
    · exact h
    · exact List.eq_nil_of_length_eq_zero (show ln s = 0 by omega)
   obtain ⟨k, hk⟩ := const_ln (p := t) (by
    rcases ht with h | h
    · rw [ln_nil h]; omega
    · omega)
   exact ⟨k, fun x => by rw [hc, E_of_nil hs0, hk, Rat.zero_mul, Rat.zero_add]⟩
 | n + 1, a, b, ha, hb, _, hne, s, t, c, hs, ht, hc, hl => by
   have hb0 : b ≠ [] := by have := hne 0 (by omega); rwa [gst_zero ha hb] at this
   have hm1 : Mo (mo (dr a b)) := mo_mo (dr_tr a b)
   have hne' : ∀ i, i < n → (gst b (mo (dr a b)) i).2 ≠ [] := fun i hi => by rw [gst_shift ha hb]; exact hne _ (by omega)
   have hL := gst_first_le hb hb0 ha n hne'
   rw [← gst_shift ha hb] at hs hl ⊢
   obtain ⟨s', t', q, κ, _, _, _, _, z1, z2, hc'⟩ := stp ha hb hb0 hL hs hc hl
   exact Un n b (mo (dr a b)) hb hm1 (fun _ => mo_dr_lt hb hb0) hne' s' t' c z1 z2 hc' hl
theorem Nv : ∀ (n : Nat) (a b : List Rat), Mo a → Mo b → (n = 0 → b.length < a.length) → (∀ i, i < n + 1 → (gst a b i).2 ≠ []) → ∀ (s t c : List Rat), Sz s (gst a b n).1.length b.length → Sz t (gst a b n).1.length a.length → (∀ x, E c x = E s x * E a x + E t x * E b x) → ln c < (gst a b n).1.length → (∀ x, E c x = 0) →
 (∀ x, E s x = 0) ∧ ∀ x, E t x = 0
 | 0, a, b, ha, hb, hlt, hne, s, t, c, hs, ht, hc, _, h0 => by
   have hb0 : b ≠ [] := by have := hne 0 (by omega); rwa [gst_zero ha hb] at this
   rw [gst_zero ha hb] at hs ht
   have hlt := hlt rfl
   dsimp only at hs ht
   have hs0 : nm s = [] := by
    rcases hs with h | h
    · exact h
    · exact List.eq_nil_of_length_eq_zero (show ln s = 0 by omega)
   refine ⟨E_of_nil hs0, no_zeroE (q := b) (fun x => ?_) (by rw [nm_of_tr hb.tr]; exact hb0)⟩
   have := hc x
   rw [h0, E_of_nil hs0, Rat.zero_mul, Rat.zero_add] at this
   exact this.symm
 | n + 1, a, b, ha, hb, _, hne, s, t, c, hs, ht, hc, hl, h0 => by
   have hb0 : b ≠ [] := by have := hne 0 (by omega); rwa [gst_zero ha hb] at this
   have hm1 : Mo (mo (dr a b)) := mo_mo (dr_tr a b)
   have hne' : ∀ i, i < n + 1 → (gst b (mo (dr a b)) i).2 ≠ [] := fun i hi => by rw [gst_shift ha hb]; exact hne _ (by omega)
   have hL := gst_first_le hb hb0 ha n (fun i hi => hne' i (by omega))
   rw [← gst_shift ha hb] at hs hl
   obtain ⟨s', t', q, κ, hκ, _, e1, e2, z1, z2, hc'⟩ := stp ha hb hb0 hL hs hc hl
   obtain ⟨r1, r2⟩ := Nv n b (mo (dr a b)) hb hm1 (fun _ => mo_dr_lt hb hb0) hne' s' t' c z1 z2 hc' hl h0
   have r3 : ∀ x, E s x = 0 := fun x => by
    have h := r2 x
    rw [e2] at h
    exact (Rat.mul_eq_zero.1 h).resolve_left hκ
   refine ⟨r3, fun x => ?_⟩
   have h := r1 x
   rw [e1, r3, Rat.zero_mul, Rat.zero_add] at h
   exact h
theorem Cf : ∀ (n : Nat) (a b : List Rat), Mo a → Mo b → (n = 0 → b.length < a.length) → (∀ i, i < n → (gst a b i).2 ≠ []) → (gst a b n).2 = [] → ∀ (s t c u v : List Rat), Sz s (gst a b n).1.length b.length → Sz t (gst a b n).1.length a.length → (∀ x, E c x = E s x * E a x + E t x * E b x) → ln c < (gst a b n).1.length → (∀ x, E c x = 0) →
 (∀ x, E a x = E u x * E (gst a b n).1 x) → (∀ x, E b x = E v x * E (gst a b n).1 x) → ∃ k : Rat, (∀ x, E s x = k * E v x) ∧ ∀ x, E t x = -k * E u x
 | 0, a, b, ha, hb, hlt, hne, hend, s, t, c, u, v, hs, ht, hc, _, h0, hu, hv => by
   rw [gst_zero ha hb] at hs ht hend hu hv
   have hlt := hlt rfl
   dsimp only at hs ht hend hu hv
   have ha0 : nm a ≠ [] := by rw [nm_of_tr ha.tr]; intro e; rw [e] at hlt; simp at hlt
   have hs0 : nm s = [] := by
    rcases hs with h | h
    · exact h
    · exact List.eq_nil_of_length_eq_zero (show ln s = 0 by omega)
   obtain ⟨k, hk⟩ := const_ln (p := t) (by
    rcases ht with h | h
    · rw [ln_nil h]; omega
    · omega)
   have v0 : ∀ x, E v x = 0 := no_zeroE (q := a) (fun x => by rw [← hv, hend]; rfl) ha0
   have u1 : ∀ x, E u x = 1 := fun x => by
    have := no_zeroE (p := add u [-1]) (q := a) (fun x => by
     have := hu x
     rw [E_add]
     simp only [E]
     grind) ha0 x
    rw [E_add] at this
    simp only [E] at this
    grind
   exact ⟨-k, fun x => by rw [E_of_nil hs0, v0, Rat.mul_zero], fun x => by rw [hk, u1, Rat.neg_neg, Rat.mul_one]⟩
 | n + 1, a, b, ha, hb, _, hne, hend, s, t, c, u, v, hs, ht, hc, hl, h0, hu, hv => by
   have hb0 : b ≠ [] := by have := hne 0 (by omega); rwa [gst_zero ha hb] at this
   have hm1 : Mo (mo (dr a b)) := mo_mo (dr_tr a b)
   have hne' : ∀ i, i < n → (gst b (mo (dr a b)) i).2 ≠ [] := fun i hi => by rw [gst_shift ha hb]; exact hne _ (by omega)
   have hL := gst_first_le hb hb0 ha n (fun i hi => hne' i (by omega))
   rw [← gst_shift ha hb] at hs hl hend hu hv
   obtain ⟨s', t', q, κ, hκ, e0, e1, e2, z1, z2, hc'⟩ := stp ha hb hb0 hL hs hc hl
   have hi := Rat.inv_mul_cancel _ hκ
   have hv1 : ∀ x, E (sc κ⁻¹ (add u (sc (-1) (mul q v)))) x = κ⁻¹ * (E u x - E q x * E v x) := fun x => by
    rw [E_sc, E_add, E_sc, E_mul]
    grind
   obtain ⟨k, r1, r2⟩ := Cf n b (mo (dr a b)) hb hm1 (fun _ => mo_dr_lt hb hb0) hne' hend s' t' c v (sc κ⁻¹ (add u (sc (-1) (mul q v)))) z1 z2 hc' hl h0 hv (fun x => by
    have h := e0 x
    rw [hu, hv] at h
    rw [hv1]
    generalize E (gst b (mo (dr a b)) n).1 x = G at *
    generalize E (mo (dr a b)) x = B at *
    have : κ * B = E u x * G - E q x * (E v x * G) := by grind
    calc B = κ⁻¹ * (κ * B) := by rw [← Rat.mul_assoc, hi, Rat.one_mul]
     _ = _ := by rw [this]; grind)
   have r3 : ∀ x, E s x = -(κ⁻¹ * k) * E v x := fun x => by
    have h := r2 x
    rw [e2] at h
    calc E s x = κ⁻¹ * (κ * E s x) := by rw [← Rat.mul_assoc, hi, Rat.one_mul]
     _ = _ := by rw [h]; grind
   refine ⟨-(κ⁻¹ * k), r3, fun x => ?_⟩
   have h := r1 x
   rw [e1, r3, hv1] at h
   grind
end Pq
namespace Pq
theorem pw {b u N m : Nat} (hb : 2 * N < b) (hN : 1 ≤ N) (hm : N ≤ 2 * m) : N * (b ^ u * (2 * N * b ^ u) ^ (N - 1)) < b ^ (2 * m * (u + 1)) := by
 have hp : 0 < b ^ u := Nat.pow_pos (by omega)
 calc N * (b ^ u * (2 * N * b ^ u) ^ (N - 1)) ≤ 2 * N * b ^ u * (2 * N * b ^ u) ^ (N - 1) := by
       rw [← Nat.mul_assoc]
       exact Nat.mul_le_mul_right _ (Nat.mul_le_mul_right _ (by omega))
  _ = (2 * N * b ^ u) ^ N := by rw [Nat.mul_comm, ← Nat.pow_succ, show (N - 1).succ = N by omega]
  _ < (b * b ^ u) ^ N := Nat.pow_lt_pow_left (Nat.mul_lt_mul_of_pos_right hb hp) (by omega)
  _ = b ^ ((u + 1) * N) := by rw [Nat.mul_comm b, ← Nat.pow_succ, ← Nat.pow_mul]
  _ ≤ b ^ (2 * m * (u + 1)) := Nat.pow_le_pow_right (by omega) (by rw [Nat.mul_comm (2 * m)]; exact Nat.mul_le_mul_left _ hm)
theorem pw2 {b u N m : Nat} (hb : 2 * N < b) (hN : 1 ≤ N) (hm : N ≤ 2 * m) : (2 * N * b ^ u) ^ (N - 1) < b ^ (2 * m * (u + 1)) := by
 refine Nat.lt_of_le_of_lt ?_ (pw hb hN hm)
 have hp : 0 < b ^ u := Nat.pow_pos (by omega)
 rw [← Nat.mul_assoc]
 exact Nat.le_mul_of_pos_left _ (Nat.mul_pos hN hp)
/-- Whole numbers over one lower one. -/
def whl (d : Nat) (p : List Rat) : List Int := p.map (fun q => (q * (d : Rat)).num)
theorem whl_len (d : Nat) (p : List Rat) : (whl d p).length = p.length := by simp [whl]
theorem whl_rt {d N : Nat} {p : List Rat} (h : ∀ q ∈ p, Cm d N q) : Sg.rt (whl d p) = sc (d : Rat) p := by
 unfold Sg.rt whl sc
 rw [List.map_map]
 refine List.map_congr_left fun q hq => ?_
 obtain ⟨n, h1, _⟩ := h q hq
 show (((q * (d : Rat)).num : Int) : Rat) = (d : Rat) * q
 rw [Rat.mul_comm (d : Rat), h1, Rat.num_intCast]
theorem whl_small {d N : Nat} {p : List Rat} (h : ∀ q ∈ p, Cm d N q) : ∀ z ∈ whl d p, z.natAbs ≤ N := fun z hz => by
 obtain ⟨q, hq, rfl⟩ := List.mem_map.1 hz
 obtain ⟨n, h1, h2⟩ := h q hq
 rw [h1, Rat.num_intCast]
 exact h2
theorem rat_nz {d : Nat} (h : d ≠ 0) : (d : Rat) ≠ 0 := by exact_mod_cast h
theorem rt_zero_of {l : List Int} (h : ∀ x, E (Sg.rt l) x = 0) : ∀ z ∈ l, z = 0 := fun z hz => by
 have := (nm_nil_iff _).1 (nm_nil h) (z : Rat) (List.mem_map.2 ⟨z, hz, rfl⟩)
 exact_mod_cast this
theorem sz_of_len {s : List Rat} {P L M : Nat} (h : s.length = P) (hP : P = M + 1 - L) : Sz s L M := by
 by_cases h0 : nm s = []
 · exact .inl h0
 · have h1 := ln_pos h0
   have h2 := ln_le s
   exact .inr (by omega)
theorem Cm.div_int {S k : Rat} {z zk : Int} {W : Nat} (h : S = (z : Rat)) (hz : z.natAbs ≤ W) (hk : k = (zk : Rat)) (h0 : zk ≠ 0) {g : Rat} (hg : S = k * g) : Cm zk.natAbs W g := by
 subst h hk
 have hzk : (zk : Rat) ≠ 0 := by exact_mod_cast h0
 by_cases hs : 0 ≤ zk
 · refine ⟨z, ?_, hz⟩
   have e : ((zk.natAbs : Nat) : Rat) = (zk : Rat) := by
    have : ((zk.natAbs : Nat) : Int) = zk := by omega
    exact_mod_cast congrArg (fun y : Int => (y : Rat)) this
   rw [e, Rat.mul_comm, hg]
 · refine ⟨-z, ?_, by omega⟩
   have e : ((zk.natAbs : Nat) : Rat) = -(zk : Rat) := by
    have : ((zk.natAbs : Nat) : Int) = -zk := by omega
    have := congrArg (fun y : Int => (y : Rat)) this
    rw [← Rat.intCast_neg]
    exact_mod_cast this
   rw [e, Rat.intCast_neg, hg]
   grind
theorem small_rest {a b : List Rat} (ha : Mo a) (hb : Mo b) {u m n : Nat} (hA : Lp a u) (hB : Lp b u) (la : a.length ≤ m) (lb : b.length ≤ m) (hm : m ≤ 100000) (hn : ∀ i, i < n + 1 → (gst a b i).2 ≠ []) (hlast : (gst a b (n + 1)).2 ≠ []) : Lp (gst a b (n + 1)).2 (2 * m * (u + 1)) := by
 have hb0 : b ≠ [] := by have := hn 0 (by omega); rwa [gst_zero ha hb] at this
 have hL1 : 1 ≤ (gst a b (n + 1)).1.length := List.length_pos_iff.2 (hn n (by omega))
 have hLb : (gst a b (n + 1)).1.length ≤ b.length := by
  rw [← gst_shift ha hb]
  exact gst_first_le hb hb0 ha n (fun i hi => by rw [gst_shift ha hb]; exact hn _ (by omega))
 obtain ⟨L, hL⟩ : ∃ L, L = (gst a b (n + 1)).1.length := ⟨_, rfl⟩
 rw [← hL] at hL1 hLb
 obtain ⟨da, hda, hda2, Na, hNa, hAc⟩ := hA
 obtain ⟨db, hdb, hdb2, Nb, hNb, hBc⟩ := hB
 have hN0 : b.length + 1 - L + (a.length + 1 - L) ≤ 2 * m := by omega
 have hN1 : 1 ≤ b.length + 1 - L + (a.length + 1 - L) := by omega
 obtain ⟨s, t, hs, ht, hsm, ⟨x0, hx0, hx1⟩, S, hS, hS0, hSz⟩ := Sg.small_pair (X := whl da a) (Y := whl db b) (A := Wd.B ^ u) (P := b.length + 1 - L) (Q := a.length + 1 - L) (e := L - 1) (T := a.length + b.length - L) (powB_pos u)
  (fun z hz => Nat.le_trans (whl_small hAc z hz) (Nat.le_of_lt hNa)) (fun z hz => Nat.le_trans (whl_small hBc z hz) (Nat.le_of_lt hNb)) (by omega) (by rw [whl_len]; omega) (by rw [whl_len]; omega)
 rw [whl_rt hAc, whl_rt hBc] at hS
 have hS' : ∀ x, E S x = E (sc (da : Rat) (Sg.rt s)) x * E a x + E (sc (db : Rat) (Sg.rt t)) x * E b x := fun x => by
  rw [hS, E_sc, E_sc, E_sc, E_sc]
  grind
 have hlS : ln S < L := by
  have : ln S ≤ L - 1 := nm_le_of hS0
  omega
 have zs : Sz (sc (da : Rat) (Sg.rt s)) L b.length := sz_of_len (by rw [sc_len, Sg.rt_len]; exact hs) rfl
 have zt : Sz (sc (db : Rat) (Sg.rt t)) L a.length := sz_of_len (by rw [sc_len, Sg.rt_len]; exact ht) rfl
 rw [hL] at hlS zs zt
 obtain ⟨k, hk⟩ := Un (n + 1) a b ha hb (by omega) hn _ _ S zs zt hS' hlS
 have hk0 : k ≠ 0 := fun e => by
  obtain ⟨r1, r2⟩ := Nv (n + 1) a b ha hb (by omega) (fun i hi => by
   by_cases h : i = n + 1
   · rw [h]; exact hlast
   · exact hn i (by omega)) _ _ S zs zt hS' hlS (fun x => by rw [hk, e, Rat.zero_mul])
  have q1 := rt_zero_of (l := s) (fun x => by
   have := r1 x
   rw [E_sc] at this
   exact (Rat.mul_eq_zero.1 this).resolve_left (rat_nz hda))
  have q2 := rt_zero_of (l := t) (fun x => by
   have := r2 x
   rw [E_sc] at this
   exact (Rat.mul_eq_zero.1 this).resolve_left (rat_nz hdb))
  rcases List.mem_append.1 hx0 with h | h
  · exact hx1 (q1 _ h)
  · exact hx1 (q2 _ h)
 have hmo := (gst_mo a b (n + 1)).2
 generalize (gst a b (n + 1)).2 = g at *
 have htop : g.getD (g.length - 1) 0 = 1 := by
  rcases hmo with h | h
  · exact absurd h hlast
  · exact h
 have hgd : ∀ i, S.getD i 0 = k * g.getD i 0 := fun i => by
  rw [← sc_getD]
  exact getD_ext (fun x => by rw [hk, E_sc]) i
 obtain ⟨zk, hzk, hzk2⟩ := hSz (g.length - 1)
 have hkz : k = (zk : Rat) := by rw [← hzk, hgd, htop, Rat.mul_one]
 have hzk0 : zk ≠ 0 := fun e => hk0 (by rw [hkz, e]; rfl)
 have hB : 2 * (b.length + 1 - L + (a.length + 1 - L)) < Wd.B := by rw [Wd.B_eq]; omega
 have hW := pw (u := u) hB hN1 hN0
 exact lp_of_getD (d := zk.natAbs) (by omega) (Nat.lt_of_le_of_lt hzk2 hW) hW (fun i => by
  obtain ⟨z, h1, h2⟩ := hSz i
  exact Cm.div_int h1 h2 hkz hzk0 (hgd i))
/-- All rounds are short. -/
theorem gst_small {x y : List Rat} {u m K : Nat} (hx : Lp x u) (hy : Lp y u) (lx : x.length ≤ m) (ly : y.length ≤ m) (hm : m ≤ 100000) (hK : 2 * m * (u + 1) ≤ K) (hK1 : u ≤ K) (n : Nat) (h : ∀ i, i < n → (gst x y i).2 ≠ []) : Lp (gst x y n).1 K ∧ Lp (gst x y n).2 K := by
 have hu := hx.one_le
 have two : ∀ n, (∀ i, i < n → (gst x y i).2 ≠ []) → Lp (gst x y n).2 K := fun n h => by
  cases n with
  | zero => exact (hy.nm.mo (tr_nm y)).mono hK1
  | succ n =>
    by_cases he : (gst x y (n + 1)).2 = []
    · rw [he]; exact Lp.nil.mono (by omega)
    · rw [← gst_mo_eq] at he ⊢
      have l1 := nm_len x
      have l2 := nm_len y
      exact (small_rest (mo_mo (tr_nm x)) (mo_mo (tr_nm y)) (hx.nm.mo (tr_nm x)) (hy.nm.mo (tr_nm y)) (m := m) (by rw [mo_len]; omega) (by rw [mo_len]; omega) hm (fun i hi => by rw [gst_mo_eq]; exact h i hi) he).mono hK
 refine ⟨?_, two n h⟩
 cases n with
 | zero => exact (hx.nm.mo (tr_nm x)).mono hK1
 | succ n => exact two n (fun i hi => h i (by omega))
theorem gst_ends (x y : List Rat) : ∃ n, (∀ i, i < n → (gst x y i).2 ≠ []) ∧ (gst x y n).2 = [] := by
 have go : ∀ k n, (∀ i, i < n → (gst x y i).2 ≠ []) → (gst x y n).2.length ≤ k → ∃ n, (∀ i, i < n → (gst x y i).2 ≠ []) ∧ (gst x y n).2 = [] := by
  intro k
  induction k with
  | zero => intro n h hl; exact ⟨n, h, List.eq_nil_of_length_eq_zero (by omega)⟩
  | succ k ih =>
    intro n h hl
    by_cases he : (gst x y n).2 = []
    · exact ⟨n, h, he⟩
    · have := gst_less he
      exact ih (n + 1) (fun i hi => by
       by_cases e : i = n
       · rw [e]; exact he
       · exact h i (by omega)) (by omega)
 exact go _ 0 (fun i hi => by omega) (Nat.le_refl _)
/-- A quotient of polynomials, cancelled: the lower one's last coefficient is 1. -/
structure Can (p q U D : List Rat) : Prop where
 tr : Tr U
 mo : Mo D
 ne : D ≠ []
 eq : ∀ x, E U x * E q x = E p x * E D x
 cop : ∃ s t, ∀ x, E s x * E U x + E t x * E D x = 1
theorem mul_cancel {p q r : List Rat} (h : ∀ x, E p x * E r x = E q x * E r x) (hr : nm r ≠ []) (x : Rat) : E p x = E q x := by
 have := no_zeroE (p := add p (sc (-1) q)) (q := r) (fun x => by
  have := h x
  rw [E_add, E_sc]
  grind) hr x
 rw [E_add, E_sc] at this
 grind
theorem Can.cross {p q U D U' D' : List Rat} (hq : nm q ≠ []) (h : Can p q U D) (h' : Can p q U' D') (x : Rat) : E U x * E D' x = E U' x * E D x := by
 have := mul_cancel (p := mul U D') (q := mul U' D) (r := q) (fun x => by
  have e1 := h.eq x
  have e2 := h'.eq x
  rw [E_mul, E_mul]
  grind) hq x
 rwa [E_mul, E_mul] at this
theorem Can.dv {p q U D U' D' : List Rat} (hq : nm q ≠ []) (h : Can p q U D) (h' : Can p q U' D') : Dv D D' := by
 obtain ⟨s, t, e⟩ := h.cop
 refine ⟨add (mul s U') (mul t D'), fun x => ?_⟩
 have e1 := e x
 have e2 := h.cross hq h' x
 rw [E_add, E_mul, E_mul]
 calc E D' x = (E s x * E U x + E t x * E D x) * E D' x := by rw [e1, Rat.one_mul]
  _ = E s x * (E U x * E D' x) + E t x * E D x * E D' x := by grind
  _ = _ := by rw [e2]; grind
theorem Can.unique {p q U D U' D' : List Rat} (hq : nm q ≠ []) (h : Can p q U D) (h' : Can p q U' D') : U = U' ∧ D = D' := by
 have e := Mo.unique h.mo h'.mo (h.dv hq h') (h'.dv hq h)
 refine ⟨tr_ext h.tr h'.tr (mul_cancel (r := D) (fun x => ?_) (by rw [nm_of_tr h.mo.tr]; exact h.ne)), e⟩
 have := h.cross hq h' x
 rwa [← e] at this
theorem lp_one_row : Lp ([] ++ [1]) 1 := by
 have := Lp.cons (Wd.Lq.mono (k := 1) (show Wd.Lq 1 1 from ?_) (Nat.le_refl _)) Lp.nil
 · refine ⟨1, by omega, by have := B2; rw [Nat.pow_one]; omega, 1, by have := B2; rw [Nat.pow_one]; omega, fun q hq => ?_⟩
   have : q = 1 := by simpa using hq
   subst this
   exact ⟨1, by rw [Rat.one_mul]; rfl, by decide⟩
 · exact Cm.lq (d := 1) (N := 1) ⟨1, by rw [Rat.one_mul]; rfl, by decide⟩ (by omega) (by have := B2; rw [Nat.pow_one]; omega) (by have := B2; rw [Nat.pow_one]; omega) (by omega)
theorem can_zero {p q : List Rat} (hp : nm p = []) : Can p q [] [1] :=
 ⟨.inl rfl, .inr rfl, by simp, fun x => by rw [E_nil, E_of_nil hp, Rat.zero_mul, Rat.zero_mul], [], [1], fun x => by rw [E_nil, E_one]; grind⟩
theorem can_small {p q U D : List Rat} (hq : nm q ≠ []) (h : Can p q U D) {u m : Nat} (hl : Lp (p ++ q) u) (lp : ln p ≤ m) (lq : ln q ≤ m) (hm : m ≤ 100000) : Lp (U ++ D) (2 * m * (u + 1)) := by
 have hm1 : 1 ≤ m := by have := ln_pos hq; omega
 have hu := hl.one_le
 have hK1 : 1 ≤ 2 * m * (u + 1) := Nat.mul_pos (by omega) (by omega)
 by_cases hp : nm p = []
 · obtain ⟨e1, e2⟩ := h.unique hq (can_zero hp)
   rw [e1, e2]
   exact lp_one_row.mono hK1
 obtain ⟨c, hc, hEa⟩ := E_mo (tr_nm p)
 obtain ⟨c', hc', hEb⟩ := E_mo (tr_nm q)
 have ha := mo_mo (tr_nm p)
 have hb := mo_mo (tr_nm q)
 have la : (mo (nm p)).length ≤ m := by rw [mo_len]; exact lp
 have lb : (mo (nm q)).length ≤ m := by rw [mo_len]; exact lq
 have hb0 : mo (nm q) ≠ [] := fun e => by
  have := congrArg List.length e
  rw [mo_len] at this
  exact hq (List.eq_nil_of_length_eq_zero this)
 have ma := mo_len (nm p)
 have mb := mo_len (nm q)
 generalize mo (nm p) = a at *
 generalize mo (nm q) = b at *
 obtain ⟨n, hn, hend⟩ := gst_ends a b
 obtain ⟨n, rfl⟩ : ∃ k, n = k + 1 := by
  cases n with
  | zero => rw [gst_zero ha hb] at hend; exact absurd hend hb0
  | succ k => exact ⟨k, rfl⟩
 have hsp := gst_span a b (n + 1) hn
 have hL1 : 1 ≤ (gst a b (n + 1)).1.length := List.length_pos_iff.2 (hn n (by omega))
 have hLb : (gst a b (n + 1)).1.length ≤ b.length := by
  rw [← gst_shift ha hb]
  exact gst_first_le hb hb0 ha n (fun i hi => by rw [gst_shift ha hb]; exact hn _ (by omega))
 have hgm := (gst_mo a b (n + 1)).1
 rw [hend] at hsp
 have hg := IsGcd.of_span hsp hgm
 obtain ⟨_, ⟨ua, hua⟩, ⟨vb, hvb⟩, ⟨al, be, hab⟩⟩ := hg
 obtain ⟨L, hL⟩ : ∃ L, L = (gst a b (n + 1)).1.length := ⟨_, rfl⟩
 rw [← hL] at hL1 hLb
 have hgn : nm (gst a b (n + 1)).1 ≠ [] := by
  rw [nm_of_tr hgm.tr]
  intro e
  rw [e] at hL
  simp at hL
  omega
 obtain ⟨d, hd, hd2, N, hN, hCm⟩ := hl
 have cP : ∀ z ∈ nm p, Cm d N z := fun z hz => hCm z (List.mem_append.2 (.inl (nm_mem hz)))
 have cQ : ∀ z ∈ nm q, Cm d N z := fun z hz => hCm z (List.mem_append.2 (.inr (nm_mem hz)))
 have hN0 : b.length + 1 - L + (a.length + 1 - L) ≤ 2 * m := by omega
 have hN1 : 1 ≤ b.length + 1 - L + (a.length + 1 - L) := by omega
 obtain ⟨s, t, hs, ht, hsm, ⟨x0, hx0, hx1⟩, S, hS, hS0, hSz⟩ := Sg.small_pair (X := whl d (nm p)) (Y := whl d (nm q)) (A := Wd.B ^ u) (P := b.length + 1 - L) (Q := a.length + 1 - L) (e := L - 1) (T := a.length + b.length - L) (powB_pos u)
  (fun z hz => Nat.le_trans (whl_small cP z hz) (Nat.le_of_lt hN)) (fun z hz => Nat.le_trans (whl_small cQ z hz) (Nat.le_of_lt hN)) (by omega) (by rw [whl_len, ← ma]; omega) (by rw [whl_len, ← mb]; omega)
 rw [whl_rt cP, whl_rt cQ] at hS
 have ic := Rat.inv_mul_cancel _ hc
 have ic' := Rat.inv_mul_cancel _ hc'
 have eP : ∀ x, E (nm p) x = c⁻¹ * E a x := fun x => by rw [hEa, ← Rat.mul_assoc, ic, Rat.one_mul]
 have eQ : ∀ x, E (nm q) x = c'⁻¹ * E b x := fun x => by rw [hEb, ← Rat.mul_assoc, ic', Rat.one_mul]
 have hS' : ∀ x, E S x = E (sc ((d : Rat) * c⁻¹) (Sg.rt s)) x * E a x + E (sc ((d : Rat) * c'⁻¹) (Sg.rt t)) x * E b x := fun x => by
  rw [hS, E_sc, E_sc, E_sc, E_sc, eP, eQ]
  grind
 have hlS : ln S < L := by
  have : ln S ≤ L - 1 := nm_le_of hS0
  omega
 have zs : Sz (sc ((d : Rat) * c⁻¹) (Sg.rt s)) L b.length := sz_of_len (by rw [sc_len, Sg.rt_len]; exact hs) rfl
 have zt : Sz (sc ((d : Rat) * c'⁻¹) (Sg.rt t)) L a.length := sz_of_len (by rw [sc_len, Sg.rt_len]; exact ht) rfl
 rw [hL] at hlS zs zt
 obtain ⟨k0, hk0⟩ := Un (n + 1) a b ha hb (by omega) hn _ _ S zs zt hS' hlS
 have hz : ∀ x, E S x = 0 := fun x => by rw [hk0, hend, E_nil, Rat.mul_zero]
 obtain ⟨k, ks, kt⟩ := Cf (n + 1) a b ha hb (by omega) hn hend _ _ S ua vb zs zt hS' hlS hz hua hvb
 generalize (gst a b (n + 1)).1 = g at *
 have hd' := rat_nz hd
 have idd := Rat.inv_mul_cancel _ hd'
 have es : ∀ x, E (Sg.rt s) x = k * c * (d : Rat)⁻¹ * E vb x := fun x => by
  have h1 := ks x
  rw [E_sc] at h1
  calc E (Sg.rt s) x = ((d : Rat)⁻¹ * (d : Rat)) * (c⁻¹ * c) * E (Sg.rt s) x := by rw [idd, ic]; grind
   _ = c * (d : Rat)⁻¹ * ((d : Rat) * c⁻¹ * E (Sg.rt s) x) := by grind
   _ = _ := by rw [h1]; grind
 have et : ∀ x, E (Sg.rt t) x = -(k * c' * (d : Rat)⁻¹) * E ua x := fun x => by
  have h1 := kt x
  rw [E_sc] at h1
  calc E (Sg.rt t) x = ((d : Rat)⁻¹ * (d : Rat)) * (c'⁻¹ * c') * E (Sg.rt t) x := by rw [idd, ic']; grind
   _ = c' * (d : Rat)⁻¹ * ((d : Rat) * c'⁻¹ * E (Sg.rt t) x) := by grind
   _ = _ := by rw [h1]; grind
 have hk : k ≠ 0 := fun e => by
  have q1 := rt_zero_of (l := s) (fun x => by rw [es, e]; grind)
  have q2 := rt_zero_of (l := t) (fun x => by rw [et, e]; grind)
  rcases List.mem_append.1 hx0 with h | h
  · exact hx1 (q1 _ h)
  · exact hx1 (q2 _ h)
 have hid : (d : Rat)⁻¹ ≠ 0 := fun e => by rw [e, Rat.zero_mul] at idd; exact absurd idd (by decide)
 have hν : k * c * (d : Rat)⁻¹ ≠ 0 := fun e => by
  rcases Rat.mul_eq_zero.1 e with e | e
  · rcases Rat.mul_eq_zero.1 e with e | e
    · exact hk e
    · exact hc e
  · exact hid e
 have hν' : k * c' * (d : Rat)⁻¹ ≠ 0 := fun e => by
  rcases Rat.mul_eq_zero.1 e with e | e
  · rcases Rat.mul_eq_zero.1 e with e | e
    · exact hk e
    · exact hc' e
  · exact hid e
 have hsn : nm (Sg.rt s) ≠ [] := fun e => by
  have hv0 : ∀ x, E vb x = 0 := fun x => by
   have h1 := E_of_nil e x
   rw [es] at h1
   exact (Rat.mul_eq_zero.1 h1).resolve_left hν
  have : nm b = [] := nm_nil fun x => by rw [hvb, hv0, Rat.zero_mul]
  rw [nm_of_tr hb.tr] at this
  exact hb0 this
 have hσ := top_ln hsn
 obtain ⟨σ, hσe⟩ : ∃ σ, σ = (Sg.rt s).getD (ln (Sg.rt s) - 1) 0 := ⟨_, rfl⟩
 rw [← hσe] at hσ
 have iσ := Rat.inv_mul_cancel _ hσ
 have hmoD : mo (nm (Sg.rt s)) = sc (1 / σ) (nm (Sg.rt s)) := by
  unfold mo
  rw [show (nm (Sg.rt s)).getD ((nm (Sg.rt s)).length - 1) 0 = σ by rw [hσe, nm_getD]; rfl]
 have hED : ∀ x, E (mo (nm (Sg.rt s))) x = σ⁻¹ * (k * c * (d : Rat)⁻¹ * E vb x) := fun x => by rw [hmoD, E_sc, E_nm, es, Rat.div_def, Rat.one_mul]
 have hEU : ∀ x, E (nm (sc (-σ⁻¹) (Sg.rt t))) x = σ⁻¹ * (k * c' * (d : Rat)⁻¹ * E ua x) := fun x => by rw [E_nm, E_sc, et]; grind
 have icop : ∀ x, E al x * E ua x + E be x * E vb x = 1 := fun x => by
  have := mul_cancel (p := add (mul al ua) (mul be vb)) (q := [1]) (r := g) (fun x => by
   have := hab x
   rw [hua, hvb] at this
   rw [E_add, E_mul, E_mul, E_one]
   grind) hgn x
  rwa [E_add, E_mul, E_mul, E_one] at this
 have inν := Rat.inv_mul_cancel _ hν
 have inν' := Rat.inv_mul_cancel _ hν'
 have hcan : Can p q (nm (sc (-σ⁻¹) (Sg.rt t))) (mo (nm (Sg.rt s))) := by
  refine ⟨tr_nm _, mo_mo (tr_nm _), fun e => ?_, fun x => ?_, sc (σ * (k * c' * (d : Rat)⁻¹)⁻¹) al, sc (σ * (k * c * (d : Rat)⁻¹)⁻¹) be, fun x => ?_⟩
  · have := congrArg List.length e
    rw [mo_len] at this
    exact hsn (List.eq_nil_of_length_eq_zero this)
  · rw [hEU, hED, ← E_nm p, ← E_nm q, eP, eQ, hua, hvb]
    calc σ⁻¹ * (k * c' * (d : Rat)⁻¹ * E ua x) * (c'⁻¹ * (E vb x * E g x)) = (c'⁻¹ * c') * (σ⁻¹ * k * (d : Rat)⁻¹ * E ua x * E vb x * E g x) := by grind
     _ = (c⁻¹ * c) * (σ⁻¹ * k * (d : Rat)⁻¹ * E ua x * E vb x * E g x) := by rw [ic, ic']
     _ = _ := by grind
  · rw [E_sc, E_sc, hEU, hED]
    calc _ = (σ⁻¹ * σ) * ((k * c' * (d : Rat)⁻¹)⁻¹ * (k * c' * (d : Rat)⁻¹)) * (E al x * E ua x) + (σ⁻¹ * σ) * ((k * c * (d : Rat)⁻¹)⁻¹ * (k * c * (d : Rat)⁻¹)) * (E be x * E vb x) := by
          generalize (k * c' * (d : Rat)⁻¹) = y1
          generalize (k * c * (d : Rat)⁻¹) = y2
          generalize y1⁻¹ = z1
          generalize y2⁻¹ = z2
          grind
     _ = E al x * E ua x + E be x * E vb x := by rw [iσ, inν, inν', Rat.one_mul, Rat.one_mul, Rat.one_mul]
     _ = 1 := icop x
 obtain ⟨e1, e2⟩ := h.unique hq hcan
 rw [e1, e2]
 have hB : 2 * (b.length + 1 - L + (a.length + 1 - L)) < Wd.B := by rw [Wd.B_eq]; omega
 have hW := pw2 (u := u) hB hN1 hN0
 obtain ⟨zσ, hzσ⟩ : ∃ z : Int, z = s.getD (ln (Sg.rt s) - 1) 0 := ⟨_, rfl⟩
 have hσz : σ = (zσ : Rat) := by rw [hσe, Sg.rt_getD, hzσ]
 have hzσ0 : zσ ≠ 0 := fun e => hσ (by rw [hσz, e]; rfl)
 have hsi : ∀ l : List Int, (∀ z ∈ l, z ∈ s ++ t) → ∀ i, (l.getD i 0).natAbs ≤ (2 * (b.length + 1 - L + (a.length + 1 - L)) * Wd.B ^ u) ^ (b.length + 1 - L + (a.length + 1 - L) - 1) := fun l hl i => by
  by_cases hi : i < l.length
  · rw [List.getD_eq_getElem?_getD, List.getElem?_eq_getElem hi, Option.getD_some]
    exact hsm _ (hl _ (List.getElem_mem hi))
  · rw [List.getD_eq_getElem?_getD, List.getElem?_eq_none (Nat.le_of_not_lt hi)]
    simp
 have h1s := hsi s (fun z hz => List.mem_append.2 (.inl hz))
 have h1t := hsi t (fun z hz => List.mem_append.2 (.inr hz))
 have gd : ∀ (l : List Rat), (∀ i, Cm zσ.natAbs ((2 * (b.length + 1 - L + (a.length + 1 - L)) * Wd.B ^ u) ^ (b.length + 1 - L + (a.length + 1 - L) - 1)) (l.getD i 0)) → ∀ y ∈ l, Cm zσ.natAbs ((2 * (b.length + 1 - L + (a.length + 1 - L)) * Wd.B ^ u) ^ (b.length + 1 - L + (a.length + 1 - L) - 1)) y := fun l hl y hy => by
  obtain ⟨i, hi, rfl⟩ := List.mem_iff_getElem.1 hy
  have := hl i
  rwa [List.getD_eq_getElem?_getD, List.getElem?_eq_getElem hi, Option.getD_some] at this
 refine ⟨zσ.natAbs, by omega, Nat.lt_of_le_of_lt (by rw [hzσ]; exact h1s _) hW, _, hW, fun y hy => ?_⟩
 rcases List.mem_append.1 hy with hy | hy
 · refine gd _ (fun i => ?_) y hy
   refine Cm.div_int (S := -(t.getD i 0 : Int)) (z := -t.getD i 0) (by rw [Rat.intCast_neg]) (by rw [Int.natAbs_neg]; exact h1t i) hσz hzσ0 ?_
   rw [nm_getD, sc_getD, Sg.rt_getD]
   calc -((t.getD i 0 : Int) : Rat) = -(σ⁻¹ * σ) * ((t.getD i 0 : Int) : Rat) := by rw [iσ]; grind
    _ = _ := by grind
 · refine gd _ (fun i => ?_) y hy
   refine Cm.div_int (S := ((s.getD i 0 : Int) : Rat)) (z := s.getD i 0) rfl (h1s i) hσz hzσ0 ?_
   rw [hmoD, sc_getD, nm_getD, Sg.rt_getD, Rat.div_def, Rat.one_mul]
   calc ((s.getD i 0 : Int) : Rat) = (σ⁻¹ * σ) * ((s.getD i 0 : Int) : Rat) := by rw [iσ, Rat.one_mul]
    _ = _ := by grind
end Pq
