/-
  Plain polynomials: lists of fractions, told by their values. No program here.
-/
import Derived.Test.YtmmcffceeahemaaPlain
namespace Pq

/-- The value at a place. -/
def E : List Rat → Rat → Rat
  | [], _ => 0
  | a :: p, x => a + x * E p x
/-- The derivative's value. -/
def D : List Rat → Rat → Rat
  | [], _ => 0
  | _ :: p, x => E p x + x * D p x
def add : List Rat → List Rat → List Rat
  | [], q => q
  | a :: p, [] => a :: p
  | a :: p, b :: q => (a + b) :: add p q
def sc (c : Rat) (p : List Rat) : List Rat := p.map (c * ·)
def mul : List Rat → List Rat → List Rat
  | [], _ => []
  | a :: p, q => add (sc a q) (0 :: mul p q)
def dif : List Rat → List Rat
  | [] => []
  | _ :: p => add p (0 :: dif p)
/-- Without the noughts at its end. -/
def nm : List Rat → List Rat
  | [] => []
  | a :: p => if a = 0 ∧ nm p = [] then [] else a :: nm p

theorem den_mul (a : Rat) : (a.den : Rat) * a = (a.num : Rat) := by
  have h : (a.num : Rat) / (a.den : Rat) = a := by rw [← Rat.mkRat_eq_div, Rat.mkRat_self]
  have hd : (a.den : Rat) ≠ 0 := by
    intro e
    have : a.den = 0 := by exact_mod_cast e
    exact a.den_nz this
  rw [Rat.mul_comm]
  have h2 := Rat.div_mul_cancel (a := (a.num : Rat)) hd
  rw [h] at h2
  exact h2
theorem E_add : ∀ (p q : List Rat) (x : Rat), E (add p q) x = E p x + E q x
  | [], q, x => by simp only [add, E]; grind
  | a :: p, [], x => by simp only [add, E]; grind
  | a :: p, b :: q, x => by simp only [add, E, E_add p q x]; grind
theorem E_sc (c : Rat) : ∀ (p : List Rat) (x : Rat), E (sc c p) x = c * E p x
  | [], x => by simp [sc, E]
  | a :: p, x => by
    have := E_sc c p x
    unfold sc at this ⊢
    simp only [List.map_cons, E, this]
    grind
theorem E_mul : ∀ (p q : List Rat) (x : Rat), E (mul p q) x = E p x * E q x
  | [], q, x => by simp [mul, E]
  | a :: p, q, x => by simp only [mul, E_add, E_sc, E, E_mul p q x]; grind
theorem E_dif : ∀ (p : List Rat) (x : Rat), E (dif p) x = D p x
  | [], x => rfl
  | a :: p, x => by simp only [dif, E_add, E, D, E_dif p x]; grind
theorem E_append : ∀ (p q : List Rat) (x : Rat), E (p ++ q) x = E p x + x ^ p.length * E q x
  | [], q, x => by simp [E, Rat.zero_add]
  | a :: p, q, x => by simp only [List.cons_append, E, E_append p q x, List.length_cons, Rat.pow_succ]; grind
theorem D_add : ∀ (p q : List Rat) (x : Rat), D (add p q) x = D p x + D q x
  | [], q, x => by simp only [add, D]; grind
  | a :: p, [], x => by simp only [add, D]; grind
  | a :: p, b :: q, x => by simp only [add, D, E_add, D_add p q x]; grind
theorem D_sc (c : Rat) : ∀ (p : List Rat) (x : Rat), D (sc c p) x = c * D p x
  | [], x => by simp [sc, D]
  | a :: p, x => by
    have h := D_sc c p x
    have h2 := E_sc c p x
    unfold sc at h h2 ⊢
    simp only [List.map_cons, D, h, h2]
    grind
/-- Leibniz. -/
theorem D_mul : ∀ (p q : List Rat) (x : Rat), D (mul p q) x = D p x * E q x + E p x * D q x
  | [], q, x => by simp only [mul, D, E]; grind
  | a :: p, q, x => by simp only [mul, D_add, D_sc, D, E, E_mul, D_mul p q x]; grind

/-- All noughts. -/
def Z (p : List Rat) : Prop := ∀ a ∈ p, a = 0
theorem E_of_Z : ∀ {p : List Rat}, Z p → ∀ x, E p x = 0
  | [], _, x => rfl
  | a :: p, h, x => by
    have h1 : a = 0 := h a (by simp)
    have h2 := E_of_Z (p := p) (fun b hb => h b (by simp [hb])) x
    simp only [E, h1, h2]
    grind
/-- At whole places the values have one lower number. -/
theorem E_den : ∀ p : List Rat, ∃ d : Nat, d ≠ 0 ∧ ∀ n : Nat, ∃ z : Int, (d : Rat) * E p (n : Rat) = (z : Rat)
  | [] => ⟨1, by omega, fun n => ⟨0, by simp [E]⟩⟩
  | a :: p => by
    obtain ⟨d, hd, h⟩ := E_den p
    refine ⟨d * a.den, Nat.mul_ne_zero hd a.den_nz, fun n => ?_⟩
    obtain ⟨z, hz⟩ := h n
    refine ⟨d * a.num + a.den * (n * z), ?_⟩
    have ha : (a.den : Rat) * a = (a.num : Rat) := den_mul a
    simp only [E]
    push_cast
    grind
theorem zero_of_E : ∀ (p : List Rat) (N : Nat), (∀ n : Nat, N ≤ n → E p (n : Rat) = 0) → Z p
  | [], N, h => by simp [Z]
  | a :: p, N, h => by
    obtain ⟨d, hd, hz⟩ := E_den p
    have ha : (a.den : Rat) * a = (a.num : Rat) := den_mul a
    have key : ∀ n : Nat, N ≤ n → ∃ z : Int, (d : Int) * a.num + a.den * (n * z) = 0 := fun n hn => by
      obtain ⟨z, e⟩ := hz n
      refine ⟨z, ?_⟩
      have e2 := h n hn
      simp only [E] at e2
      have : (((d : Int) * a.num + a.den * (n * z) : Int) : Rat) = 0 := by
        push_cast
        grind
      exact_mod_cast this
    have ha0 : a = 0 := by
      obtain ⟨z, e⟩ := key (N + ((d : Int) * a.num).natAbs + 1) (by omega)
      have hz0 : z = 0 := by
        apply Classical.byContradiction
        intro hne
        obtain ⟨M, hM⟩ : ∃ M, (d : Int) * a.num = M := ⟨_, rfl⟩
        rw [hM] at e
        have e3 : M.natAbs = a.den * ((N + M.natAbs + 1) * z.natAbs) := by
          have : M = -(a.den * (((N + M.natAbs + 1 : Nat) : Int) * z)) := by omega
          have h9 := congrArg Int.natAbs this
          rw [Int.natAbs_neg, Int.natAbs_mul, Int.natAbs_mul, Int.natAbs_natCast, Int.natAbs_natCast] at h9
          exact h9
        have h1 : 1 ≤ z.natAbs := by omega
        have h2 : 1 ≤ a.den := a.den_pos
        have h3 : N + M.natAbs + 1 ≤ (N + M.natAbs + 1) * z.natAbs := Nat.le_mul_of_pos_right _ h1
        have h4 : (N + M.natAbs + 1) * z.natAbs ≤ a.den * ((N + M.natAbs + 1) * z.natAbs) := Nat.le_mul_of_pos_left _ h2
        omega
      subst hz0
      have e4 : (d : Int) * a.num = 0 := by simpa using e
      rcases Int.mul_eq_zero.1 e4 with h5 | h5
      · exact absurd (by omega) hd
      · exact Rat.num_eq_zero.1 h5
    have hp := zero_of_E p (N + 1) (fun n hn => by
      have := h n (by omega)
      simp only [E, ha0] at this
      have hn0 : (n : Rat) ≠ 0 := by
        intro e
        have : n = 0 := by exact_mod_cast e
        omega
      have : (n : Rat) * E p (n : Rat) = 0 := by grind
      rcases Rat.mul_eq_zero.1 this with h6 | h6
      · exact absurd h6 hn0
      · exact h6)
    intro b hb
    rcases List.mem_cons.1 hb with rfl | hb
    · exact ha0
    · exact hp b hb

theorem nm_nil_iff : ∀ p : List Rat, nm p = [] ↔ Z p
  | [] => by simp [nm, Z]
  | a :: p => by
    have ih := nm_nil_iff p
    unfold nm
    constructor
    · intro h
      split at h
      · rename_i hh
        intro b hb
        rcases List.mem_cons.1 hb with rfl | hb
        · exact hh.1
        · exact ih.1 hh.2 b hb
      · cases h
    · intro h
      rw [if_pos ⟨h a (by simp), ih.2 (fun b hb => h b (by simp [hb]))⟩]
theorem E_nm : ∀ (p : List Rat) (x : Rat), E (nm p) x = E p x
  | [], x => rfl
  | a :: p, x => by
    have ih := E_nm p x
    unfold nm
    split
    · rename_i h
      have := E_of_Z ((nm_nil_iff p).1 h.2) x
      simp only [E, h.1, this]
      grind
    · simp only [E, ih]
theorem nm_len : ∀ p : List Rat, (nm p).length ≤ p.length
  | [] => Nat.le_refl _
  | a :: p => by
    have := nm_len p
    unfold nm
    split <;> simp <;> omega
theorem nm_nm : ∀ p : List Rat, nm (nm p) = nm p
  | [] => rfl
  | a :: p => by
    have ih := nm_nm p
    by_cases h : a = 0 ∧ nm p = []
    · have e : nm (a :: p) = [] := by unfold nm; rw [if_pos h]
      rw [e]; rfl
    · have e : nm (a :: p) = a :: nm p := by conv => lhs; unfold nm; rw [if_neg h]
      rw [e]
      show (if a = 0 ∧ nm (nm p) = [] then [] else a :: nm (nm p)) = a :: nm p
      rw [ih, if_neg h]
/-- What has the same values is the same but for noughts at the end. -/
theorem nm_ext : ∀ {p q : List Rat}, (∀ x, E p x = E q x) → nm p = nm q
  | [], q, h => by
    have : Z q := zero_of_E q 0 (fun n _ => by rw [← h]; rfl)
    rw [(nm_nil_iff q).2 this]; rfl
  | a :: p, [], h => by
    have : Z (a :: p) := zero_of_E _ 0 (fun n _ => by rw [h]; rfl)
    rw [(nm_nil_iff _).2 this]; rfl
  | a :: p, b :: q, h => by
    have hab : a = b := by
      have := h 0
      simp only [E] at this
      grind
    subst hab
    have hz : Z (add p (sc (-1) q)) := zero_of_E _ 1 (fun n hn => by
      have := h n
      simp only [E] at this
      have hn0 : (n : Rat) ≠ 0 := by
        intro e
        have : n = 0 := by exact_mod_cast e
        omega
      have h2 : (n : Rat) * (E p n - E q n) = 0 := by grind
      rw [E_add, E_sc]
      rcases Rat.mul_eq_zero.1 h2 with h3 | h3
      · exact absurd h3 hn0
      · grind)
    have ih := nm_ext (p := p) (q := q) (fun x => by
      have := E_of_Z hz x
      rw [E_add, E_sc] at this
      grind)
    unfold nm
    rw [ih]
theorem E_ext {p q : List Rat} (h : nm p = nm q) (x : Rat) : E p x = E q x := by rw [← E_nm p, ← E_nm q, h]

/-- The value where one coefficient is raised. -/
theorem E_set : ∀ (o : List Rat) (j : Nat) (y : Rat) (x : Rat), j < o.length → E (o.set j (o.getD j 0 + y)) x = E o x + x ^ j * y
  | [], j, y, x, h => by simp at h
  | a :: o, 0, y, x, h => by simp [E]; grind
  | a :: o, j + 1, y, x, h => by
    have := E_set o j y x (by simpa using h)
    simp only [List.getD_cons_succ, List.set_cons_succ, E, this, Rat.pow_succ]
    grind
theorem E_replicate (n : Nat) (x : Rat) : E (List.replicate n 0) x = 0 := E_of_Z (fun _ ha => (List.mem_replicate.1 ha).2) x
theorem E_take_succ {p : List Rat} {k : Nat} (h : k < p.length) (x : Rat) : E (p.take (k + 1)) x = E (p.take k) x + x ^ k * p[k] := by
  rw [List.take_succ_eq_append_getElem h, E_append]
  simp only [E, List.length_take, Nat.min_eq_left (Nat.le_of_lt h)]
  grind
theorem sc_one (p : List Rat) : sc 1 p = p := by
  unfold sc
  induction p with
  | nil => rfl
  | cons a p ih => rw [List.map_cons, ih, Rat.one_mul]
theorem nm_take : ∀ {p : List Rat} {n : Nat}, n ≤ p.length → (∀ i, n ≤ i → p.getD i 0 = 0) → (n = 0 ∨ p.getD (n - 1) 0 ≠ 0) → nm p = p.take n
  | [], n, _, _, _ => by simp [nm]
  | a :: p, 0, _, h, _ => by
    rw [(nm_nil_iff (a :: p)).2]
    · rfl
    · intro b hb
      obtain ⟨i, hi, rfl⟩ := List.getElem_of_mem hb
      have := h i (Nat.zero_le _)
      simpa [List.getD_eq_getElem?_getD, List.getElem?_eq_getElem hi] using this
  | a :: p, n + 1, hn, h, h2 => by
    have hn' : n ≤ p.length := by simpa using hn
    have hz : ∀ i, n ≤ i → p.getD i 0 = 0 := fun i hi => by
      have := h (i + 1) (by omega)
      simpa using this
    by_cases h0 : n = 0
    · subst h0
      have ha : a ≠ 0 := by
        rcases h2 with h2 | h2
        · omega
        · simpa using h2
      have ih := nm_take (p := p) (n := 0) (Nat.zero_le _) hz (.inl rfl)
      show (if a = 0 ∧ nm p = [] then [] else a :: nm p) = a :: p.take 0
      rw [if_neg (fun hh => ha hh.1), ih]
    · have h3 : p.getD (n - 1) 0 ≠ 0 := by
        rcases h2 with h2 | h2
        · omega
        · have e : n + 1 - 1 = (n - 1) + 1 := by omega
          rw [e] at h2
          simpa using h2
      have ih := nm_take (p := p) (n := n) hn' hz (.inr h3)
      have hne : nm p ≠ [] := by
        rw [ih]
        intro e
        have h9 : (p.take n).length = 0 := by rw [e]; rfl
        rw [List.length_take] at h9
        omega
      show (if a = 0 ∧ nm p = [] then [] else a :: nm p) = a :: p.take n
      rw [if_neg (fun hh => hne hh.2), ih]
/-- The place of the last one that is not 0. -/
theorem getD_at {p : List Rat} {i : Nat} (h : i < p.length) : p.getD i 0 = p[i] := by simp [List.getD_eq_getElem?_getD, List.getElem?_eq_getElem h]
end Pq
